/- Contracts of package addr and of the reference's layer 4: numbers and networks. -/
import Derived.Test.YtebeknnjjoobnaaKept
import Derived.Test.YtebeknnjjoobnaaNetEq
import Derived.LoopTactic
import Derived.Deep.RegionHeld3
import Derived.Laws.Bits128
set_option linter.unusedVariables false
set_option linter.unusedSimpArgs false
namespace Go.Proofs.Ytebeknnjjoobnaa
open Go.RowKit
attribute [local go_sem] max2_int min2_int max_two min_two
attribute [local go_sem ↓] eql_nt neq_nt eql_ad

/-- An address' number. -/
def numA (a b c d : Int) : Int := ((a * 256 + b) * 256 + c) * 256 + d
theorem numA_bd {a b c d : Int} (ha : 0 ≤ a ∧ a ≤ 255) (hb : 0 ≤ b ∧ b ≤ 255) (hc : 0 ≤ c ∧ c ≤ 255) (hd : 0 ≤ d ∧ d ≤ 255) : 0 ≤ numA a b c d ∧ numA a b c d ≤ 4294967295 := by unfold numA; omega
theorem ret_u32 {a b : Int} (h : a = b) : Ending.returned (.int .u32 a) = .returned (.int .u32 b) := by rw [h]
theorem bits_or_u32_nat (a b : Nat) (ha : a < 4294967296) (hb : b < 4294967296) : bits .or .u32 (a : Int) (b : Int) = ((a ||| b : Nat) : Int) := by
  show IntKind.u32.wrap ((BitVec.ofInt 32 a ||| BitVec.ofInt 32 b).toNat : Nat) = _
  have h1 : (a ||| b) < 2 ^ 32 := Nat.or_lt_two_pow (by omega) (by omega)
  rw [BitVec.toNat_or, BitVec.toNat_ofInt, BitVec.toNat_ofInt, IntKind.wrap_u32]
  have e1 : ((a : Int) % ((2 ^ 32 : Nat) : Int)).toNat = a := by omega
  have e2 : ((b : Int) % ((2 ^ 32 : Nat) : Int)).toNat = b := by omega
  rw [e1, e2]
  omega
theorem bits_and_u32_nat (a b : Nat) (ha : a < 4294967296) (hb : b < 4294967296) : bits .and .u32 (a : Int) (b : Int) = ((a &&& b : Nat) : Int) := by
  show IntKind.u32.wrap ((BitVec.ofInt 32 a &&& BitVec.ofInt 32 b).toNat : Nat) = _
  have h1 : (a &&& b) < 2 ^ 32 := Nat.lt_of_le_of_lt Nat.and_le_left (by omega)
  rw [BitVec.toNat_and, BitVec.toNat_ofInt, BitVec.toNat_ofInt, IntKind.wrap_u32]
  have e1 : ((a : Int) % ((2 ^ 32 : Nat) : Int)).toNat = a := by omega
  have e2 : ((b : Int) % ((2 ^ 32 : Nat) : Int)).toNat = b := by omega
  rw [e1, e2]
  omega
theorem u32_or_byte (n c : Int) (hn : 0 ≤ n ∧ n ≤ 16777215) (hc : 0 ≤ c ∧ c ≤ 255) : bits .or .u32 (n * 256) c = n * 256 + c := by
  obtain ⟨a, rfl⟩ := Int.eq_ofNat_of_zero_le hn.1
  obtain ⟨b, rfl⟩ := Int.eq_ofNat_of_zero_le hc.1
  have h := bits_or_u32_nat (2 ^ 8 * a) b (by omega) (by omega)
  rw [← Nat.two_pow_add_eq_or_of_lt (by omega : b < 2 ^ 8)] at h
  rw [show ((a : Int) * 256) = ((2 ^ 8 * a : Nat) : Int) by omega, h]
  omega

set_option maxHeartbeats 800000 in
theorem anum_any (a b c d : Int) (w : World) (ha : 0 ≤ a ∧ a ≤ 255) (hb : 0 ≤ b ∧ b ≤ 255) (hc : 0 ≤ c ∧ c ≤ 255) (hd : 0 ≤ d ∧ d ≤ 255) :
    Calls Try.prog 30 #[.agg #[.int .u8 a, .int .u8 b, .int .u8 c, .int .u8 d]] w fun e w' => e = .returned (.int .u32 (numA a b c d)) ∧ Below w.heap.size w w' := by
  have i0 : ∀ w, (Instr.index 27 (.agg #[.int .u8 a, .int .u8 b, .int .u8 c, .int .u8 d]) (.int .i64 0)).run Try.prog w = .ok (.int .u8 a) w := fun _ => by kernel_rfl
  have i1 : ∀ w, (Instr.index 27 (.agg #[.int .u8 a, .int .u8 b, .int .u8 c, .int .u8 d]) (.int .i64 1)).run Try.prog w = .ok (.int .u8 b) w := fun _ => by kernel_rfl
  have i2 : ∀ w, (Instr.index 27 (.agg #[.int .u8 a, .int .u8 b, .int .u8 c, .int .u8 d]) (.int .i64 2)).run Try.prog w = .ok (.int .u8 c) w := fun _ => by kernel_rfl
  have i3 : ∀ w, (Instr.index 27 (.agg #[.int .u8 a, .int .u8 b, .int .u8 c, .int .u8 d]) (.int .i64 3)).run Try.prog w = .ok (.int .u8 d) w := fun _ => by kernel_rfl
  have o0 : bits .or .u32 0 a = a := by have := u32_or_byte 0 a (by omega) ha; simpa using this
  have o1 := u32_or_byte a b (by omega) hb
  have o2 := u32_or_byte (a * 256 + b) c (by omega) hc
  have o3 := u32_or_byte ((a * 256 + b) * 256 + c) d (by omega) hd
  go_enter Try.func30, Try.ntmps30
  go_wp2
  refine wp_loop_rounds 5 ?_
  rw [rounds_succ]
  go_wp2
  rw [rounds_succ]
  go_wp2
  rw [rounds_succ]
  go_wp2
  rw [rounds_succ]
  go_wp2
  rw [rounds_succ]
  go_wp2
  go_ret
  exact ⟨rfl, bl_alloc (Below.refl _ _) _⟩

theorem rnum_any (a b c d : Int) (w : World) (ha : 0 ≤ a ∧ a ≤ 255) (hb : 0 ≤ b ∧ b ≤ 255) (hc : 0 ≤ c ∧ c ≤ 255) (hd : 0 ≤ d ∧ d ≤ 255) :
    Calls Try.prog 34 #[.agg #[.int .u8 a, .int .u8 b, .int .u8 c, .int .u8 d]] w fun e w' => e = .returned (.int .u32 (numA a b c d)) ∧ Below w.heap.size w w' := by
  go_enter Try.func34, Try.ntmps34
  go_wp2
  go_ret
  exact ⟨ret_u32 (by unfold numA; omega), bl_alloc (Below.refl _ _) _⟩

/-- The address of a number, as its bytes. -/
theorem aof_any (n : Int) (w : World) (h : 0 ≤ n ∧ n ≤ 4294967295) :
    Calls Try.prog 36 #[.int .u32 n] w fun e w' => e = .returned (.agg #[.int .u8 (n / 16777216), .int .u8 (n / 65536 % 256), .int .u8 (n / 256 % 256), .int .u8 (n % 256)]) ∧ Below w.heap.size w w' := by
  go_enter Try.func36, Try.ntmps36
  go_wp2
  refine bodyPost_ret (v := .agg #[.int .u8 (n / 16777216), .int .u8 (n / 65536 % 256), .int .u8 (n / 256 % 256), .int .u8 (n % 256)]) (by simp [results, Try.results36, go_sem]) rfl ⟨rfl, ?_⟩
  exact bl_alloc (Below.refl _ _) _

theorem rof_any (n : Int) (w : World) (h : 0 ≤ n ∧ n ≤ 4294967295) :
    Calls Try.prog 35 #[.int .u32 n] w fun e w' => e = .returned (.agg #[.int .u8 (n / 16777216), .int .u8 (n / 65536 % 256), .int .u8 (n / 256 % 256), .int .u8 (n % 256)]) ∧ Below w.heap.size w w' := by
  go_enter Try.func35, Try.ntmps35
  go_wp2
  refine bodyPost_ret (v := .agg #[.int .u8 (n / 16777216), .int .u8 (n / 65536 % 256), .int .u8 (n / 256 % 256), .int .u8 (n % 256)]) (by simp [results, Try.results35, go_sem]) rfl ⟨rfl, ?_⟩
  exact bl_alloc (Below.refl _ _) _

/-- A number from 0 to 32. -/
def clampN (b : Int) : Nat := if b < 0 then 0 else if 32 < b then 32 else b.toNat
theorem clampN_le (b : Int) : clampN b ≤ 32 := by
  unfold clampN
  split
  · omega
  · split <;> omega
theorem clampN_id {b : Int} (h0 : 0 ≤ b) (h : b ≤ 32) : (clampN b : Int) = b := by unfold clampN; rw [if_neg (by omega), if_neg (by omega)]; omega
theorem pow_bd {j : Nat} (h : j ≤ 32) : 1 ≤ (2 : Int) ^ j ∧ (2 : Int) ^ j ≤ 4294967296 := by
  have h1 : 1 ≤ (2 : Nat) ^ j := Nat.one_le_two_pow
  have h2 : (2 : Nat) ^ j ≤ 2 ^ 32 := Nat.pow_le_pow_right (by decide) h
  have e : ((2 ^ j : Nat) : Int) = (2 : Int) ^ j := by simp
  rw [← e]
  have : (2 : Nat) ^ 32 = 4294967296 := by decide
  omega
theorem pow_bd31 {j : Nat} (h : j ≤ 31) : (2 : Int) ^ j ≤ 2147483648 := by
  have h2 : (2 : Nat) ^ j ≤ 2 ^ 31 := Nat.pow_le_pow_right (by decide) h
  have e : ((2 ^ j : Nat) : Int) = (2 : Int) ^ j := by simp
  rw [← e]
  have : (2 : Nat) ^ 31 = 2147483648 := by decide
  omega
theorem and_mask_nat (n j : Nat) (hn : n < 2 ^ 32) (hj : j ≤ 32) : n &&& (2 ^ 32 - 2 ^ j) = n / 2 ^ j * 2 ^ j := by
  have e1 : 2 ^ 32 - 2 ^ j = (2 ^ (32 - j) - 1) <<< j := by
    rw [Nat.shiftLeft_eq, Nat.sub_mul, Nat.one_mul, ← Nat.pow_add]
    congr 2; omega
  have e2 : n / 2 ^ j * 2 ^ j = (n >>> j) <<< j := by rw [Nat.shiftLeft_eq, Nat.shiftRight_eq_div_pow]
  rw [e1, e2]
  refine Nat.eq_of_testBit_eq fun i => ?_
  rw [Nat.testBit_and, Nat.testBit_shiftLeft, Nat.testBit_shiftLeft, Nat.testBit_two_pow_sub_one, Nat.testBit_shiftRight]
  by_cases h : j ≤ i
  · simp only [ge_iff_le, h, decide_true, Bool.true_and, show j + (i - j) = i from by omega]
    by_cases h3 : i < 32
    · rw [decide_eq_true (by omega : i - j < 32 - j), Bool.and_true]
    · have : n.testBit i = false := Nat.testBit_lt_two_pow (Nat.lt_of_lt_of_le hn (Nat.pow_le_pow_right (by decide) (by omega)))
      rw [this, Bool.false_and]
  · simp [h]
/-- An address' number, of which only so many first bits count. -/
def cutA (n : Int) (k : Nat) : Int := n / 2 ^ (32 - k) * 2 ^ (32 - k)
theorem cutA_bd {n : Int} {k : Nat} (h : 0 ≤ n ∧ n ≤ 4294967295) : 0 ≤ cutA n k ∧ cutA n k ≤ n := by
  unfold cutA
  have hp := (pow_bd (j := 32 - k) (by omega)).1
  have h1 := Int.ediv_nonneg h.1 (by omega : (0 : Int) ≤ 2 ^ (32 - k))
  exact ⟨Int.mul_nonneg h1 (by omega), Int.ediv_mul_le n (by omega)⟩
theorem and_mask {n : Int} {k : Nat} (h : 0 ≤ n ∧ n ≤ 4294967295) (hk : k ≤ 32) : bits .and .u32 n (4294967296 - 2 ^ (32 - k)) = cutA n k := by
  obtain ⟨m, rfl⟩ := Int.eq_ofNat_of_zero_le h.1
  unfold cutA
  have hp := pow_bd (j := 32 - k) (by omega)
  have e : ((2 ^ (32 - k) : Nat) : Int) = (2 : Int) ^ (32 - k) := by simp
  have hle : (2 : Nat) ^ (32 - k) ≤ 4294967296 := by omega
  rw [← e] at hp ⊢
  have hm : ((4294967296 : Int) - ((2 ^ (32 - k) : Nat) : Int)) = ((2 ^ 32 - 2 ^ (32 - k) : Nat) : Int) := by
    have : (2 : Nat) ^ 32 = 4294967296 := by decide
    omega
  rw [hm, bits_and_u32_nat _ _ (by omega) (by have : (2 : Nat) ^ 32 = 4294967296 := by decide
                                              omega), and_mask_nat _ _ (by have : (2 : Nat) ^ 32 = 4294967296 := by decide
                                                                           omega) (by omega)]
  rw [Int.natCast_mul, Int.natCast_ediv]
set_option maxHeartbeats 400000 in
theorem mask_any (b : Int) (w : World) : Calls Try.prog 37 #[.int .i64 b] w fun e w' => e = .returned (.int .u32 (4294967296 - 2 ^ (32 - clampN b))) ∧ w = w' := by
  by_cases h0 : b ≤ 0
  · have hc : clampN b = 0 := by
      unfold clampN
      split
      · rfl
      · rw [if_neg (by omega)]; omega
    rw [hc]
    by_cases h1 : b = 0
    · subst h1
      go_enter Try.func37, Try.ntmps37
      go_wp2
      go_ret
      exact ⟨ret_u32 (by decide), rfl⟩
    · have k1 : ¬ 32 < b := by omega
      have k2 : ¬ 0 < b := by omega
      go_enter Try.func37, Try.ntmps37
      go_wp2
      go_ret
      exact ⟨ret_u32 (by decide), rfl⟩
  · by_cases h1 : 32 < b
    · have hc : clampN b = 32 := by unfold clampN; rw [if_neg (by omega), if_pos h1]
      rw [hc]
      go_enter Try.func37, Try.ntmps37
      go_wp2
      go_ret
      exact ⟨ret_u32 (by decide), rfl⟩
    · have hc : 32 - clampN b = (32 - b).toNat := by unfold clampN; rw [if_neg (by omega), if_neg h1]; omega
      rw [hc]
      have k2 : 0 < b := by omega
      have hp := pow_bd (j := (32 - b).toNat) (by omega)
      have hp2 := pow_bd31 (j := (32 - b).toNat) (by omega)
      go_enter Try.func37, Try.ntmps37
      go_wp2
      go_ret
      exact ⟨ret_u32 (by generalize (2 : Int) ^ (32 - b).toNat = p at *; (try simp only [IntKind.wrap_u32]); omega), rfl⟩

theorem hold5 {w : World} {g : Nat} {a b c d e : Value} {t : TypeId} (h : Bk w g #[a, b, c, d, e] t) :
    w.cell? ⟨g, 0, none⟩ = some a ∧ w.cell? ⟨g, 1, none⟩ = some b ∧ w.cell? ⟨g, 2, none⟩ = some c ∧ w.cell? ⟨g, 3, none⟩ = some d ∧ w.cell? ⟨g, 4, none⟩ = some e ∧ w.frozen? ⟨g, 0, none⟩ = false ∧ w.frozen? ⟨g, 1, none⟩ = false ∧ w.frozen? ⟨g, 2, none⟩ = false ∧ w.frozen? ⟨g, 3, none⟩ = false ∧ w.frozen? ⟨g, 4, none⟩ = false :=
  ⟨(bk_cell h 0).trans rfl, (bk_cell h 1).trans rfl, (bk_cell h 2).trans rfl, (bk_cell h 3).trans rfl, (bk_cell h 4).trans rfl, bk_frozen h 0, bk_frozen h 1, bk_frozen h 2, bk_frozen h 3, bk_frozen h 4⟩
/-- A network of an address: the cells of the value. -/
def cutV (a b c d bits : Int) : Int × Int × Int × Int × Int :=
  (cutA (numA a b c d) (clampN bits) / 16777216, cutA (numA a b c d) (clampN bits) / 65536 % 256, cutA (numA a b c d) (clampN bits) / 256 % 256, cutA (numA a b c d) (clampN bits) % 256, (clampN bits : Int))
theorem put5 {w : World} {g : Nat} {a b c d e : Value} {x y : Int} {t : TypeId} (h : Bk w g #[a, b, c, d, e] t) (hxy : x = y) : Bk (w.setCell ⟨g, 4, none⟩ (.int .i64 x)) g #[a, b, c, d, .int .i64 y] t := by
  subst hxy; exact bk_put h rfl
theorem res_cut {w : World} {g : Nat} {a b c d e : Value} {t : TypeId} (h : Bk w g #[a, b, c, d, e] t) (tmps : Array Value) (h4 : tmps[4]?.getD undef = .pointer (some ⟨g, 0, none⟩)) :
    (results Try.f25 tmps).run Try.prog w = .ok (.agg #[a, b, c, d, e]) w := by
  obtain ⟨z0, z1, z2, z3, z4, _⟩ := hold5 h
  simp [results, Try.results25, go_sem, h4, z0, z1, z2, z3, z4]
set_option maxHeartbeats 800000 in
theorem acut_any (a b c d n : Int) (w : World) (ha : 0 ≤ a ∧ a ≤ 255) (hb : 0 ≤ b ∧ b ≤ 255) (hc : 0 ≤ c ∧ c ≤ 255) (hd : 0 ≤ d ∧ d ≤ 255) :
    Calls Try.prog 25 #[.agg #[.int .u8 a, .int .u8 b, .int .u8 c, .int .u8 d], .int .i64 n] w fun e w' => e = .returned (.agg #[.int .u8 (cutV a b c d n).1, .int .u8 (cutV a b c d n).2.1, .int .u8 (cutV a b c d n).2.2.1, .int .u8 (cutV a b c d n).2.2.2.1, .int .i64 (cutV a b c d n).2.2.2.2]) ∧ Below w.heap.size w w' := by
  have hN := numA_bd ha hb hc hd
  have hm := and_mask (k := clampN n) hN (clampN_le n)
  have hC := cutA_bd (k := clampN n) hN
  have hcl : (if (0 : Int) < (if (32 : Int) < n then 32 else n) then (if (32 : Int) < n then 32 else n) else 0) = (clampN n : Int) := by unfold clampN; split <;> split <;> (try split) <;> omega
  replace hcl := Lib.hid hcl
  unfold cutV
  dsimp only
  obtain ⟨N, hNN⟩ : ∃ N, numA a b c d = N := ⟨_, rfl⟩
  obtain ⟨C, hCC⟩ : ∃ C, cutA N (clampN n) = C := ⟨_, rfl⟩
  rw [hNN] at hm hC hN ⊢
  rw [hCC] at hm hC ⊢
  replace hNN := Lib.hid hNN
  replace hCC := Lib.hid hCC
  go_enter Try.func25, Try.ntmps25
  go_wp2_with (first | (go_at_call 30; (with_reducible refine (anum_any a b c d _ ha hb hc hd).mono ?_); rw [hNN.out]; rintro e w1 ⟨rfl, hB1⟩) | (go_at_call 37; (with_reducible refine (mask_any n _).mono ?_); rintro e w' ⟨rfl, rfl⟩) | (go_at_call 36; (with_reducible refine (aof_any C _ (by omega)).mono ?_); rintro e w2 ⟨rfl, hB2⟩; have hz := bk_below hB2 (bk_below hB1 (bk_at (w := w.alloc (.cells #[.int .u8 a, .int .u8 b, .int .u8 c, .int .u8 d] 27)) (g := w.heap.size + 1) (cs := #[.int .u8 0, .int .u8 0, .int .u8 0, .int .u8 0, .int .i64 0]) (t := 29) (by simp))); obtain ⟨z0, z1, z2, z3, z4, f0, f1, f2, f3, f4⟩ := hold5 hz))
  all_goals
    refine bodyPost_ret (res_cut (put5 (bk_put (bk_put (bk_put (bk_put hz rfl) rfl) rfl) rfl) ?_) _ rfl) rfl ⟨rfl, ?_⟩
    · unfold clampN; (repeat' split) <;> omega
    · repeat (with_reducible first | exact Below.refl _ _ | apply bl_alloc | (refine bl_set ?_ (by dsimp only; omega) _) | refine bl_then ?_ hB2 | refine bl_then ?_ hB1)

theorem cutV_ok {a b c d : Int} (h : AdOk a b c d) (n : Int) : NtOk (cutV a b c d n).1 (cutV a b c d n).2.1 (cutV a b c d n).2.2.1 (cutV a b c d n).2.2.2.1 (cutV a b c d n).2.2.2.2 := by
  have hN := numA_bd h.1 h.2.1 h.2.2.1 h.2.2.2
  have hC := cutA_bd (k := clampN n) hN
  have hk := clampN_le n
  unfold cutV NtOk AdOk
  dsimp only
  generalize cutA (numA a b c d) (clampN n) = C at *
  omega
/-- Can it be a network? -/
def rightB (a b c d n : Int) : Bool := decide (0 ≤ n ∧ n ≤ 32 ∧ cutV a b c d n = (a, b, c, d, n))
theorem rightB_of {a b c d n : Int} (h0 : 0 ≤ n) (h1 : n ≤ 32) : eqN ((cutV a b c d n).1, (cutV a b c d n).2.1, (cutV a b c d n).2.2.1, (cutV a b c d n).2.2.2.1, (cutV a b c d n).2.2.2.2) (a, b, c, d, n) = rightB a b c d n := by
  unfold rightB eqN
  show decide (cutV a b c d n = (a, b, c, d, n)) = _
  simp [h0, h1]
set_option maxHeartbeats 800000 in
theorem aright_any (a b c d n : Int) (w : World) (hok : NtOk a b c d n) :
    Calls Try.prog 22 #[.agg #[.int .u8 a, .int .u8 b, .int .u8 c, .int .u8 d, .int .i64 n]] w fun e w' => e = .returned (.bool (rightB a b c d n)) ∧ Below w.heap.size w w' := by
  obtain ⟨ha, hb, hc, hd⟩ := hok.1
  by_cases c0 : n < 0
  · have d0 : decide (0 ≤ n) = false := decide_eq_false (by omega)
    have hf : rightB a b c d n = false := decide_eq_false (by omega)
    rw [hf]
    go_enter Try.func22, Try.ntmps22
    go_wp2
    go_quiet (fail)
    go_wp2
    go_ret
    exact ⟨rfl, bl_drewN (bl_alloc (Below.refl _ _) _) _⟩
  have d0 : decide (0 ≤ n) = true := decide_eq_true (by omega)
  by_cases c1 : 32 < n
  · have d1 : decide (n ≤ 32) = false := decide_eq_false (by omega)
    have hf : rightB a b c d n = false := decide_eq_false (by omega)
    rw [hf]
    go_enter Try.func22, Try.ntmps22
    go_wp2
    go_quiet (fail)
    go_wp2
    go_ret
    exact ⟨rfl, bl_drewN (bl_alloc (Below.refl _ _) _) _⟩
  have d1 : decide (n ≤ 32) = true := decide_eq_true (by omega)
  have hbx := bk_new w #[.int .u8 a, .int .u8 b, .int .u8 c, .int .u8 d, .int .i64 n] 29
  have hck := cutV_ok hok.1 n
  have hfin := Lib.hid (rightB_of (a := a) (b := b) (c := c) (d := d) (n := n) (by omega) (by omega))
  go_enter Try.func22, Try.ntmps22
  go_wp2
  refine wp_region_noPanic ?_
  refine wp_region_held_drew (S := fun w' => Bk w' w.heap.size #[.int .u8 a, .int .u8 b, .int .u8 c, .int .u8 d, .int .i64 n] 29) (by kernel_rfl) (bk_drew hbx) (fun hHeld => ?_)
  refine wpAnyH_take (i := 0) (oi := { dst := some 3, op := Go.Op.fieldAddr 29 (Go.Operand.tmp 1) 1, type := 0, pos := "addr.go:37", after := #[], guard := none }) (v := ?_) rfl (by kernel_rfl) (by kernel_rfl) (by kernel_rfl) (fun _ _ _ h => h) (Or.inl ⟨by rfl, ?_⟩) (by assumption) ?_
  rotate_left 1
  · intro w' hSw
    first | (go_simp; done) | (go_simp; with_reducible rfl)
  try simp only [Act.put, List.getElem_toArray, List.getElem_cons_succ, List.getElem_cons_zero, List.setIfInBounds_toArray, List.set_cons_zero, List.set_cons_succ]
  refine wpAnyH_take (i := 1) (oi := { dst := some 4, op := Go.Op.load 3 (Go.Operand.tmp 3), type := 3, pos := "addr.go:37", after := #[{ on := 0, ground := Go.Ground.data }], guard := none }) (v := ?_) rfl (by kernel_rfl) (by kernel_rfl) (by kernel_rfl) (fun _ _ _ h => h) (Or.inl ⟨by rfl, ?_⟩) (by assumption) ?_
  rotate_left 1
  · intro w' hSw
    obtain ⟨z0, z1, z2, z3, z4, _⟩ := hold5 hSw
    first | (go_simp; done) | (go_simp; with_reducible rfl)
  try simp only [Act.put, List.getElem_toArray, List.getElem_cons_succ, List.getElem_cons_zero, List.setIfInBounds_toArray, List.set_cons_zero, List.set_cons_succ]
  refine wpAnyH_take (i := 2) (oi := { dst := some 5, op := Go.Op.binOp Go.BinOp.geq 3 (Go.Operand.tmp 4) (Go.Operand.const (Go.Value.int Go.IntKind.i64 0)) 3, type := 4, pos := "addr.go:37", after := #[{ on := 1, ground := Go.Ground.data }], guard := none }) (v := ?_) rfl (by kernel_rfl) (by kernel_rfl) (by kernel_rfl) (fun _ _ _ h => h) (Or.inl ⟨by rfl, ?_⟩) (by assumption) ?_
  rotate_left 1
  · intro w' hSw
    first | (go_simp; done) | (go_simp; with_reducible rfl)
  try simp only [Act.put, List.getElem_toArray, List.getElem_cons_succ, List.getElem_cons_zero, List.setIfInBounds_toArray, List.set_cons_zero, List.set_cons_succ]
  refine wpAnyH_take (i := 3) (oi := { dst := some 6, op := Go.Op.move (Go.Operand.tmp 5), type := 4, pos := "addr.go:37", after := #[{ on := 2, ground := Go.Ground.data }], guard := none }) (v := ?_) rfl (by kernel_rfl) (by kernel_rfl) (by kernel_rfl) (fun _ _ _ h => h) (Or.inl ⟨by rfl, ?_⟩) (by assumption) ?_
  rotate_left 1
  · intro w' hSw
    first | (go_simp; done) | (go_simp; with_reducible rfl)
  try simp only [Act.put, List.getElem_toArray, List.getElem_cons_succ, List.getElem_cons_zero, List.setIfInBounds_toArray, List.set_cons_zero, List.set_cons_succ]
  refine wpAnyH_take (i := 4) (oi := { dst := some 7, op := Go.Op.fieldAddr 29 (Go.Operand.tmp 1) 1, type := 0, pos := "addr.go:37", after := #[{ on := 3, ground := Go.Ground.guard }], guard := some (3, true) }) (v := ?_) rfl (by kernel_rfl) (by kernel_rfl) (by kernel_rfl) (fun _ _ _ h => h) (Or.inl ⟨by rfl, ?_⟩) (by assumption) ?_
  rotate_left 1
  · intro w' hSw
    first | (go_simp; done) | (go_simp; with_reducible rfl)
  try simp only [Act.put, List.getElem_toArray, List.getElem_cons_succ, List.getElem_cons_zero, List.setIfInBounds_toArray, List.set_cons_zero, List.set_cons_succ]
  refine wpAnyH_take (i := 5) (oi := { dst := some 8, op := Go.Op.load 3 (Go.Operand.tmp 7), type := 3, pos := "addr.go:37", after := #[{ on := 4, ground := Go.Ground.data }, { on := 3, ground := Go.Ground.guard }], guard := some (3, true) }) (v := ?_) rfl (by kernel_rfl) (by kernel_rfl) (by kernel_rfl) (fun _ _ _ h => h) (Or.inl ⟨by rfl, ?_⟩) (by assumption) ?_
  rotate_left 1
  · intro w' hSw
    obtain ⟨z0, z1, z2, z3, z4, _⟩ := hold5 hSw
    first | (go_simp; done) | (go_simp; with_reducible rfl)
  try simp only [Act.put, List.getElem_toArray, List.getElem_cons_succ, List.getElem_cons_zero, List.setIfInBounds_toArray, List.set_cons_zero, List.set_cons_succ]
  refine wpAnyH_take (i := 6) (oi := { dst := some 9, op := Go.Op.binOp Go.BinOp.leq 3 (Go.Operand.tmp 8) (Go.Operand.const (Go.Value.int Go.IntKind.i64 32)) 3, type := 4, pos := "addr.go:37", after := #[{ on := 5, ground := Go.Ground.data }, { on := 3, ground := Go.Ground.guard }], guard := some (3, true) }) (v := ?_) rfl (by kernel_rfl) (by kernel_rfl) (by kernel_rfl) (fun _ _ _ h => h) (Or.inl ⟨by rfl, ?_⟩) (by assumption) ?_
  rotate_left 1
  · intro w' hSw
    first | (go_simp; done) | (go_simp; with_reducible rfl)
  try simp only [Act.put, List.getElem_toArray, List.getElem_cons_succ, List.getElem_cons_zero, List.setIfInBounds_toArray, List.set_cons_zero, List.set_cons_succ]
  refine wpAnyH_take (i := 7) (oi := { dst := some 10, op := Go.Op.pick (Go.Operand.tmp 6) (Go.Operand.tmp 9) (Go.Operand.const (Go.Value.bool false)), type := 4, pos := "addr.go:37", after := #[{ on := 3, ground := Go.Ground.data }, { on := 6, ground := Go.Ground.data }], guard := none }) (v := ?_) rfl (by kernel_rfl) (by kernel_rfl) (by kernel_rfl) (fun _ _ _ h => h) (Or.inl ⟨by rfl, ?_⟩) (by assumption) ?_
  rotate_left 1
  · intro w' hSw
    first | (go_simp; done) | (go_simp; with_reducible rfl)
  try simp only [Act.put, List.getElem_toArray, List.getElem_cons_succ, List.getElem_cons_zero, List.setIfInBounds_toArray, List.set_cons_zero, List.set_cons_succ]
  refine wpAnyH_take (i := 8) (oi := { dst := some 11, op := Go.Op.move (Go.Operand.tmp 10), type := 4, pos := "addr.go:37", after := #[{ on := 7, ground := Go.Ground.data }, { on := 3, ground := Go.Ground.chain }], guard := none }) (v := ?_) rfl (by kernel_rfl) (by kernel_rfl) (by kernel_rfl) (fun _ _ _ h => h) (Or.inl ⟨by rfl, ?_⟩) (by assumption) ?_
  rotate_left 1
  · intro w' hSw
    first | (go_simp; done) | (go_simp; with_reducible rfl)
  try simp only [Act.put, List.getElem_toArray, List.getElem_cons_succ, List.getElem_cons_zero, List.setIfInBounds_toArray, List.set_cons_zero, List.set_cons_succ]
  refine wpAnyH_take (i := 9) (oi := { dst := some 12, op := Go.Op.fieldAddr 29 (Go.Operand.tmp 1) 0, type := 0, pos := "addr.go:37", after := #[{ on := 8, ground := Go.Ground.guard }], guard := some (8, true) }) (v := ?_) rfl (by kernel_rfl) (by kernel_rfl) (by kernel_rfl) (fun _ _ _ h => h) (Or.inl ⟨by rfl, ?_⟩) (by assumption) ?_
  rotate_left 1
  · intro w' hSw
    first | (go_simp; done) | (go_simp; with_reducible rfl)
  try simp only [Act.put, List.getElem_toArray, List.getElem_cons_succ, List.getElem_cons_zero, List.setIfInBounds_toArray, List.set_cons_zero, List.set_cons_succ]
  refine wpAnyH_take (i := 10) (oi := { dst := some 13, op := Go.Op.load 27 (Go.Operand.tmp 12), type := 27, pos := "addr.go:37", after := #[{ on := 9, ground := Go.Ground.data }, { on := 8, ground := Go.Ground.guard }], guard := some (8, true) }) (v := ?_) rfl (by kernel_rfl) (by kernel_rfl) (by kernel_rfl) (fun _ _ _ h => h) (Or.inl ⟨by rfl, ?_⟩) (by assumption) ?_
  rotate_left 1
  · intro w' hSw
    obtain ⟨z0, z1, z2, z3, z4, _⟩ := hold5 hSw
    first | (go_simp; done) | (go_simp; with_reducible rfl)
  try simp only [Act.put, List.getElem_toArray, List.getElem_cons_succ, List.getElem_cons_zero, List.setIfInBounds_toArray, List.set_cons_zero, List.set_cons_succ]
  refine wpAnyH_take (i := 11) (oi := { dst := some 14, op := Go.Op.fieldAddr 29 (Go.Operand.tmp 1) 1, type := 0, pos := "addr.go:37", after := #[{ on := 8, ground := Go.Ground.guard }], guard := some (8, true) }) (v := ?_) rfl (by kernel_rfl) (by kernel_rfl) (by kernel_rfl) (fun _ _ _ h => h) (Or.inl ⟨by rfl, ?_⟩) (by assumption) ?_
  rotate_left 1
  · intro w' hSw
    first | (go_simp; done) | (go_simp; with_reducible rfl)
  try simp only [Act.put, List.getElem_toArray, List.getElem_cons_succ, List.getElem_cons_zero, List.setIfInBounds_toArray, List.set_cons_zero, List.set_cons_succ]
  refine wpAnyH_take (i := 12) (oi := { dst := some 15, op := Go.Op.load 3 (Go.Operand.tmp 14), type := 3, pos := "addr.go:37", after := #[{ on := 11, ground := Go.Ground.data }, { on := 8, ground := Go.Ground.guard }], guard := some (8, true) }) (v := ?_) rfl (by kernel_rfl) (by kernel_rfl) (by kernel_rfl) (fun _ _ _ h => h) (Or.inl ⟨by rfl, ?_⟩) (by assumption) ?_
  rotate_left 1
  · intro w' hSw
    obtain ⟨z0, z1, z2, z3, z4, _⟩ := hold5 hSw
    first | (go_simp; done) | (go_simp; with_reducible rfl)
  try simp only [Act.put, List.getElem_toArray, List.getElem_cons_succ, List.getElem_cons_zero, List.setIfInBounds_toArray, List.set_cons_zero, List.set_cons_succ]
  refine wpAnyH_take (i := 14) (oi := { dst := some 17, op := Go.Op.load 29 (Go.Operand.tmp 1), type := 29, pos := "addr.go:37", after := #[{ on := 8, ground := Go.Ground.guard }], guard := some (8, true) }) (v := ?_) rfl (by kernel_rfl) (by kernel_rfl) (by kernel_rfl) (fun _ _ _ h => h) (Or.inl ⟨by rfl, ?_⟩) (by assumption) ?_
  rotate_left 1
  · intro w' hSw
    obtain ⟨z0, z1, z2, z3, z4, _⟩ := hold5 hSw
    first | (go_simp; done) | (go_simp; with_reducible rfl)
  try simp only [Act.put, List.getElem_toArray, List.getElem_cons_succ, List.getElem_cons_zero, List.setIfInBounds_toArray, List.set_cons_zero, List.set_cons_succ]
  refine wpAnyH_ready (rs := [13]) (by kernel_rfl) (by simp) ?_
  refine (AllReadyH.cons (o := { dst := some 16, op := Go.Op.call { callee := Go.Callee.value (Go.Operand.func 25), args := #[Go.Operand.tmp 13, Go.Operand.tmp 15], argTypes := #[27, 3] }, type := 29, pos := "addr.go:37", after := #[{ on := 10, ground := Go.Ground.data }, { on := 12, ground := Go.Ground.data }, { on := 8, ground := Go.Ground.chain }, { on := 8, ground := Go.Ground.guard }], guard := some (8, true) }) rfl (fun K hK => ?_) AllReadyH.nil)
  go_simp
  go_at_call 25
  refine (acut_any a b c d n _ ha hb hc hd).mono ?_
  rintro e w1 ⟨rfl, hB1⟩
  go_wp2_with (fail)
  refine hK.out _ _ ?_ (fun hHeld => ?_)
  · exact bk_below hB1 hHeld
  clear hK K
  try simp only [Act.put, List.getElem_toArray, List.getElem_cons_succ, List.getElem_cons_zero, List.setIfInBounds_toArray, List.set_cons_zero, List.set_cons_succ]
  refine wpAnyH_take (i := 15) (oi := { dst := some 18, op := Go.Op.binOp Go.BinOp.eql 29 (Go.Operand.tmp 16) (Go.Operand.tmp 17) 29, type := 4, pos := "addr.go:37", after := #[{ on := 13, ground := Go.Ground.data }, { on := 14, ground := Go.Ground.data }, { on := 8, ground := Go.Ground.guard }], guard := some (8, true) }) (v := ?_) rfl (by kernel_rfl) (by kernel_rfl) (by kernel_rfl) (fun _ _ _ h => h) (Or.inl ⟨by rfl, ?_⟩) (by assumption) ?_
  rotate_left 1
  · intro w' hSw
    first | (go_simp; done) | (go_simp; with_reducible rfl)
  try simp only [Act.put, List.getElem_toArray, List.getElem_cons_succ, List.getElem_cons_zero, List.setIfInBounds_toArray, List.set_cons_zero, List.set_cons_succ]
  refine wpAnyH_take (i := 16) (oi := { dst := some 19, op := Go.Op.pick (Go.Operand.tmp 11) (Go.Operand.tmp 18) (Go.Operand.const (Go.Value.bool false)), type := 4, pos := "addr.go:37", after := #[{ on := 8, ground := Go.Ground.data }, { on := 15, ground := Go.Ground.data }], guard := none }) (v := ?_) rfl (by kernel_rfl) (by kernel_rfl) (by kernel_rfl) (fun _ _ _ h => h) (Or.inl ⟨by rfl, ?_⟩) (by assumption) ?_
  rotate_left 1
  · intro w' hSw
    first | (go_simp; done) | (go_simp; with_reducible rfl)
  try simp only [Act.put, List.getElem_toArray, List.getElem_cons_succ, List.getElem_cons_zero, List.setIfInBounds_toArray, List.set_cons_zero, List.set_cons_succ]
  refine wpAnyH_take (i := 17) (oi := { dst := some 2, op := Go.Op.assign (Go.Operand.tmp 19), type := 4, pos := "addr.go:37", after := #[{ on := 16, ground := Go.Ground.data }, { on := 13, ground := Go.Ground.chain }, { on := 0, ground := Go.Ground.phase }, { on := 1, ground := Go.Ground.phase }, { on := 2, ground := Go.Ground.phase }, { on := 3, ground := Go.Ground.phase }, { on := 4, ground := Go.Ground.phase }, { on := 5, ground := Go.Ground.phase }, { on := 6, ground := Go.Ground.phase }, { on := 7, ground := Go.Ground.phase }, { on := 8, ground := Go.Ground.phase }, { on := 9, ground := Go.Ground.phase }, { on := 10, ground := Go.Ground.phase }, { on := 11, ground := Go.Ground.phase }, { on := 12, ground := Go.Ground.phase }, { on := 13, ground := Go.Ground.phase }, { on := 14, ground := Go.Ground.phase }, { on := 15, ground := Go.Ground.phase }, { on := 16, ground := Go.Ground.phase }], guard := none }) (v := ?_) rfl (by kernel_rfl) (by kernel_rfl) (by kernel_rfl) (fun _ _ _ h => h) (Or.inl ⟨by rfl, ?_⟩) (by assumption) ?_
  rotate_left 1
  · intro w' hSw
    first | (go_simp; done) | (go_simp; with_reducible rfl)
  try simp only [Act.put, List.getElem_toArray, List.getElem_cons_succ, List.getElem_cons_zero, List.setIfInBounds_toArray, List.set_cons_zero, List.set_cons_succ]
  refine wpAnyH_done (by kernel_rfl) ?_ _
  refine NoPanic.normal ?_
  go_wp2
  go_ret
  exact ⟨ret_bool hfin.out, bl_then (bl_drew (bl_alloc (Below.refl _ _) _)) hB1⟩

theorem bounded_any (n : Int) (w : World) : Calls Try.prog 23 #[.int .i64 n] w fun e w' => e = .returned (.int .i64 (clampN n)) ∧ w = w' := by
  by_cases c0 : n < 0
  · have d0 : decide (n < 0) = true := decide_eq_true c0
    go_enter Try.func23, Try.ntmps23
    go_wp2
    go_ret
    exact ⟨ret_i64 (by unfold clampN; (repeat' split) <;> omega), rfl⟩
  have d0 : decide (n < 0) = false := decide_eq_false c0
  by_cases c1 : 32 < n
  · have d1 : decide (32 < n) = true := decide_eq_true c1
    go_enter Try.func23, Try.ntmps23
    go_wp2
    go_ret
    exact ⟨ret_i64 (by unfold clampN; (repeat' split) <;> omega), rfl⟩
  have d1 : decide (32 < n) = false := decide_eq_false c1
  go_enter Try.func23, Try.ntmps23
  go_wp2
  go_ret
  exact ⟨ret_i64 (clampN_id (by omega) (by omega)).symm, rfl⟩

theorem res_rcut {w : World} {g : Nat} {a b c d e : Value} {t : TypeId} (h : Bk w g #[a, b, c, d, e] t) (tmps : Array Value) (h4 : tmps[4]?.getD undef = .pointer (some ⟨g, 0, none⟩)) :
    (results Try.f24 tmps).run Try.prog w = .ok (.agg #[a, b, c, d, e]) w := by
  obtain ⟨z0, z1, z2, z3, z4, _⟩ := hold5 h
  simp [results, Try.results24, go_sem, h4, z0, z1, z2, z3, z4]
theorem half_step {N : Int} {j : Nat} : N / 2 ^ j / 2 = N / 2 ^ (j + 1) := by
  rw [Int.ediv_ediv_of_nonneg (by exact Int.le_of_lt (Int.pow_pos (by decide)))]
  rfl
theorem twice_le {N : Int} {j J : Nat} (hN : 0 ≤ N ∧ N ≤ 4294967295) (hj : j + 1 ≤ J) : N / 2 ^ J * 2 ^ j * 2 ≤ 4294967295 ∧ 0 ≤ N / 2 ^ J * 2 ^ j := by
  have hp : (0 : Int) < 2 ^ J := Int.pow_pos (by decide)
  have hq : (0 : Int) ≤ 2 ^ j := Int.le_of_lt (Int.pow_pos (by decide))
  have h1 := Int.ediv_nonneg hN.1 (Int.le_of_lt hp)
  have h2 : N / 2 ^ J * 2 ^ J ≤ N := Int.ediv_mul_le N (by omega)
  have h3 : (2 : Int) ^ j * 2 ≤ 2 ^ J := by
    have : (2 : Nat) ^ (j + 1) ≤ 2 ^ J := Nat.pow_le_pow_right (by decide) hj
    have e1 : ((2 ^ (j + 1) : Nat) : Int) = (2 : Int) ^ j * 2 := by simp [Int.pow_succ]
    have e2 : ((2 ^ J : Nat) : Int) = (2 : Int) ^ J := by simp
    rw [← e1, ← e2]
    omega
  have h4 := Int.mul_le_mul_of_nonneg_left h3 h1
  refine ⟨?_, Int.mul_nonneg h1 hq⟩
  rw [Int.mul_assoc]
  omega
set_option maxHeartbeats 1600000 in
theorem rcut_any (a b c d n : Int) (w : World) (ha : 0 ≤ a ∧ a ≤ 255) (hb : 0 ≤ b ∧ b ≤ 255) (hc : 0 ≤ c ∧ c ≤ 255) (hd : 0 ≤ d ∧ d ≤ 255) :
    Calls Try.prog 24 #[.agg #[.int .u8 a, .int .u8 b, .int .u8 c, .int .u8 d], .int .i64 n] w fun e w' => e = .returned (.agg #[.int .u8 (cutV a b c d n).1, .int .u8 (cutV a b c d n).2.1, .int .u8 (cutV a b c d n).2.2.1, .int .u8 (cutV a b c d n).2.2.2.1, .int .i64 (cutV a b c d n).2.2.2.2]) ∧ Below w.heap.size w w' := by
  have hN := numA_bd ha hb hc hd
  have hC := cutA_bd (k := clampN n) hN
  have hkl := clampN_le n
  unfold cutV
  dsimp only
  obtain ⟨N, hNN⟩ : ∃ N, numA a b c d = N := ⟨_, rfl⟩
  obtain ⟨k, hk⟩ : ∃ k, clampN n = k := ⟨_, rfl⟩
  rw [hNN, hk] at hC ⊢
  rw [hNN] at hN
  rw [hk] at hkl
  replace hNN := Lib.hid hNN
  replace hk := Lib.hid hk
  go_enter Try.func24, Try.ntmps24
  go_wp2_with (first | (go_at_call 34; (with_reducible refine (rnum_any a b c d _ ha hb hc hd).mono ?_); rw [hNN.out]; rintro e w1 ⟨rfl, hB1⟩) | (go_at_call 23; (with_reducible refine (bounded_any n _).mono ?_); rw [hk.out]; rintro e w' ⟨rfl, rfl⟩))
  have hz := bk_below hB1 (bk_at (w := w.alloc (.cells #[.int .u8 a, .int .u8 b, .int .u8 c, .int .u8 d] 27)) (g := w.heap.size + 1) (cs := #[.int .u8 0, .int .u8 0, .int .u8 0, .int .u8 0, .int .i64 0]) (t := 29) (by simp))
  have hBa := bl_then (bl_alloc (bl_alloc (Below.refl _ w) (.cells #[.int .u8 a, .int .u8 b, .int .u8 c, .int .u8 d] 27)) (.cells #[.int .u8 0, .int .u8 0, .int .u8 0, .int .u8 0, .int .i64 0] 29)) hB1
  clear hB1
  go_loop [5, 7] (fun v5 v7 => ∃ i : Nat, k ≤ i ∧ i ≤ 32 ∧ v7 = .int .i64 i ∧ v5 = .int .u32 (N / 2 ^ (i - k))) (fun _ v7 => 32 - (intOf v7).toNat)
  case atStart => exact ⟨k, Nat.le_refl _, hkl, rfl, by rw [Nat.sub_self]; simp⟩
  case round =>
    obtain ⟨i, hki, hi, rfl, rfl⟩ := hrel
    have hp : (0 : Int) < 2 ^ (i - k) := Int.pow_pos (by decide)
    have hM0 := Int.ediv_nonneg hN.1 (Int.le_of_lt hp)
    have hM1 : N / 2 ^ (i - k) ≤ N := Int.ediv_le_self _ hN.1
    have hst := half_step (N := N) (j := i - k)
    by_cases hlt : i < 32
    · have hlt2 : decide ((i : Int) < 32) = true := decide_eq_true (by omega)
      obtain ⟨M, hM⟩ : ∃ M, N / 2 ^ (i - k) = M := ⟨_, rfl⟩
      rw [hM] at hM0 hM1 hst ⊢
      replace hst := Lib.hid hst
      replace hM := Lib.hid hM
      clear hp
      go_wp2
      refine ⟨⟨i + 1, by omega, by omega, by first | rfl | (congr 1; omega), ?_⟩, by simp [intOf]; omega⟩
      rw [show i + 1 - k = i - k + 1 by omega, ← hst.out]
    · obtain rfl : i = 32 := by omega
      have hlt2 : decide ((32 : Int) < 32) = false := by decide
      clear hst hlt hi
      obtain ⟨M, hM⟩ : ∃ M, N / 2 ^ (32 - k) = M := ⟨_, rfl⟩
      rw [hM] at hM0 hM1 ⊢
      replace hM := Lib.hid hM
      clear hp
      go_wp2
      go_loop [5, 8] (fun v5 v8 => ∃ i : Nat, k ≤ i ∧ i ≤ 32 ∧ v8 = .int .i64 i ∧ v5 = .int .u32 (M * 2 ^ (i - k))) (fun _ v8 => 32 - (intOf v8).toNat)
      case atStart => exact ⟨k, Nat.le_refl _, hkl, rfl, by rw [Nat.sub_self]; simp⟩
      case round =>
        obtain ⟨i, hki, hi, rfl, rfl⟩ := hrel
        by_cases hlt : i < 32
        · have hlt2 : decide ((i : Int) < 32) = true := decide_eq_true (by omega)
          have htw := twice_le (j := i - k) (J := 32 - k) hN (by omega)
          rw [hM.out] at htw
          obtain ⟨R, hR⟩ : ∃ R, M * 2 ^ (i - k) = R := ⟨_, rfl⟩
          rw [hR] at htw ⊢
          replace hR := Lib.hid hR
          obtain ⟨ht1, ht2⟩ := htw
          go_wp2
          refine ⟨⟨i + 1, by omega, by omega, by first | rfl | (congr 1; omega), ?_⟩, by simp [intOf]; omega⟩
          rw [show i + 1 - k = i - k + 1 by omega, Int.pow_succ, ← Int.mul_assoc, hR.out]
        · obtain rfl : i = 32 := by omega
          have hlt2 : decide ((32 : Int) < 32) = false := by decide
          have hCm : M * 2 ^ (32 - k) = cutA N k := by unfold cutA; rw [hM.out]
          obtain ⟨C, hCC⟩ : ∃ C, cutA N k = C := ⟨_, rfl⟩
          rw [hCC] at hC hCm
          rw [hCm]
          replace hCC := Lib.hid hCC
          replace hCm := Lib.hid hCm
          obtain ⟨hC0, hC1⟩ := hC
          clear hlt hi hlt2
          go_wp2_with (go_at_call 35; (with_reducible refine (rof_any C _ (by omega)).mono ?_); rintro e w2 ⟨rfl, hB2⟩; have hz2 := bk_below hB2 hz; obtain ⟨z0, z1, z2, z3, z4, f0, f1, f2, f3, f4⟩ := hold5 hz2)
          refine bodyPost_ret (res_rcut (put5 (bk_put (bk_put (bk_put (bk_put hz2 rfl) rfl) rfl) rfl) rfl) _ rfl) rfl ⟨by rw [hCC.out], ?_⟩
          repeat (with_reducible first | exact hBa | (refine bl_set ?_ (by dsimp only; omega) _) | refine bl_then ?_ hB2)

set_option maxHeartbeats 800000 in
theorem rright_any (a b c d n : Int) (w : World) (hok : NtOk a b c d n) :
    Calls Try.prog 12 #[.agg #[.int .u8 a, .int .u8 b, .int .u8 c, .int .u8 d, .int .i64 n]] w fun e w' => e = .returned (.bool (rightB a b c d n)) ∧ Below w.heap.size w w' := by
  obtain ⟨ha, hb, hc, hd⟩ := hok.1
  have hbx := bk_new w #[.int .u8 a, .int .u8 b, .int .u8 c, .int .u8 d, .int .i64 n] 29
  by_cases c0 : 0 ≤ n ∧ n ≤ 32
  · have hcl : ((clampN n : Int) == n) = true := by rw [clampN_id c0.1 c0.2]; simp
    have hck := cutV_ok hok.1 n
    have hfin := Lib.hid (rightB_of (a := a) (b := b) (c := c) (d := d) (n := n) c0.1 c0.2)
    go_enter Try.func12, Try.ntmps12
    go_wp2
    refine wp_region_noPanic ?_
    refine wp_region_held_drew (S := fun w' => Bk w' w.heap.size #[.int .u8 a, .int .u8 b, .int .u8 c, .int .u8 d, .int .i64 n] 29) (by kernel_rfl) (bk_drew hbx) (fun hHeld => ?_)
    refine wpAnyH_take (i := 0) (oi := { dst := some 3, op := Go.Op.fieldAddr 29 (Go.Operand.tmp 1) 1, type := 0, pos := "ref.go:44", after := #[], guard := none }) (v := ?_) rfl (by kernel_rfl) (by kernel_rfl) (by kernel_rfl) (fun _ _ _ h => h) (Or.inl ⟨by rfl, ?_⟩) (by assumption) ?_
    rotate_left 1
    · intro w' hSw
      first | (go_simp; done) | (go_simp; with_reducible rfl)
    try simp only [Act.put, List.getElem_toArray, List.getElem_cons_succ, List.getElem_cons_zero, List.setIfInBounds_toArray, List.set_cons_zero, List.set_cons_succ]
    refine wpAnyH_take (i := 1) (oi := { dst := some 4, op := Go.Op.load 3 (Go.Operand.tmp 3), type := 3, pos := "ref.go:44", after := #[{ on := 0, ground := Go.Ground.data }], guard := none }) (v := ?_) rfl (by kernel_rfl) (by kernel_rfl) (by kernel_rfl) (fun _ _ _ h => h) (Or.inl ⟨by rfl, ?_⟩) (by assumption) ?_
    rotate_left 1
    · intro w' hSw
      obtain ⟨z0, z1, z2, z3, z4, _⟩ := hold5 hSw
      first | (go_simp; done) | (go_simp; with_reducible rfl)
    try simp only [Act.put, List.getElem_toArray, List.getElem_cons_succ, List.getElem_cons_zero, List.setIfInBounds_toArray, List.set_cons_zero, List.set_cons_succ]
    refine wpAnyH_take (i := 3) (oi := { dst := some 6, op := Go.Op.fieldAddr 29 (Go.Operand.tmp 1) 1, type := 0, pos := "ref.go:44", after := #[], guard := none }) (v := ?_) rfl (by kernel_rfl) (by kernel_rfl) (by kernel_rfl) (fun _ _ _ h => h) (Or.inl ⟨by rfl, ?_⟩) (by assumption) ?_
    rotate_left 1
    · intro w' hSw
      first | (go_simp; done) | (go_simp; with_reducible rfl)
    try simp only [Act.put, List.getElem_toArray, List.getElem_cons_succ, List.getElem_cons_zero, List.setIfInBounds_toArray, List.set_cons_zero, List.set_cons_succ]
    refine wpAnyH_take (i := 4) (oi := { dst := some 7, op := Go.Op.load 3 (Go.Operand.tmp 6), type := 3, pos := "ref.go:44", after := #[{ on := 3, ground := Go.Ground.data }], guard := none }) (v := ?_) rfl (by kernel_rfl) (by kernel_rfl) (by kernel_rfl) (fun _ _ _ h => h) (Or.inl ⟨by rfl, ?_⟩) (by assumption) ?_
    rotate_left 1
    · intro w' hSw
      obtain ⟨z0, z1, z2, z3, z4, _⟩ := hold5 hSw
      first | (go_simp; done) | (go_simp; with_reducible rfl)
    try simp only [Act.put, List.getElem_toArray, List.getElem_cons_succ, List.getElem_cons_zero, List.setIfInBounds_toArray, List.set_cons_zero, List.set_cons_succ]
    refine wpAnyH_ready (rs := [2]) (by kernel_rfl) (by simp) ?_
    refine (AllReadyH.cons (o := { dst := some 5, op := Go.Op.call { callee := Go.Callee.value (Go.Operand.func 23), args := #[Go.Operand.tmp 4], argTypes := #[3] }, type := 3, pos := "ref.go:44", after := #[{ on := 1, ground := Go.Ground.data }], guard := none }) rfl (fun K hK => ?_) AllReadyH.nil)
    go_simp
    go_at_call 23
    refine (bounded_any n _).mono ?_
    rintro e w' ⟨rfl, rfl⟩
    go_wp2_with (fail)
    refine hK.out _ _ ?_ (fun hHeld => ?_)
    · first | exact bk_below hB1 hHeld | exact hHeld
    clear hK K
    try simp only [Act.put, List.getElem_toArray, List.getElem_cons_succ, List.getElem_cons_zero, List.setIfInBounds_toArray, List.set_cons_zero, List.set_cons_succ]
    refine wpAnyH_take (i := 5) (oi := { dst := some 8, op := Go.Op.binOp Go.BinOp.eql 3 (Go.Operand.tmp 5) (Go.Operand.tmp 7) 3, type := 4, pos := "ref.go:44", after := #[{ on := 2, ground := Go.Ground.data }, { on := 4, ground := Go.Ground.data }], guard := none }) (v := ?_) rfl (by kernel_rfl) (by kernel_rfl) (by kernel_rfl) (fun _ _ _ h => h) (Or.inl ⟨by rfl, ?_⟩) (by assumption) ?_
    rotate_left 1
    · intro w' hSw
      first | (go_simp; done) | (go_simp; with_reducible rfl)
    try simp only [Act.put, List.getElem_toArray, List.getElem_cons_succ, List.getElem_cons_zero, List.setIfInBounds_toArray, List.set_cons_zero, List.set_cons_succ]
    refine wpAnyH_take (i := 6) (oi := { dst := some 9, op := Go.Op.move (Go.Operand.tmp 8), type := 4, pos := "ref.go:44", after := #[{ on := 5, ground := Go.Ground.data }, { on := 2, ground := Go.Ground.chain }], guard := none }) (v := ?_) rfl (by kernel_rfl) (by kernel_rfl) (by kernel_rfl) (fun _ _ _ h => h) (Or.inl ⟨by rfl, ?_⟩) (by assumption) ?_
    rotate_left 1
    · intro w' hSw
      first | (go_simp; done) | (go_simp; with_reducible rfl)
    try simp only [Act.put, List.getElem_toArray, List.getElem_cons_succ, List.getElem_cons_zero, List.setIfInBounds_toArray, List.set_cons_zero, List.set_cons_succ]
    refine wpAnyH_take (i := 7) (oi := { dst := some 10, op := Go.Op.fieldAddr 29 (Go.Operand.tmp 1) 0, type := 0, pos := "ref.go:44", after := #[{ on := 6, ground := Go.Ground.guard }], guard := some (6, true) }) (v := ?_) rfl (by kernel_rfl) (by kernel_rfl) (by kernel_rfl) (fun _ _ _ h => h) (Or.inl ⟨by rfl, ?_⟩) (by assumption) ?_
    rotate_left 1
    · intro w' hSw
      first | (go_simp; done) | (go_simp; with_reducible rfl)
    try simp only [Act.put, List.getElem_toArray, List.getElem_cons_succ, List.getElem_cons_zero, List.setIfInBounds_toArray, List.set_cons_zero, List.set_cons_succ]
    refine wpAnyH_take (i := 8) (oi := { dst := some 11, op := Go.Op.load 27 (Go.Operand.tmp 10), type := 27, pos := "ref.go:44", after := #[{ on := 7, ground := Go.Ground.data }, { on := 6, ground := Go.Ground.guard }], guard := some (6, true) }) (v := ?_) rfl (by kernel_rfl) (by kernel_rfl) (by kernel_rfl) (fun _ _ _ h => h) (Or.inl ⟨by rfl, ?_⟩) (by assumption) ?_
    rotate_left 1
    · intro w' hSw
      obtain ⟨z0, z1, z2, z3, z4, _⟩ := hold5 hSw
      first | (go_simp; done) | (go_simp; with_reducible rfl)
    try simp only [Act.put, List.getElem_toArray, List.getElem_cons_succ, List.getElem_cons_zero, List.setIfInBounds_toArray, List.set_cons_zero, List.set_cons_succ]
    refine wpAnyH_take (i := 9) (oi := { dst := some 12, op := Go.Op.fieldAddr 29 (Go.Operand.tmp 1) 1, type := 0, pos := "ref.go:44", after := #[{ on := 6, ground := Go.Ground.guard }], guard := some (6, true) }) (v := ?_) rfl (by kernel_rfl) (by kernel_rfl) (by kernel_rfl) (fun _ _ _ h => h) (Or.inl ⟨by rfl, ?_⟩) (by assumption) ?_
    rotate_left 1
    · intro w' hSw
      first | (go_simp; done) | (go_simp; with_reducible rfl)
    try simp only [Act.put, List.getElem_toArray, List.getElem_cons_succ, List.getElem_cons_zero, List.setIfInBounds_toArray, List.set_cons_zero, List.set_cons_succ]
    refine wpAnyH_take (i := 10) (oi := { dst := some 13, op := Go.Op.load 3 (Go.Operand.tmp 12), type := 3, pos := "ref.go:44", after := #[{ on := 9, ground := Go.Ground.data }, { on := 6, ground := Go.Ground.guard }], guard := some (6, true) }) (v := ?_) rfl (by kernel_rfl) (by kernel_rfl) (by kernel_rfl) (fun _ _ _ h => h) (Or.inl ⟨by rfl, ?_⟩) (by assumption) ?_
    rotate_left 1
    · intro w' hSw
      obtain ⟨z0, z1, z2, z3, z4, _⟩ := hold5 hSw
      first | (go_simp; done) | (go_simp; with_reducible rfl)
    try simp only [Act.put, List.getElem_toArray, List.getElem_cons_succ, List.getElem_cons_zero, List.setIfInBounds_toArray, List.set_cons_zero, List.set_cons_succ]
    refine wpAnyH_take (i := 12) (oi := { dst := some 15, op := Go.Op.load 29 (Go.Operand.tmp 1), type := 29, pos := "ref.go:44", after := #[{ on := 6, ground := Go.Ground.guard }], guard := some (6, true) }) (v := ?_) rfl (by kernel_rfl) (by kernel_rfl) (by kernel_rfl) (fun _ _ _ h => h) (Or.inl ⟨by rfl, ?_⟩) (by assumption) ?_
    rotate_left 1
    · intro w' hSw
      obtain ⟨z0, z1, z2, z3, z4, _⟩ := hold5 hSw
      first | (go_simp; done) | (go_simp; with_reducible rfl)
    try simp only [Act.put, List.getElem_toArray, List.getElem_cons_succ, List.getElem_cons_zero, List.setIfInBounds_toArray, List.set_cons_zero, List.set_cons_succ]
    refine wpAnyH_ready (rs := [11]) (by kernel_rfl) (by simp) ?_
    refine (AllReadyH.cons (o := { dst := some 14, op := Go.Op.call { callee := Go.Callee.value (Go.Operand.func 24), args := #[Go.Operand.tmp 11, Go.Operand.tmp 13], argTypes := #[27, 3] }, type := 29, pos := "ref.go:44", after := #[{ on := 8, ground := Go.Ground.data }, { on := 10, ground := Go.Ground.data }, { on := 6, ground := Go.Ground.chain }, { on := 6, ground := Go.Ground.guard }], guard := some (6, true) }) rfl (fun K hK => ?_) AllReadyH.nil)
    go_simp
    go_at_call 24
    refine (rcut_any a b c d n _ ha hb hc hd).mono ?_
    rintro e w1 ⟨rfl, hB1⟩
    go_wp2_with (fail)
    refine hK.out _ _ ?_ (fun hHeld => ?_)
    · first | exact bk_below hB1 hHeld | exact hHeld
    clear hK K
    try simp only [Act.put, List.getElem_toArray, List.getElem_cons_succ, List.getElem_cons_zero, List.setIfInBounds_toArray, List.set_cons_zero, List.set_cons_succ]
    refine wpAnyH_take (i := 13) (oi := { dst := some 16, op := Go.Op.binOp Go.BinOp.eql 29 (Go.Operand.tmp 14) (Go.Operand.tmp 15) 29, type := 4, pos := "ref.go:44", after := #[{ on := 11, ground := Go.Ground.data }, { on := 12, ground := Go.Ground.data }, { on := 6, ground := Go.Ground.guard }], guard := some (6, true) }) (v := ?_) rfl (by kernel_rfl) (by kernel_rfl) (by kernel_rfl) (fun _ _ _ h => h) (Or.inl ⟨by rfl, ?_⟩) (by assumption) ?_
    rotate_left 1
    · intro w' hSw
      first | (go_simp; done) | (go_simp; with_reducible rfl)
    try simp only [Act.put, List.getElem_toArray, List.getElem_cons_succ, List.getElem_cons_zero, List.setIfInBounds_toArray, List.set_cons_zero, List.set_cons_succ]
    refine wpAnyH_take (i := 14) (oi := { dst := some 17, op := Go.Op.pick (Go.Operand.tmp 9) (Go.Operand.tmp 16) (Go.Operand.const (Go.Value.bool false)), type := 4, pos := "ref.go:44", after := #[{ on := 6, ground := Go.Ground.data }, { on := 13, ground := Go.Ground.data }], guard := none }) (v := ?_) rfl (by kernel_rfl) (by kernel_rfl) (by kernel_rfl) (fun _ _ _ h => h) (Or.inl ⟨by rfl, ?_⟩) (by assumption) ?_
    rotate_left 1
    · intro w' hSw
      first | (go_simp; done) | (go_simp; with_reducible rfl)
    try simp only [Act.put, List.getElem_toArray, List.getElem_cons_succ, List.getElem_cons_zero, List.setIfInBounds_toArray, List.set_cons_zero, List.set_cons_succ]
    refine wpAnyH_take (i := 15) (oi := { dst := some 2, op := Go.Op.assign (Go.Operand.tmp 17), type := 4, pos := "ref.go:44", after := #[{ on := 14, ground := Go.Ground.data }, { on := 11, ground := Go.Ground.chain }, { on := 0, ground := Go.Ground.phase }, { on := 1, ground := Go.Ground.phase }, { on := 2, ground := Go.Ground.phase }, { on := 3, ground := Go.Ground.phase }, { on := 4, ground := Go.Ground.phase }, { on := 5, ground := Go.Ground.phase }, { on := 6, ground := Go.Ground.phase }, { on := 7, ground := Go.Ground.phase }, { on := 8, ground := Go.Ground.phase }, { on := 9, ground := Go.Ground.phase }, { on := 10, ground := Go.Ground.phase }, { on := 11, ground := Go.Ground.phase }, { on := 12, ground := Go.Ground.phase }, { on := 13, ground := Go.Ground.phase }, { on := 14, ground := Go.Ground.phase }], guard := none }) (v := ?_) rfl (by kernel_rfl) (by kernel_rfl) (by kernel_rfl) (fun _ _ _ h => h) (Or.inl ⟨by rfl, ?_⟩) (by assumption) ?_
    rotate_left 1
    · intro w' hSw
      first | (go_simp; done) | (go_simp; with_reducible rfl)
    try simp only [Act.put, List.getElem_toArray, List.getElem_cons_succ, List.getElem_cons_zero, List.setIfInBounds_toArray, List.set_cons_zero, List.set_cons_succ]
    refine wpAnyH_done (by kernel_rfl) ?_ _
    refine NoPanic.normal ?_
    go_wp2
    go_ret
    exact ⟨ret_bool hfin.out, bl_then (bl_drew (bl_alloc (Below.refl _ _) _)) hB1⟩
  · have hne : (clampN n : Int) ≠ n := by unfold clampN; (repeat' split) <;> omega
    have hcl : ((clampN n : Int) == n) = false := by simpa using hne
    have hf : rightB a b c d n = false := decide_eq_false (by omega)
    replace hf := Lib.hid hf
    clear c0 hne
    go_enter Try.func12, Try.ntmps12
    go_wp2
    go_quiet ((go_at_call 23; (with_reducible refine (bounded_any n _).mono ?_); exact fun _ _ k => ⟨k.1, _, k.2.symm⟩))
    go_wp2
    go_ret
    exact ⟨ret_bool hf.out.symm, bl_drewN (bl_alloc (Below.refl _ _) _) _⟩
end Go.Proofs.Ytebeknnjjoobnaa
