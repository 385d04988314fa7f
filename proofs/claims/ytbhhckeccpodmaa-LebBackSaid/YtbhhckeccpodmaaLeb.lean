/- Contracts of package leb. -/
import Derived.Test.YtbhhckeccpodmaaLebM
import Derived.Test.YtbhhckeccpodmaaSat2
import Derived.Test.YtbhhckeccpodmaaWWords
import Derived.LoopTactic
import Derived.Laws.Bits128
set_option linter.unusedVariables false
set_option linter.unusedSimpArgs false
namespace Go.Proofs.Ytbhhckeccpodmaa
open Go.RowKit Go.Proofs.YtbhhckeccpodmaaW.PrintWords
attribute [local go_sem] max2_int min2_int max_two min_two

theorem info_u8 : (Try.prog.info? 5).map (fun i => (i.zero, i.size, i.bytes)) = some (some (.int .u8 0), 1, 1) := by kernel_rfl

/-- A call that hands back new memory that holds these whole numbers; what was there stays. -/
def MakesInts (e : TypeId) (k : IntKind) (xs : List Int) (w : World) (en : Ending) (w' : World) : Prop :=
  ∃ v, en = .returned v ∧ w'.ownsRow w.heap.size e 1 v xs.length (nums k xs) ∧ Below w.heap.size w w'

theorem wrap8_mod (n : Int) : IntKind.u8.wrap n = n % 256 := by rw [IntKind.wrap_u8]

theorem size_any (n : Nat) (w : World) (hn : n < 18446744073709551616) :
    Calls Try.prog 17 #[.int .u64 n] w fun e w' => e = .returned (.int .i64 (enc n).length) ∧ w = w' := by
  have hb := bitL_bd n (by omega) (by omega)
  have hl := Lib.hid (enc_len_bits n hn)
  have hc : bitL n = (Lib.bitLen n : Int) := by unfold bitL; rw [Int.toNat_natCast]
  have HC := Lib.hid hc
  clear hc
  go_enter Try.func17, Try.ntmps17
  go_wp2_with (go_at_call 45; refine (log_any n _ (by omega) (by omega)).mono ?_; rintro e w' ⟨rfl, rfl⟩)
  all_goals
    go_ret
    exact ⟨ret_i64 (by have h1 := hl.out; have h2 := HC.out; rw [← h1]; generalize bitL n = b at *; subst h2; omega), rfl⟩

theorem u8_or128_all : ∀ n : Fin 256, bits .or .u8 (n.val : Int) 128 = ((n.val % 128 + 128 : Nat) : Int) := by decide +kernel
theorem u8_or128_mod (m : Nat) : bits .or .u8 ((m : Int) % 256) 128 = ((m % 128 + 128 : Nat) : Int) := by
  have h := u8_or128_all ⟨m % 256, by omega⟩
  simp only at h
  rw [show ((m : Int) % 256) = ((m % 256 : Nat) : Int) by omega, h]
  omega
theorem own_made0 (W : World) (base : Nat) (e : TypeId) (k : IntKind) (cs : Array Value) (c : Nat) (hb : base ≤ W.heap.size) (hc : cs.size = c) (hm : c ≤ 9223372036854775807) :
    (W.alloc (.cells cs e)).ownsRow base e 1 (.slice (some ⟨W.heap.size, 0, none⟩) 0 c) 0 (nums k []) := by
  refine ⟨by simp [nums], .inr ⟨W.heap.size, c, cs, rfl, hb, heap_alloc_new W _, by omega, ?_, by omega, by simp [nums]⟩⟩
  simp only [maxLen]; omega
set_option maxHeartbeats 800000 in
theorem put_any (n : Nat) (w : World) (hn : n < 18446744073709551616) :
    Calls Try.prog 20 #[.int .u64 n] w (MakesInts 5 .u8 (enc n) w) := by
  have hl10 := enc_len_10 hn
  have hmk : ∀ w : World, (Instr.makeSlice 26 (.int .i64 0) (.int .i64 10)).run Try.prog w = .ok (.slice (some ⟨w.heap.size, 0, none⟩) 0 10) (w.alloc (.cells #[.int .u8 0, .int .u8 0, .int .u8 0, .int .u8 0, .int .u8 0, .int .u8 0, .int .u8 0, .int .u8 0, .int .u8 0, .int .u8 0] 5)) := fun _ => by kernel_rfl
  go_enter Try.func20, Try.ntmps20
  go_wp2
  go_loopw [0, 3] (fun v0 v3 wr => ∃ (m : Nat) (xs : List Int), v0 = .int .u64 m ∧ m < 18446744073709551616 ∧ xs ++ enc m = enc n ∧ wr.ownsRow w.heap.size 5 1 v3 xs.length (nums .u8 xs) ∧ Below w.heap.size w wr) (fun v0 _ _ => (intOf v0).toNat)
  case atStart =>
    exact ⟨n, [], rfl, hn, rfl, own_made0 w w.heap.size 5 .u8 _ 10 (Nat.le_refl _) rfl (by omega), bl_alloc (Below.refl _ _) _⟩
  case round =>
    obtain ⟨m, xs, rfl, hm, he, ho, hB⟩ := hrel
    have hlen : xs.length + (enc m).length ≤ 10 := by rw [← List.length_append, he]; exact hl10
    have hp := enc_pos m
    have He := Lib.hid he
    clear he
    have hor := u8_or128_mod m
    by_cases hs : 128 ≤ (m : Int)
    · go_wp2_with (at_builtin; refine print_append_num (w0 := w) w.heap.size rfl (.tmp 7) (.tmp 11) 26 5 .u8 1 rfl Try.underlying26 info_u8 (by decide) _ xs _ rfl rfl ho hB hB.size (by omega) ?_; intro v1 w1 ho1 hB1 hg1 hat1)
      refine ⟨⟨m / 128, xs ++ [(m : Int) % 128 + 128], congrArg (Value.int .u64) (by omega), by omega, ?_, ho1, hB1⟩, by simp [intOf]; omega⟩
      rw [← He.out, enc_big (n := m) (by omega), List.append_assoc, List.singleton_append, show ((m : Int) % 128 + 128) = ((m % 128 + 128 : Nat) : Int) by omega]
    · go_wp2_with (at_builtin; refine print_append_num (w0 := w) w.heap.size rfl (.tmp 15) (.tmp 18) 26 5 .u8 1 rfl Try.underlying26 info_u8 (by decide) _ xs _ rfl rfl ho hB hB.size (by omega) ?_; intro v1 w1 ho1 hB1 hg1 hat1)
      rw [← enc_small (n := m) (by omega), He.out] at ho1
      go_ret
      exact ⟨v1, rfl, ho1, hB1⟩

/-- An int as a number: the even ones are those from 0 on. -/
def zig (n : Int) : Int := if 0 ≤ n then 2 * n else -2 * n - 1
def zag (u : Int) : Int := if u % 2 = 0 then u / 2 else -(u / 2) - 1
theorem zig_bd {n : Int} (h0 : -9223372036854775808 ≤ n) (h1 : n ≤ 9223372036854775807) : 0 ≤ zig n ∧ zig n ≤ 18446744073709551615 := by unfold zig; split <;> omega
theorem zag_bd {u : Int} (h0 : 0 ≤ u) (h1 : u ≤ 18446744073709551615) : -9223372036854775808 ≤ zag u ∧ zag u ≤ 9223372036854775807 := by unfold zag; split <;> omega
theorem zag_zig (n : Int) : zag (zig n) = n := by unfold zag zig; split <;> split <;> omega
theorem zig_zag (u : Int) (h : 0 ≤ u) : zig (zag u) = u := by unfold zag zig; split <;> split <;> omega
theorem u64_xor_zero (x : Int) (h0 : 0 ≤ x) (h1 : x ≤ 18446744073709551615) : bits .xor .u64 x 0 = x := by
  obtain ⟨a, rfl⟩ := Int.eq_ofNat_of_zero_le h0
  have := bits_xor_u64_nat a 0 (by omega) (by omega)
  simpa using this
theorem u64_xor_ones (x : Int) (h0 : 0 ≤ x) (h1 : x ≤ 18446744073709551615) : bits .xor .u64 x 18446744073709551615 = 18446744073709551615 - x := by
  obtain ⟨a, rfl⟩ := Int.eq_ofNat_of_zero_le h0
  have h := bits_xor_u64_nat a 18446744073709551615 (by omega) (by omega)
  have e : a ^^^ 18446744073709551615 = 18446744073709551615 - a := by
    have h2 : (BitVec.ofNat 64 a ^^^ BitVec.allOnes 64).toNat = (~~~ BitVec.ofNat 64 a).toNat := by rw [BitVec.xor_allOnes]
    rw [BitVec.toNat_xor, BitVec.toNat_not, BitVec.toNat_ofNat, BitVec.toNat_allOnes, Nat.mod_eq_of_lt (by omega)] at h2
    exact h2
  rw [e] at h
  have h3 : ((18446744073709551615 : Nat) : Int) = 18446744073709551615 := rfl
  rw [h3] at h
  rw [h]; omega
theorem i64_xor_zero (x : Int) (h0 : 0 ≤ x) (h1 : x ≤ 9223372036854775807) : bits .xor .i64 x 0 = x := by
  show IntKind.i64.wrap ((BitVec.ofInt 64 x ^^^ BitVec.ofInt 64 0).toNat : Nat) = x
  rw [BitVec.toNat_xor, BitVec.toNat_ofInt, BitVec.toNat_ofInt, IntKind.wrap_i64]
  simp
  omega
theorem i64_xor_ones (x : Int) (h0 : 0 ≤ x) (h1 : x ≤ 9223372036854775807) : bits .xor .i64 x (-1) = -x - 1 := by
  show IntKind.i64.wrap ((BitVec.ofInt 64 x ^^^ BitVec.ofInt 64 (-1)).toNat : Nat) = -x - 1
  have e : BitVec.ofInt 64 (-1) = BitVec.allOnes 64 := by decide
  rw [e, BitVec.xor_allOnes, BitVec.toNat_not, BitVec.toNat_ofInt, IntKind.wrap_i64]
  have : (x % ((2 ^ 64 : Nat) : Int)).toNat = x.toNat := by omega
  rw [this]
  omega
theorem u64_and_one (u : Int) (h0 : 0 ≤ u) (h1 : u ≤ 18446744073709551615) : bits .and .u64 u 1 = u % 2 := by
  obtain ⟨a, rfl⟩ := Int.eq_ofNat_of_zero_le h0
  have h := bits_and_u64_nat a 1 (by omega) (by omega)
  rw [Nat.and_one_is_mod] at h
  have h3 : ((1 : Nat) : Int) = 1 := rfl
  rw [h3] at h
  rw [h]; omega
theorem zig_any (n : Int) (w : World) (h0 : -9223372036854775808 ≤ n) (h1 : n ≤ 9223372036854775807) :
    Calls Try.prog 21 #[.int .i64 n] w fun e w' => e = .returned (.int .u64 (zig n)) ∧ w = w' := by
  have key : bits .xor .u64 (IntKind.u64.wrap (IntKind.u64.wrap n * 2)) (IntKind.u64.wrap (n / 9223372036854775808)) = zig n := by
    unfold zig
    simp only [IntKind.wrap_u64]
    by_cases h : 0 ≤ n
    · rw [if_pos h, show n / 9223372036854775808 % 18446744073709551616 = 0 by omega, show n % 18446744073709551616 * 2 % 18446744073709551616 = 2 * n by omega, u64_xor_zero _ (by omega) (by omega)]
    · rw [if_neg h, show n / 9223372036854775808 % 18446744073709551616 = 18446744073709551615 by omega, show n % 18446744073709551616 * 2 % 18446744073709551616 = 2 * n + 18446744073709551616 by omega, u64_xor_ones _ (by omega) (by omega)]
      omega
  replace key := Lib.hid key
  go_enter Try.func21, Try.ntmps21
  go_wp2
  go_ret
  exact ⟨ret_u64 key.out, rfl⟩
theorem zag_any (u : Int) (w : World) (h0 : 0 ≤ u) (h1 : u ≤ 18446744073709551615) :
    Calls Try.prog 23 #[.int .u64 u] w fun e w' => e = .returned (.int .i64 (zag u)) ∧ w = w' := by
  have key : bits .xor .i64 (u / 2) (wrap64 (-wrap64 (bits .and .u64 u 1))) = zag u := by
    unfold zag wrap64
    rw [u64_and_one u h0 h1]
    by_cases h : u % 2 = 0
    · rw [if_pos h, h]
      exact i64_xor_zero _ (by omega) (by omega)
    · rw [if_neg h, show u % 2 = 1 by omega]
      exact i64_xor_ones _ (by omega) (by omega)
  replace key := Lib.hid key
  go_enter Try.func23, Try.ntmps23
  go_wp2
  go_ret
  exact ⟨ret_i64 key.out, rfl⟩
end Go.Proofs.Ytbhhckeccpodmaa
