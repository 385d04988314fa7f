/- Contracts of package leb. -/
import Derived.Test.YtfcekicjlgdmaaaLebM
import Derived.Test.YtfcekicjlgdmaaaSat2
import Derived.Test.YtfcekicjlgdmaaaWWords
import Derived.LoopTactic
import Derived.Laws.Bits128
set_option linter.unusedVariables false
set_option linter.unusedSimpArgs false
namespace Go.Proofs.Ytfcekicjlgdmaaa
open Go.RowKit Go.Proofs.YtfcekicjlgdmaaaW.PrintWords
attribute [local go_sem] max2_int min2_int max_two min_two

theorem info_u8 : (Try.prog.info? 5).map (fun i => (i.zero, i.size, i.bytes)) = some (some (.int .u8 0), 1, 1) := by kernel_rfl

/-- A call that hands back new memory that holds these whole numbers; what was there stays. -/
def MakesInts (e : TypeId) (k : IntKind) (xs : List Int) (w : World) (en : Ending) (w' : World) : Prop :=
  ∃ v, en = .returned v ∧ w'.ownsRow w.heap.size e 1 v xs.length (nums k xs) ∧ Below w.heap.size w w'

theorem wrap8_mod (n : Int) : IntKind.u8.wrap n = n % 256 := by rw [IntKind.wrap_u8]

theorem size_any (n : Nat) (w : World) (hn : n < 18446744073709551616) :
    Calls Try.prog 68 #[.int .u64 n] w fun e w' => e = .returned (.int .i64 (enc n).length) ∧ w = w' := by
  have hb := bitL_bd n (by omega) (by omega)
  have hl := Lib.hid (enc_len_bits n hn)
  have hc : bitL n = (Lib.bitLen n : Int) := by unfold bitL; rw [Int.toNat_natCast]
  have HC := Lib.hid hc
  clear hc
  go_enter Try.func68, Try.ntmps68
  go_wp2_with (go_at_call 72; refine (log_any n _ (by omega) (by omega)).mono ?_; rintro e w' ⟨rfl, rfl⟩)
  all_goals
    go_ret
    exact ⟨ret_i64 (by have h1 := hl.out; have h2 := HC.out; rw [← h1]; generalize bitL n = b at *; subst h2; omega), rfl⟩

theorem u8_or128_all : ∀ n : Fin 256, bits .or .u8 (n.val : Int) 128 = ((n.val % 128 + 128 : Nat) : Int) := by decide +kernel
theorem u8_or128_mod (m : Nat) : bits .or .u8 ((m : Int) % 256) 128 = ((m % 128 + 128 : Nat) : Int) := by
  have h := u8_or128_all ⟨m % 256, by omega⟩
  simp only at h
  rw [show ((m : Int) % 256) = ((m % 256 : Nat) : Int) by omega, h]
  omega
theorem own_made0 (W : World) (base : Nat) (e : TypeId) (k : IntKind) (cs : Array Value) (c : Nat) (hb : base ≤ W.heap.size) (hc : cs.size = c) (hm : c ≤ 9223372036854775807) :
    (W.alloc (.cells cs e)).ownsRow base e 1 (.slice (some ⟨W.heap.size, 0, none⟩) 0 c) 0 (nums k []) := by
  refine ⟨by simp [nums], .inr ⟨W.heap.size, c, cs, rfl, hb, heap_alloc_new W _, by omega, ?_, by omega, by simp [nums]⟩⟩
  simp only [maxLen]; omega
set_option maxHeartbeats 800000 in
theorem put_any (n : Nat) (w : World) (hn : n < 18446744073709551616) :
    Calls Try.prog 59 #[.int .u64 n] w (MakesInts 5 .u8 (enc n) w) := by
  have hl10 := enc_len_10 hn
  have hmk : ∀ w : World, (Instr.makeSlice 48 (.int .i64 0) (.int .i64 10)).run Try.prog w = .ok (.slice (some ⟨w.heap.size, 0, none⟩) 0 10) (w.alloc (.cells #[.int .u8 0, .int .u8 0, .int .u8 0, .int .u8 0, .int .u8 0, .int .u8 0, .int .u8 0, .int .u8 0, .int .u8 0, .int .u8 0] 5)) := fun _ => by kernel_rfl
  go_enter Try.func59, Try.ntmps59
  go_wp2
  go_loopw [0, 3] (fun v0 v3 wr => ∃ (m : Nat) (xs : List Int), v0 = .int .u64 m ∧ m < 18446744073709551616 ∧ xs ++ enc m = enc n ∧ wr.ownsRow w.heap.size 5 1 v3 xs.length (nums .u8 xs) ∧ Below w.heap.size w wr) (fun v0 _ _ => (intOf v0).toNat)
  case atStart =>
    exact ⟨n, [], rfl, hn, rfl, own_made0 w w.heap.size 5 .u8 _ 10 (Nat.le_refl _) rfl (by omega), bl_alloc (Below.refl _ _) _⟩
  case round =>
    obtain ⟨m, xs, rfl, hm, he, ho, hB⟩ := hrel
    have hlen : xs.length + (enc m).length ≤ 10 := by rw [← List.length_append, he]; exact hl10
    have hp := enc_pos m
    have He := Lib.hid he
    clear he
    have hor := u8_or128_mod m
    by_cases hs : 128 ≤ (m : Int)
    · go_wp2_with (at_builtin; refine print_append_num (w0 := w) w.heap.size rfl (.tmp 7) (.tmp 11) 48 5 .u8 1 rfl Try.underlying48 info_u8 (by decide) _ xs _ rfl rfl ho hB hB.size (by omega) ?_; intro v1 w1 ho1 hB1 hg1 hat1)
      refine ⟨⟨m / 128, xs ++ [(m : Int) % 128 + 128], congrArg (Value.int .u64) (by omega), by omega, ?_, ho1, hB1⟩, by simp [intOf]; omega⟩
      rw [← He.out, enc_big (n := m) (by omega), List.append_assoc, List.singleton_append, show ((m : Int) % 128 + 128) = ((m % 128 + 128 : Nat) : Int) by omega]
    · go_wp2_with (at_builtin; refine print_append_num (w0 := w) w.heap.size rfl (.tmp 15) (.tmp 18) 48 5 .u8 1 rfl Try.underlying48 info_u8 (by decide) _ xs _ rfl rfl ho hB hB.size (by omega) ?_; intro v1 w1 ho1 hB1 hg1 hat1)
      rw [← enc_small (n := m) (by omega), He.out] at ho1
      go_ret
      exact ⟨v1, rfl, ho1, hB1⟩

end Go.Proofs.Ytfcekicjlgdmaaa
