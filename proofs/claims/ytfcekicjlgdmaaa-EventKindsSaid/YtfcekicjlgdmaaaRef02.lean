/- Contracts of the reference's layer 2: Put, Zig. -/
import Derived.Test.YtfcekicjlgdmaaaLebGet
set_option linter.unusedVariables false
set_option linter.unusedSimpArgs false
namespace Go.Proofs.Ytfcekicjlgdmaaa
open Go.RowKit Go.Proofs.YtfcekicjlgdmaaaW.PrintWords


theorem MakesInts.ret {e : TypeId} {k : IntKind} {xs : List Int} {w w1 : World} {v : Value} (ho : w1.ownsRow w.heap.size e 1 v xs.length (nums k xs)) (hb : Below w.heap.size w w1) : MakesInts e k xs w (.returned v) w1 := ⟨v, rfl, ho, hb⟩
set_option maxHeartbeats 800000 in
theorem rput_any (n : Nat) : ∀ (w : World) (hn : n < 18446744073709551616),
    Calls Try.prog 62 #[.int .u64 n] w (MakesInts 5 .u8 (enc n) w) := by
  induction n using Nat.strongRecOn with
  | ind n ih =>
    intro w hn
    replace ih := Lib.hid ih
    have hl10 := enc_len_10 hn
    by_cases h : (n : Int) < 128
    · have he := enc_small (n := n) (by omega)
      have He := Lib.hid he
      clear he
      go_enter Try.func62, Try.ntmps62
      go_wp2
      go_ret
      rw [He.out]
      exact MakesInts.ret (own_lit w w.heap.size 5 .u8 [(n : Int)] (Nat.le_refl _) (by simp)) (bl_alloc (Below.refl _ _) _)
    · have he := enc_big (n := n) (by omega)
      have He := Lib.hid he
      clear he
      go_enter Try.func62, Try.ntmps62
      have hl9 : (enc (n / 128)).length ≤ 10 := enc_len_10 (by omega)
      go_wp2_with (first | (go_at_call 62; rw [show ((n : Int) / 128) = ((n / 128 : Nat) : Int) from by omega]; refine (ih.out (n / 128) (by omega) _ (by omega)).mono ?_; rintro e w1 ⟨v1, rfl, ho1, hB1⟩; obtain ⟨A1, c1, rfl, hr1⟩ := own_reads ho1) | (at_builtin; refine print_append_row (w0 := w) w.heap.size rfl (.tmp 12) (.tmp 15) 48 5 .u8 1 rfl Try.underlying48 info_u8 (by decide) _ [128 + (n : Int) % 128] (enc (n / 128)) A1 _ c1 rfl rfl (pw_own_below (own_lit w w.heap.size 5 .u8 [128 + (n : Int) % 128] (Nat.le_refl _) (by simp)) hB1) hr1 (bl_then (bl_alloc (Below.refl _ _) _) hB1) (bl_then (bl_alloc (Below.refl _ _) _) hB1).size (by simp; omega) ?_; intro v2 w2 ho2 hB2 hg2 hat2))
      go_ret
      rw [He.out, show ((n % 128 + 128 : Nat) : Int) = 128 + (n : Int) % 128 from by omega]
      exact MakesInts.ret ho2 hB2
end Go.Proofs.Ytfcekicjlgdmaaa
