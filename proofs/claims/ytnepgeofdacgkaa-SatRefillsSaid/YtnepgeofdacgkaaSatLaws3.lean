/- The walks of layer 1's laws, to the end. -/
import Derived.Test.YtnepgeofdacgkaaSatLaws2
set_option linter.unusedVariables false
set_option linter.unusedSimpArgs false
namespace Go.Proofs.Ytnepgeofdacgkaa
open Go.RowKit
attribute [local go_sem] max2_int min2_int max_two min_two

theorem beq_true {a b : Int} (h : a = b) : (a == b) = true ∧ (a != b) = false := by subst h; simp
theorem beq_false {a b : Int} (h : a ≠ b) : (a == b) = false ∧ (a != b) = true := by simp [h]

set_option maxHeartbeats 800000 in
theorem satThree_walk (a : Int) (ha : 0 ≤ a ∧ a ≤ 18446744073709551615) (b : Int) (hb : 0 ≤ b ∧ b ≤ 18446744073709551615) (c : Int) (hc : 0 ≤ c ∧ c ≤ 18446744073709551615) (w : World) :
    Calls Try.prog 7 #[.agg #[.int .u64 a, .int .u64 b, .int .u64 c]] w fun e w' => e = .returned (.bool true) ∧ Below w.heap.size w w' := by
  have hab := satAdd_bd ha.1 hb.1
  have hbc := satAdd_bd hb.1 hc.1
  have mab := satMul_bd ha.1 hb.1
  have mbc := satMul_bd hb.1 hc.1
  have e1 := Lib.hid (beq_true (three_add a b c ha.1 hb.1 hc.1))
  have e2 := Lib.hid (beq_true (mul_comm_sat a b))
  have key : ∀ (s1 : (satAdd a b == 18446744073709551615) = true ∨ ((satAdd a b == 18446744073709551615) = false ∧ (satSub (satAdd a b) b == a) = true ∧ (satSub (satAdd a b) a == b) = true)), True := fun _ => trivial
  clear key
  rcases (by
      by_cases h : satAdd a b = 18446744073709551615
      · exact .inl (beq_true h).1
      · have q := add_back a b ha.1 hb.1 h
        exact .inr ⟨(beq_false h).1, (beq_true q.1).1, (beq_true q.2).1⟩ : (satAdd a b == 18446744073709551615) = true ∨ ((satAdd a b == 18446744073709551615) = false ∧ (satSub (satAdd a b) b == a) = true ∧ (satSub (satAdd a b) a == b) = true)) with s1 | ⟨s1, s2, s3⟩
  · rcases (by
      by_cases h1 : a = 0
      · exact .inl (beq_true h1).2
      · by_cases h2 : b = 0
        · exact .inr (.inl ⟨(beq_false h1).2, (beq_true h2).2⟩)
        · by_cases h3 : c = 0
          · exact .inr (.inr (.inl ⟨(beq_false h1).2, (beq_false h2).2, (beq_true h3).2⟩))
          · exact .inr (.inr (.inr ⟨(beq_false h1).2, (beq_false h2).2, (beq_false h3).2, (beq_true (three_mul a b c (by omega) (by omega) (by omega))).2⟩)) :
        (a != 0) = false ∨ ((a != 0) = true ∧ (b != 0) = false) ∨ ((a != 0) = true ∧ (b != 0) = true ∧ (c != 0) = false) ∨ ((a != 0) = true ∧ (b != 0) = true ∧ (c != 0) = true ∧ (satMul (satMul a b) c != satMul a (satMul b c)) = false)) with z1 | ⟨z1, z2⟩ | ⟨z1, z2, z3⟩ | ⟨z1, z2, z3, z4⟩
    · have e1' := e1.out
      have e2' := e2.out
      obtain ⟨e1a, e1b⟩ := e1'
      obtain ⟨e2a, e2b⟩ := e2'
      go_enter Try.func7, Try.ntmps7
      go_wp2_with (first | (go_at_call 12; (with_reducible refine (satAlive_any _).mono ?_); rintro e w0 ⟨rfl, hB0⟩; obtain ⟨hc0, hf0⟩ := bl_cells hB0))
      go_quiet (fail)
      go_wp2_with (first | (go_at_call 12; (with_reducible refine (satAlive_any _).mono ?_); rintro e w0 ⟨rfl, hB0⟩; obtain ⟨hc0, hf0⟩ := bl_cells hB0) | (go_at_call 17; (with_reducible refine (add_any a b _ ha.1 ha.2 hb.1 hb.2).mono ?_); rintro e w1 ⟨rfl, rfl⟩) | (go_at_call 17; (with_reducible refine (add_any b c _ hb.1 hb.2 hc.1 hc.2).mono ?_); rintro e w1 ⟨rfl, rfl⟩) | (go_at_call 17; (with_reducible refine (add_any (satAdd a b) c _ hab.1 hab.2 hc.1 hc.2).mono ?_); rintro e w1 ⟨rfl, rfl⟩) | (go_at_call 17; (with_reducible refine (add_any a (satAdd b c) _ ha.1 ha.2 hbc.1 hbc.2).mono ?_); rintro e w1 ⟨rfl, rfl⟩) | (go_at_call 18; (with_reducible refine (mul_any a b _ ha.1 ha.2 hb.1 hb.2).mono ?_); rintro e w1 ⟨rfl, rfl⟩) | (go_at_call 18; (with_reducible refine (mul_any b a _ hb.1 hb.2 ha.1 ha.2).mono ?_); rintro e w1 ⟨rfl, rfl⟩) | (go_at_call 18; (with_reducible refine (mul_any b c _ hb.1 hb.2 hc.1 hc.2).mono ?_); rintro e w1 ⟨rfl, rfl⟩) | (go_at_call 18; (with_reducible refine (mul_any (satMul a b) c _ mab.1 mab.2 hc.1 hc.2).mono ?_); rintro e w1 ⟨rfl, rfl⟩) | (go_at_call 18; (with_reducible refine (mul_any a (satMul b c) _ ha.1 ha.2 mbc.1 mbc.2).mono ?_); rintro e w1 ⟨rfl, rfl⟩) | (go_at_call 20; (with_reducible refine (sub_any (satAdd a b) b _ hab.1 hab.2 hb.1 hb.2).mono ?_); rintro e w1 ⟨rfl, rfl⟩) | (go_at_call 20; (with_reducible refine (sub_any (satAdd a b) a _ hab.1 hab.2 ha.1 ha.2).mono ?_); rintro e w1 ⟨rfl, rfl⟩))
      go_ret
      exact ⟨rfl, by repeat (with_reducible first | exact Below.refl _ _ | exact hB0 | apply bl_alloc | apply bl_drewN | apply bl_drew | refine bl_then ?_ hB0)⟩
    · have e1' := e1.out
      have e2' := e2.out
      obtain ⟨e1a, e1b⟩ := e1'
      obtain ⟨e2a, e2b⟩ := e2'
      go_enter Try.func7, Try.ntmps7
      go_wp2_with (first | (go_at_call 12; (with_reducible refine (satAlive_any _).mono ?_); rintro e w0 ⟨rfl, hB0⟩; obtain ⟨hc0, hf0⟩ := bl_cells hB0))
      go_quiet (fail)
      go_wp2_with (first | (go_at_call 12; (with_reducible refine (satAlive_any _).mono ?_); rintro e w0 ⟨rfl, hB0⟩; obtain ⟨hc0, hf0⟩ := bl_cells hB0) | (go_at_call 17; (with_reducible refine (add_any a b _ ha.1 ha.2 hb.1 hb.2).mono ?_); rintro e w1 ⟨rfl, rfl⟩) | (go_at_call 17; (with_reducible refine (add_any b c _ hb.1 hb.2 hc.1 hc.2).mono ?_); rintro e w1 ⟨rfl, rfl⟩) | (go_at_call 17; (with_reducible refine (add_any (satAdd a b) c _ hab.1 hab.2 hc.1 hc.2).mono ?_); rintro e w1 ⟨rfl, rfl⟩) | (go_at_call 17; (with_reducible refine (add_any a (satAdd b c) _ ha.1 ha.2 hbc.1 hbc.2).mono ?_); rintro e w1 ⟨rfl, rfl⟩) | (go_at_call 18; (with_reducible refine (mul_any a b _ ha.1 ha.2 hb.1 hb.2).mono ?_); rintro e w1 ⟨rfl, rfl⟩) | (go_at_call 18; (with_reducible refine (mul_any b a _ hb.1 hb.2 ha.1 ha.2).mono ?_); rintro e w1 ⟨rfl, rfl⟩) | (go_at_call 18; (with_reducible refine (mul_any b c _ hb.1 hb.2 hc.1 hc.2).mono ?_); rintro e w1 ⟨rfl, rfl⟩) | (go_at_call 18; (with_reducible refine (mul_any (satMul a b) c _ mab.1 mab.2 hc.1 hc.2).mono ?_); rintro e w1 ⟨rfl, rfl⟩) | (go_at_call 18; (with_reducible refine (mul_any a (satMul b c) _ ha.1 ha.2 mbc.1 mbc.2).mono ?_); rintro e w1 ⟨rfl, rfl⟩) | (go_at_call 20; (with_reducible refine (sub_any (satAdd a b) b _ hab.1 hab.2 hb.1 hb.2).mono ?_); rintro e w1 ⟨rfl, rfl⟩) | (go_at_call 20; (with_reducible refine (sub_any (satAdd a b) a _ hab.1 hab.2 ha.1 ha.2).mono ?_); rintro e w1 ⟨rfl, rfl⟩))
      go_ret
      exact ⟨rfl, by repeat (with_reducible first | exact Below.refl _ _ | exact hB0 | apply bl_alloc | apply bl_drewN | apply bl_drew | refine bl_then ?_ hB0)⟩
    · have e1' := e1.out
      have e2' := e2.out
      obtain ⟨e1a, e1b⟩ := e1'
      obtain ⟨e2a, e2b⟩ := e2'
      go_enter Try.func7, Try.ntmps7
      go_wp2_with (first | (go_at_call 12; (with_reducible refine (satAlive_any _).mono ?_); rintro e w0 ⟨rfl, hB0⟩; obtain ⟨hc0, hf0⟩ := bl_cells hB0))
      go_quiet (fail)
      go_wp2_with (first | (go_at_call 12; (with_reducible refine (satAlive_any _).mono ?_); rintro e w0 ⟨rfl, hB0⟩; obtain ⟨hc0, hf0⟩ := bl_cells hB0) | (go_at_call 17; (with_reducible refine (add_any a b _ ha.1 ha.2 hb.1 hb.2).mono ?_); rintro e w1 ⟨rfl, rfl⟩) | (go_at_call 17; (with_reducible refine (add_any b c _ hb.1 hb.2 hc.1 hc.2).mono ?_); rintro e w1 ⟨rfl, rfl⟩) | (go_at_call 17; (with_reducible refine (add_any (satAdd a b) c _ hab.1 hab.2 hc.1 hc.2).mono ?_); rintro e w1 ⟨rfl, rfl⟩) | (go_at_call 17; (with_reducible refine (add_any a (satAdd b c) _ ha.1 ha.2 hbc.1 hbc.2).mono ?_); rintro e w1 ⟨rfl, rfl⟩) | (go_at_call 18; (with_reducible refine (mul_any a b _ ha.1 ha.2 hb.1 hb.2).mono ?_); rintro e w1 ⟨rfl, rfl⟩) | (go_at_call 18; (with_reducible refine (mul_any b a _ hb.1 hb.2 ha.1 ha.2).mono ?_); rintro e w1 ⟨rfl, rfl⟩) | (go_at_call 18; (with_reducible refine (mul_any b c _ hb.1 hb.2 hc.1 hc.2).mono ?_); rintro e w1 ⟨rfl, rfl⟩) | (go_at_call 18; (with_reducible refine (mul_any (satMul a b) c _ mab.1 mab.2 hc.1 hc.2).mono ?_); rintro e w1 ⟨rfl, rfl⟩) | (go_at_call 18; (with_reducible refine (mul_any a (satMul b c) _ ha.1 ha.2 mbc.1 mbc.2).mono ?_); rintro e w1 ⟨rfl, rfl⟩) | (go_at_call 20; (with_reducible refine (sub_any (satAdd a b) b _ hab.1 hab.2 hb.1 hb.2).mono ?_); rintro e w1 ⟨rfl, rfl⟩) | (go_at_call 20; (with_reducible refine (sub_any (satAdd a b) a _ hab.1 hab.2 ha.1 ha.2).mono ?_); rintro e w1 ⟨rfl, rfl⟩))
      go_ret
      exact ⟨rfl, by repeat (with_reducible first | exact Below.refl _ _ | exact hB0 | apply bl_alloc | apply bl_drewN | apply bl_drew | refine bl_then ?_ hB0)⟩
    · have e1' := e1.out
      have e2' := e2.out
      obtain ⟨e1a, e1b⟩ := e1'
      obtain ⟨e2a, e2b⟩ := e2'
      go_enter Try.func7, Try.ntmps7
      go_wp2_with (first | (go_at_call 12; (with_reducible refine (satAlive_any _).mono ?_); rintro e w0 ⟨rfl, hB0⟩; obtain ⟨hc0, hf0⟩ := bl_cells hB0))
      go_quiet (fail)
      go_wp2_with (first | (go_at_call 12; (with_reducible refine (satAlive_any _).mono ?_); rintro e w0 ⟨rfl, hB0⟩; obtain ⟨hc0, hf0⟩ := bl_cells hB0) | (go_at_call 17; (with_reducible refine (add_any a b _ ha.1 ha.2 hb.1 hb.2).mono ?_); rintro e w1 ⟨rfl, rfl⟩) | (go_at_call 17; (with_reducible refine (add_any b c _ hb.1 hb.2 hc.1 hc.2).mono ?_); rintro e w1 ⟨rfl, rfl⟩) | (go_at_call 17; (with_reducible refine (add_any (satAdd a b) c _ hab.1 hab.2 hc.1 hc.2).mono ?_); rintro e w1 ⟨rfl, rfl⟩) | (go_at_call 17; (with_reducible refine (add_any a (satAdd b c) _ ha.1 ha.2 hbc.1 hbc.2).mono ?_); rintro e w1 ⟨rfl, rfl⟩) | (go_at_call 18; (with_reducible refine (mul_any a b _ ha.1 ha.2 hb.1 hb.2).mono ?_); rintro e w1 ⟨rfl, rfl⟩) | (go_at_call 18; (with_reducible refine (mul_any b a _ hb.1 hb.2 ha.1 ha.2).mono ?_); rintro e w1 ⟨rfl, rfl⟩) | (go_at_call 18; (with_reducible refine (mul_any b c _ hb.1 hb.2 hc.1 hc.2).mono ?_); rintro e w1 ⟨rfl, rfl⟩) | (go_at_call 18; (with_reducible refine (mul_any (satMul a b) c _ mab.1 mab.2 hc.1 hc.2).mono ?_); rintro e w1 ⟨rfl, rfl⟩) | (go_at_call 18; (with_reducible refine (mul_any a (satMul b c) _ ha.1 ha.2 mbc.1 mbc.2).mono ?_); rintro e w1 ⟨rfl, rfl⟩) | (go_at_call 20; (with_reducible refine (sub_any (satAdd a b) b _ hab.1 hab.2 hb.1 hb.2).mono ?_); rintro e w1 ⟨rfl, rfl⟩) | (go_at_call 20; (with_reducible refine (sub_any (satAdd a b) a _ hab.1 hab.2 ha.1 ha.2).mono ?_); rintro e w1 ⟨rfl, rfl⟩))
      go_ret
      exact ⟨rfl, by repeat (with_reducible first | exact Below.refl _ _ | exact hB0 | apply bl_alloc | apply bl_drewN | apply bl_drew | refine bl_then ?_ hB0)⟩
  · rcases (by
      by_cases h1 : a = 0
      · exact .inl (beq_true h1).2
      · by_cases h2 : b = 0
        · exact .inr (.inl ⟨(beq_false h1).2, (beq_true h2).2⟩)
        · by_cases h3 : c = 0
          · exact .inr (.inr (.inl ⟨(beq_false h1).2, (beq_false h2).2, (beq_true h3).2⟩))
          · exact .inr (.inr (.inr ⟨(beq_false h1).2, (beq_false h2).2, (beq_false h3).2, (beq_true (three_mul a b c (by omega) (by omega) (by omega))).2⟩)) :
        (a != 0) = false ∨ ((a != 0) = true ∧ (b != 0) = false) ∨ ((a != 0) = true ∧ (b != 0) = true ∧ (c != 0) = false) ∨ ((a != 0) = true ∧ (b != 0) = true ∧ (c != 0) = true ∧ (satMul (satMul a b) c != satMul a (satMul b c)) = false)) with z1 | ⟨z1, z2⟩ | ⟨z1, z2, z3⟩ | ⟨z1, z2, z3, z4⟩
    · have e1' := e1.out
      have e2' := e2.out
      obtain ⟨e1a, e1b⟩ := e1'
      obtain ⟨e2a, e2b⟩ := e2'
      go_enter Try.func7, Try.ntmps7
      go_wp2_with (first | (go_at_call 12; (with_reducible refine (satAlive_any _).mono ?_); rintro e w0 ⟨rfl, hB0⟩; obtain ⟨hc0, hf0⟩ := bl_cells hB0))
      go_quiet (fail)
      go_wp2_with (first | (go_at_call 12; (with_reducible refine (satAlive_any _).mono ?_); rintro e w0 ⟨rfl, hB0⟩; obtain ⟨hc0, hf0⟩ := bl_cells hB0) | (go_at_call 17; (with_reducible refine (add_any a b _ ha.1 ha.2 hb.1 hb.2).mono ?_); rintro e w1 ⟨rfl, rfl⟩) | (go_at_call 17; (with_reducible refine (add_any b c _ hb.1 hb.2 hc.1 hc.2).mono ?_); rintro e w1 ⟨rfl, rfl⟩) | (go_at_call 17; (with_reducible refine (add_any (satAdd a b) c _ hab.1 hab.2 hc.1 hc.2).mono ?_); rintro e w1 ⟨rfl, rfl⟩) | (go_at_call 17; (with_reducible refine (add_any a (satAdd b c) _ ha.1 ha.2 hbc.1 hbc.2).mono ?_); rintro e w1 ⟨rfl, rfl⟩) | (go_at_call 18; (with_reducible refine (mul_any a b _ ha.1 ha.2 hb.1 hb.2).mono ?_); rintro e w1 ⟨rfl, rfl⟩) | (go_at_call 18; (with_reducible refine (mul_any b a _ hb.1 hb.2 ha.1 ha.2).mono ?_); rintro e w1 ⟨rfl, rfl⟩) | (go_at_call 18; (with_reducible refine (mul_any b c _ hb.1 hb.2 hc.1 hc.2).mono ?_); rintro e w1 ⟨rfl, rfl⟩) | (go_at_call 18; (with_reducible refine (mul_any (satMul a b) c _ mab.1 mab.2 hc.1 hc.2).mono ?_); rintro e w1 ⟨rfl, rfl⟩) | (go_at_call 18; (with_reducible refine (mul_any a (satMul b c) _ ha.1 ha.2 mbc.1 mbc.2).mono ?_); rintro e w1 ⟨rfl, rfl⟩) | (go_at_call 20; (with_reducible refine (sub_any (satAdd a b) b _ hab.1 hab.2 hb.1 hb.2).mono ?_); rintro e w1 ⟨rfl, rfl⟩) | (go_at_call 20; (with_reducible refine (sub_any (satAdd a b) a _ hab.1 hab.2 ha.1 ha.2).mono ?_); rintro e w1 ⟨rfl, rfl⟩))
      go_ret
      exact ⟨rfl, by repeat (with_reducible first | exact Below.refl _ _ | exact hB0 | apply bl_alloc | apply bl_drewN | apply bl_drew | refine bl_then ?_ hB0)⟩
    · have e1' := e1.out
      have e2' := e2.out
      obtain ⟨e1a, e1b⟩ := e1'
      obtain ⟨e2a, e2b⟩ := e2'
      go_enter Try.func7, Try.ntmps7
      go_wp2_with (first | (go_at_call 12; (with_reducible refine (satAlive_any _).mono ?_); rintro e w0 ⟨rfl, hB0⟩; obtain ⟨hc0, hf0⟩ := bl_cells hB0))
      go_quiet (fail)
      go_wp2_with (first | (go_at_call 12; (with_reducible refine (satAlive_any _).mono ?_); rintro e w0 ⟨rfl, hB0⟩; obtain ⟨hc0, hf0⟩ := bl_cells hB0) | (go_at_call 17; (with_reducible refine (add_any a b _ ha.1 ha.2 hb.1 hb.2).mono ?_); rintro e w1 ⟨rfl, rfl⟩) | (go_at_call 17; (with_reducible refine (add_any b c _ hb.1 hb.2 hc.1 hc.2).mono ?_); rintro e w1 ⟨rfl, rfl⟩) | (go_at_call 17; (with_reducible refine (add_any (satAdd a b) c _ hab.1 hab.2 hc.1 hc.2).mono ?_); rintro e w1 ⟨rfl, rfl⟩) | (go_at_call 17; (with_reducible refine (add_any a (satAdd b c) _ ha.1 ha.2 hbc.1 hbc.2).mono ?_); rintro e w1 ⟨rfl, rfl⟩) | (go_at_call 18; (with_reducible refine (mul_any a b _ ha.1 ha.2 hb.1 hb.2).mono ?_); rintro e w1 ⟨rfl, rfl⟩) | (go_at_call 18; (with_reducible refine (mul_any b a _ hb.1 hb.2 ha.1 ha.2).mono ?_); rintro e w1 ⟨rfl, rfl⟩) | (go_at_call 18; (with_reducible refine (mul_any b c _ hb.1 hb.2 hc.1 hc.2).mono ?_); rintro e w1 ⟨rfl, rfl⟩) | (go_at_call 18; (with_reducible refine (mul_any (satMul a b) c _ mab.1 mab.2 hc.1 hc.2).mono ?_); rintro e w1 ⟨rfl, rfl⟩) | (go_at_call 18; (with_reducible refine (mul_any a (satMul b c) _ ha.1 ha.2 mbc.1 mbc.2).mono ?_); rintro e w1 ⟨rfl, rfl⟩) | (go_at_call 20; (with_reducible refine (sub_any (satAdd a b) b _ hab.1 hab.2 hb.1 hb.2).mono ?_); rintro e w1 ⟨rfl, rfl⟩) | (go_at_call 20; (with_reducible refine (sub_any (satAdd a b) a _ hab.1 hab.2 ha.1 ha.2).mono ?_); rintro e w1 ⟨rfl, rfl⟩))
      go_ret
      exact ⟨rfl, by repeat (with_reducible first | exact Below.refl _ _ | exact hB0 | apply bl_alloc | apply bl_drewN | apply bl_drew | refine bl_then ?_ hB0)⟩
    · have e1' := e1.out
      have e2' := e2.out
      obtain ⟨e1a, e1b⟩ := e1'
      obtain ⟨e2a, e2b⟩ := e2'
      go_enter Try.func7, Try.ntmps7
      go_wp2_with (first | (go_at_call 12; (with_reducible refine (satAlive_any _).mono ?_); rintro e w0 ⟨rfl, hB0⟩; obtain ⟨hc0, hf0⟩ := bl_cells hB0))
      go_quiet (fail)
      go_wp2_with (first | (go_at_call 12; (with_reducible refine (satAlive_any _).mono ?_); rintro e w0 ⟨rfl, hB0⟩; obtain ⟨hc0, hf0⟩ := bl_cells hB0) | (go_at_call 17; (with_reducible refine (add_any a b _ ha.1 ha.2 hb.1 hb.2).mono ?_); rintro e w1 ⟨rfl, rfl⟩) | (go_at_call 17; (with_reducible refine (add_any b c _ hb.1 hb.2 hc.1 hc.2).mono ?_); rintro e w1 ⟨rfl, rfl⟩) | (go_at_call 17; (with_reducible refine (add_any (satAdd a b) c _ hab.1 hab.2 hc.1 hc.2).mono ?_); rintro e w1 ⟨rfl, rfl⟩) | (go_at_call 17; (with_reducible refine (add_any a (satAdd b c) _ ha.1 ha.2 hbc.1 hbc.2).mono ?_); rintro e w1 ⟨rfl, rfl⟩) | (go_at_call 18; (with_reducible refine (mul_any a b _ ha.1 ha.2 hb.1 hb.2).mono ?_); rintro e w1 ⟨rfl, rfl⟩) | (go_at_call 18; (with_reducible refine (mul_any b a _ hb.1 hb.2 ha.1 ha.2).mono ?_); rintro e w1 ⟨rfl, rfl⟩) | (go_at_call 18; (with_reducible refine (mul_any b c _ hb.1 hb.2 hc.1 hc.2).mono ?_); rintro e w1 ⟨rfl, rfl⟩) | (go_at_call 18; (with_reducible refine (mul_any (satMul a b) c _ mab.1 mab.2 hc.1 hc.2).mono ?_); rintro e w1 ⟨rfl, rfl⟩) | (go_at_call 18; (with_reducible refine (mul_any a (satMul b c) _ ha.1 ha.2 mbc.1 mbc.2).mono ?_); rintro e w1 ⟨rfl, rfl⟩) | (go_at_call 20; (with_reducible refine (sub_any (satAdd a b) b _ hab.1 hab.2 hb.1 hb.2).mono ?_); rintro e w1 ⟨rfl, rfl⟩) | (go_at_call 20; (with_reducible refine (sub_any (satAdd a b) a _ hab.1 hab.2 ha.1 ha.2).mono ?_); rintro e w1 ⟨rfl, rfl⟩))
      go_ret
      exact ⟨rfl, by repeat (with_reducible first | exact Below.refl _ _ | exact hB0 | apply bl_alloc | apply bl_drewN | apply bl_drew | refine bl_then ?_ hB0)⟩
    · have e1' := e1.out
      have e2' := e2.out
      obtain ⟨e1a, e1b⟩ := e1'
      obtain ⟨e2a, e2b⟩ := e2'
      go_enter Try.func7, Try.ntmps7
      go_wp2_with (first | (go_at_call 12; (with_reducible refine (satAlive_any _).mono ?_); rintro e w0 ⟨rfl, hB0⟩; obtain ⟨hc0, hf0⟩ := bl_cells hB0))
      go_quiet (fail)
      go_wp2_with (first | (go_at_call 12; (with_reducible refine (satAlive_any _).mono ?_); rintro e w0 ⟨rfl, hB0⟩; obtain ⟨hc0, hf0⟩ := bl_cells hB0) | (go_at_call 17; (with_reducible refine (add_any a b _ ha.1 ha.2 hb.1 hb.2).mono ?_); rintro e w1 ⟨rfl, rfl⟩) | (go_at_call 17; (with_reducible refine (add_any b c _ hb.1 hb.2 hc.1 hc.2).mono ?_); rintro e w1 ⟨rfl, rfl⟩) | (go_at_call 17; (with_reducible refine (add_any (satAdd a b) c _ hab.1 hab.2 hc.1 hc.2).mono ?_); rintro e w1 ⟨rfl, rfl⟩) | (go_at_call 17; (with_reducible refine (add_any a (satAdd b c) _ ha.1 ha.2 hbc.1 hbc.2).mono ?_); rintro e w1 ⟨rfl, rfl⟩) | (go_at_call 18; (with_reducible refine (mul_any a b _ ha.1 ha.2 hb.1 hb.2).mono ?_); rintro e w1 ⟨rfl, rfl⟩) | (go_at_call 18; (with_reducible refine (mul_any b a _ hb.1 hb.2 ha.1 ha.2).mono ?_); rintro e w1 ⟨rfl, rfl⟩) | (go_at_call 18; (with_reducible refine (mul_any b c _ hb.1 hb.2 hc.1 hc.2).mono ?_); rintro e w1 ⟨rfl, rfl⟩) | (go_at_call 18; (with_reducible refine (mul_any (satMul a b) c _ mab.1 mab.2 hc.1 hc.2).mono ?_); rintro e w1 ⟨rfl, rfl⟩) | (go_at_call 18; (with_reducible refine (mul_any a (satMul b c) _ ha.1 ha.2 mbc.1 mbc.2).mono ?_); rintro e w1 ⟨rfl, rfl⟩) | (go_at_call 20; (with_reducible refine (sub_any (satAdd a b) b _ hab.1 hab.2 hb.1 hb.2).mono ?_); rintro e w1 ⟨rfl, rfl⟩) | (go_at_call 20; (with_reducible refine (sub_any (satAdd a b) a _ hab.1 hab.2 ha.1 ha.2).mono ?_); rintro e w1 ⟨rfl, rfl⟩))
      go_ret
      exact ⟨rfl, by repeat (with_reducible first | exact Below.refl _ _ | exact hB0 | apply bl_alloc | apply bl_drewN | apply bl_drew | refine bl_then ?_ hB0)⟩

end Go.Proofs.Ytnepgeofdacgkaa
