/- Contracts: FormatUint of any number at base 10, Itoa of any int. -/
import Derived.Test.YtebeknnjjoobnaaDoorBi7
import Derived.Lib.SmallJoins
set_option linter.unusedVariables false
set_option linter.unusedSimpArgs false
set_option maxRecDepth 100000
namespace Go.Proofs.YtebeknnjjoobnaaDoor
open Go.RowKit Go.Sort Go.Lib Go.Shelf Go.Proofs
attribute [local go_sem] max2_int min2_int max_two min_two

abbrev PowTab (w : World) : Prop := Lib.TabIs Tryd.prog w "internal/strconv.uint64pow10" .u64 Lib.pow10Tab
theorem powTab_global : ∃ g : Nat, Tryd.prog.globalNamed "internal/strconv.uint64pow10" = some g := ⟨(Tryd.prog.globalNamed "internal/strconv.uint64pow10").get (by kernel_rfl), by kernel_rfl⟩
theorem powTab_below {w w' : World} (h : PowTab w) (hb : Below w.heap.size w w') : PowTab w' := by
  obtain ⟨g, hg⟩ := powTab_global
  exact Go.Joins.tab_stays hg h hb (Nat.le_refl _)
theorem holds_zero0 (w : World) (T : TypeId) (nd : Nat) (hs : nd ≤ 24) : Holds (fun (b : UInt8) => Value.int .u8 (b.toNat : Int)) (w.alloc (.cells Lib.zeros24 T)) w.heap.size 0 (Array.replicate nd (0 : UInt8)) := fun j hj => by
  have hj' : j < nd := by simpa using hj
  refine ⟨?_, World.frozen?_alloc_new _ _ _ _⟩
  rw [World.cell?_alloc_new, Lib.zeros24_at _ (by omega), getElem!_pos _ j hj]
  simp
theorem fin_pos0 (w : World) (o : Obj) (dk : Array UInt8) (k : Nat) : ∃ os, (putRow (fun (b : UInt8) => Value.int .u8 (b.toNat : Int)) (w.alloc o) w.heap.size 0 dk).drewN k = grow (w.drewN k) os := by
  rw [alloc_eq_grow]
  obtain ⟨os', _, e⟩ := putRow_grow_new (fun (b : UInt8) => Value.int .u8 (b.toNat : Int)) w #[o] w.heap.size 0 dk (Nat.le_refl _)
  exact ⟨os', by rw [e]; rfl⟩
theorem below_grow (w : World) (k : Nat) (os : Array Obj) : Below w.heap.size w (grow (w.drewN k) os) := by
  have hs : (grow (w.drewN k) os).heap.size = w.heap.size + os.size := by simp [grow]
  refine ⟨rfl, rfl, rfl, by rw [hs]; omega, fun g hg => ?_⟩
  show ((w.drewN k).heap ++ os)[g]? = w.heap[g]?
  rw [Array.getElem?_append_left (by simpa using hg)]
  simp
theorem bU_any (i : Nat) (h : i < 18446744073709551616) : bU (i : Int) = Lib.decDigits i := by
  unfold bU
  rw [if_pos (by omega)]; rfl
set_option maxHeartbeats 6400000 in
theorem fmt_core (u : Nat) (hu : u < 18446744073709551616) (hs : 100 ≤ u) (w : World) (htab : PowTab w) : Calls Tryd.prog 45 #[.int .u64 u, .int .i64 10] w fun e w' => e = .returned (.string ⟨(Lib.decDigits u).toArray⟩) ∧ ∃ k os, w' = grow (w.drewN k) os := by
  have q1 : decide ((u : Int) < 100) = false := decide_eq_false (by omega)
  have hnd20 : Lib.nDigits u ≤ 20 := Lib.nDigits_le20 u hu
  have hal : Tryd.prog.arrayLen 118 = 24 := by simp [Program.arrayLen, Tryd.underlying118]
  have hsl1 : ∀ W, (Instr.sliceAt 118 (.pointer (some ⟨w.heap.size, 0, none⟩)) none (some (.int .i64 (Lib.nDigits u : Int))) none).run Tryd.prog W = .ok (.slice (some ⟨w.heap.size, 0, none⟩) (Lib.nDigits u) 24) W := fun W => by
    rw [run_sliceAt_array_h W 118 ⟨w.heap.size, 0, none⟩ (by simp [Program.arrayLen, Program.elem, Tryd.underlying118]) .i64 (Lib.nDigits u : Int) (by omega) (by rw [hal]; omega)]
    go_simp
  have hH0 := holds_zero0 w 118 (Lib.nDigits u) (by omega)
  have hfmt := Any.internal_strconv_formatBase10 (ρ := itoaB_ren) { itoaB with } w.heap.size 0 24 u (Array.replicate (Lib.nDigits u) 0) (w.alloc (.cells Lib.zeros24 118)) hH0 (by rw [Array.size_replicate]; exact Lib.lt_pow_nDigits u) hu (by rw [Array.size_replicate]; omega)
  rw [Array.size_replicate] at hfmt
  have HH0 := Lib.hid hH0
  have hnum := Any.internal_strconv_numDigits (ρ := itoaB_ren) { itoaB with } u (by omega) hu _ (Lib.tabIs_alloc htab (.cells Lib.zeros24 118))
  replace hfmt := Lib.hid hfmt
  replace hnum := Lib.hid hnum
  clear hH0 hal htab
  go_enter Tryd.func45, Tryd.ntmps45
  go_wp2_with (fail)
  refine hnum.out.mono ?_; rintro e w' ⟨rfl, rfl⟩
  go_wp2_with (fail)
  refine hfmt.out.mono ?_; rintro e w' ⟨rfl, k, v', dk, rfl, hF⟩
  have hcv : (convert 35 9 (.slice (some ⟨w.heap.size, 0, none⟩) (Lib.nDigits u) 24)).run Tryd.prog ((putRow (fun (b : UInt8) => Value.int .u8 (b.toNat : Int)) (w.alloc (.cells Lib.zeros24 118)) w.heap.size 0 dk).drewN k) = .ok (.string ⟨(Lib.decDigits u).toArray⟩) ((putRow (fun (b : UInt8) => Value.int .u8 (b.toNat : Int)) (w.alloc (.cells Lib.zeros24 118)) w.heap.size 0 dk).drewN k) := by
    have h := run_convert_bytes_back (P := Tryd.prog) ((putRow (fun (b : UInt8) => Value.int .u8 (b.toNat : Int)) (w.alloc (.cells Lib.zeros24 118)) w.heap.size 0 dk).drewN k) 35 9 5 ⟨w.heap.size, 0, none⟩ 24 (Lib.decDigits u) Tryd.underlying35 Tryd.underlying5 Tryd.underlying9 (fun j hj => by
      rw [Lib.row_is_numeral hF j hj, Lib.add_plain, World.cell?_drewN]
      exact cell?_putRow (fun (b : UInt8) => Value.int .u8 (b.toNat : Int)) _ w.heap.size 0 _ dk HH0.out (by rw [hF.size, Array.size_replicate]) j (by rw [hF.size]; rw [Lib.decDigits_length] at hj; exact hj))
    rw [Lib.decDigits_length] at h
    exact h
  clear hfmt hnum
  go_wp2
  go_ret
  obtain ⟨os, eo⟩ := fin_pos0 w (.cells Lib.zeros24 118) dk k
  exact ⟨rfl, k, os, eo⟩
theorem fmt_any (u : Nat) (hu : u < 18446744073709551616) (w : World) (htab : PowTab w) : Calls Tryd.prog 32 #[.int .u64 u, .int .i64 10] w fun e w' => e = .returned (.string ⟨(bU u).toArray⟩) ∧ Below w.heap.size w w' := by
  by_cases h : u < 100
  · exact fmt_small u h w
  · rw [bU_any u hu]
    have hc := fmt_core u hu (by omega) w htab
    replace hc := Lib.hid hc
    clear htab
    go_enter Tryd.func32, Tryd.ntmps32
    go_wp2_with (fail)
    refine hc.out.mono ?_; rintro e w' ⟨rfl, k, os, rfl⟩
    go_wp2
    go_ret
    exact ⟨rfl, below_grow w k os⟩
theorem itoa_any (n : Int) (h0 : -9223372036854775808 ≤ n) (h1 : n ≤ 9223372036854775807) (w : World) (htab : PowTab w) : Calls Tryd.prog 31 #[.int .i64 n] w fun e w' => e = .returned (.string ⟨(bI n).toArray⟩) ∧ Below w.heap.size w w' := by
  refine (Any.strconv_Itoa itoaB n h0 h1 w htab).mono ?_
  rintro e w' ⟨rfl, k, os, rfl⟩
  exact ⟨by unfold bI; rw [if_pos ⟨h0, h1⟩], below_grow w k os⟩
end Go.Proofs.YtebeknnjjoobnaaDoor
