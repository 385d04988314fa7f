/- Contracts: numbers as text; billAlive. -/
import Derived.Test.YtebeknnjjoobnaaDoorBiR
import Derived.Lib.ItoaLen
import Derived.Lib.SlBytesConst
import Derived.Deep.CutRange
set_option linter.unusedVariables false
set_option linter.unusedSimpArgs false
set_option maxRecDepth 100000
namespace Go.Proofs.YtebeknnjjoobnaaDoor
open Go.RowKit Go.Sort Go.Lib Go.Shelf Go.Proofs Go.Proofs.YtebeknnjjoobnaaDoorW.PrintWords
attribute [local go_sem] max2_int min2_int max_two min_two
attribute [local go_sem ↓] eql_rw neq_rw

/-- A number's digits. -/
def bI (n : Int) : List UInt8 := if -9223372036854775808 ≤ n ∧ n ≤ 9223372036854775807 then Lib.itoa n else []
def bU (n : Int) : List UInt8 := if n.toNat < 18446744073709551616 then Lib.decDigits n.toNat else []
theorem bI_len (n : Int) : (bI n).length ≤ 30 := by
  unfold bI
  split
  · rename_i h
    have := Lib.itoa_length_le n h.1 h.2
    omega
  · exact Nat.zero_le _
theorem bU_len (n : Int) : (bU n).length ≤ 30 := by
  unfold bU
  split
  · rename_i h
    rw [Lib.decDigits_length]
    have := Lib.nDigits_le20 n.toNat h
    omega
  · exact Nat.zero_le _
theorem bI_nat (i : Nat) (h : i < 100) : bI (i : Int) = Lib.decDigits i := by
  unfold bI
  rw [if_pos (by omega), Lib.itoa_nonneg]
theorem bU_nat (i : Nat) (h : i < 100) : bU (i : Int) = Lib.decDigits i := by
  unfold bU
  rw [if_pos (by omega)]; rfl
theorem itoa_small (i : Nat) (h : i < 100) (w : World) : Calls Tryd.prog 31 #[.int .i64 i] w fun e w' => e = .returned (.string ⟨(bI i).toArray⟩) ∧ Below w.heap.size w w' :=
  (Any.strconv_Itoa_small itoasB i h w).mono fun e w' ⟨h1, h2⟩ => ⟨by rw [h1, bI_nat i h], by rw [h2]; exact Below.refl _ _⟩
theorem fmt_small (i : Nat) (h : i < 100) (w : World) : Calls Tryd.prog 32 #[.int .u64 i, .int .i64 10] w fun e w' => e = .returned (.string ⟨(bU i).toArray⟩) ∧ Below w.heap.size w w' := by
  rw [bU_nat i h]
  have h1 : decide ((i : Int) < 100) = true := decide_eq_true (by omega)
  have hc : Calls Tryd.prog 45 #[.int .u64 i, .int .i64 10] w fun e w' => e = .returned (.string ⟨(Lib.decDigits i).toArray⟩) ∧ w = w' := by
    have hwr : IntKind.i64.wrap (i : Int) = i := by unfold IntKind.wrap; simp [IntKind.signed, IntKind.bits]; omega
    have hk := fun W => Any.internal_strconv_small smallB i h W
    replace hk := Lib.hid hk
    go_enter Tryd.func45, Tryd.ntmps45
    go_wp2_with (fail)
    refine (hk.out _).mono ?_; rintro e w' ⟨rfl, rfl⟩
    go_wp2
    go_ret
    exact ⟨rfl, rfl⟩
  replace hc := Lib.hid hc
  go_enter Tryd.func32, Tryd.ntmps32
  go_wp2_with (fail)
  refine hc.out.mono ?_; rintro e w' ⟨rfl, rfl⟩
  go_wp2
  go_ret
  exact ⟨rfl, Below.refl _ _⟩
theorem dec_one (n : Nat) (h : n < 10) : Lib.decDigits n = [UInt8.ofNat (48 + n)] := by
  unfold Lib.decDigits
  rw [dif_pos h]
def aliveR : Rw := ((4, 1), (2, 6, 0, 0))
def aliveM : Mo := ⟨2, 0, 4, 1, 3, none⟩
theorem alive_line : linesL bI bU [aliveR] = [52, 32, 49, 32, 50, 32, 54, 32, 48, 32, 48, 10] := by
  unfold linesL lineL strsL numsL aliveR
  rw [List.map_cons, List.map_nil]
  simp only [List.map_cons, List.map_nil, List.flatten_cons, List.flatten_nil, List.append_nil]
  rw [show bI 4 = [52] by rw [show (4 : Int) = ((4 : Nat) : Int) from rfl, bI_nat 4 (by omega), dec_one 4 (by omega)]; rfl,
    show bU 1 = [49] by rw [show (1 : Int) = ((1 : Nat) : Int) from rfl, bU_nat 1 (by omega), dec_one 1 (by omega)]; rfl,
    show bU 2 = [50] by rw [show (2 : Int) = ((2 : Nat) : Int) from rfl, bU_nat 2 (by omega), dec_one 2 (by omega)]; rfl,
    show bU 6 = [54] by rw [show (6 : Int) = ((6 : Nat) : Int) from rfl, bU_nat 6 (by omega), dec_one 6 (by omega)]; rfl,
    show bU 0 = [48] by rw [show (0 : Int) = ((0 : Nat) : Int) from rfl, bU_nat 0 (by omega), dec_one 0 (by omega)]; rfl]
  rfl
theorem alive_rows : (rowsL [aliveM, aliveM]).1 = [((4, 1), (1, 3, 0, 0)), ((4, 1), (1, 3, 0, 0))] := by decide
theorem alive_merge {d : List Rw} (ho : Ordered d) (hm : ∀ x, x ∈ d ↔ x.2 = tot (rowsL [aliveM, aliveM]).1 x.1 ∧ x.2 ≠ zeroV) : d = [aliveR] := by
  rw [alive_rows] at hm
  refine ordered_eq d [aliveR] ho (List.pairwise_singleton _ _) fun x => ?_
  rw [hm x, List.mem_singleton]
  by_cases h : x.1 = (4, 1)
  · rw [h, show tot [((4, 1), (1, 3, 0, 0)), ((4, 1), (1, 3, 0, 0))] (4, 1) = (2, 6, 0, 0) by decide]
    constructor
    · intro k; exact Prod.ext h k.1
    · intro k; rw [k]; exact ⟨rfl, by decide⟩
  · constructor
    · intro k
      rw [tot_none (by intro y hy; simp only [List.mem_cons, List.not_mem_nil, or_false] at hy; rcases hy with rfl | rfl <;> exact fun e => h e.symm)] at k
      exact absurd k.1 k.2
    · intro k; exact absurd (by rw [k]; rfl) h
def aliveC (g : Nat) : Array Value := #[.int .i64 2, .int .i64 0, .int .i64 0, .int .u64 0, .slice none 0 0, .int .i64 0, .int .u8 0, .int .u8 0, .int .u8 0, .int .u8 0, .int .i64 0, .int .u64 0, .int .u64 0, .int .u64 0, .int .u64 0, .int .u64 0, .int .u64 0, .int .u64 0, .slice none 0 0, .int .i64 0, .int .i64 0, .bool false, .int .i64 4, .int .i64 1, .bool false, .slice (some ⟨g, 0, none⟩) 3 3, .int .u64 0, .int .i64 0, .bool false, .int .i64 0, .int .u8 0, .int .u8 0, .int .u8 0, .int .u8 0, .int .i64 0, .int .u64 0, .int .u64 0, .int .u64 0, .int .u64 0, .int .u64 0, .int .u64 0, .int .u64 0, .int .u64 0, .int .u64 0, .int .i64 0, .int .u64 0, .int .u64 0, .bool false, .slice none 0 0]
def aliveD (g : Nat) : Array Value := #[.int .i64 2, .int .i64 0, .int .i64 0, .int .u64 0, .slice none 0 0, .int .i64 0, .int .u8 0, .int .u8 0, .int .u8 0, .int .u8 0, .int .i64 0, .int .u64 0, .int .u64 0, .int .u64 0, .int .u64 0, .int .u64 0, .int .u64 0, .int .u64 0, .slice none 0 0, .int .i64 0, .int .i64 0, .bool false, .int .i64 4, .int .i64 1, .bool false, .slice (some ⟨g, 0, none⟩) 3 3, .int .u64 0, .int .i64 0, .bool false, .int .i64 0, .int .u8 0, .int .u8 0, .int .u8 0, .int .u8 0, .int .i64 0, .int .u64 0, .int .u64 0, .int .u64 0, .int .u64 0, .int .u64 0, .int .u64 0, .int .u64 0, .int .u64 0, .int .u64 0, .int .i64 0, .int .u64 0, .int .u64 0, .bool false, .slice none 0 0, .int .i64 2, .int .i64 0, .int .i64 0, .int .u64 0, .slice none 0 0, .int .i64 0, .int .u8 0, .int .u8 0, .int .u8 0, .int .u8 0, .int .i64 0, .int .u64 0, .int .u64 0, .int .u64 0, .int .u64 0, .int .u64 0, .int .u64 0, .int .u64 0, .slice none 0 0, .int .i64 0, .int .i64 0, .bool false, .int .i64 4, .int .i64 1, .bool false, .slice (some ⟨g, 0, none⟩) 3 3, .int .u64 0, .int .i64 0, .bool false, .int .i64 0, .int .u8 0, .int .u8 0, .int .u8 0, .int .u8 0, .int .i64 0, .int .u64 0, .int .u64 0, .int .u64 0, .int .u64 0, .int .u64 0, .int .u64 0, .int .u64 0, .int .u64 0, .int .u64 0, .int .i64 0, .int .u64 0, .int .u64 0, .bool false, .slice none 0 0]
theorem alive_app (g : Nat) : aliveD g = aliveC g ++ aliveC g := by
  apply Array.toList_inj.1
  rw [Array.toList_append]
  rfl
theorem alive_size (g : Nat) : (aliveC g).size = 49 := rfl
theorem alive_one (g : Nat) : (aliveC g).all (·.oneCell') = true := by simp [aliveC, Value.oneCell']
theorem alive_mom (W : World) (g : Nat) (cs : Array Value) (h : cs = aliveC g ++ aliveC g) : MomAt (W.alloc (.cells cs 55)) (some ⟨W.heap.size, 0, none⟩) [aliveM, aliveM] := fun i hi => by
  have hi2 : i < 2 := hi
  have hg : [aliveM, aliveM].getD i zeroMo = aliveM := by
    obtain rfl | rfl : i = 0 ∨ i = 1 := by omega
    · rfl
    · rfl
  rw [hg]
  refine ⟨⟨⟨by decide, by decide⟩, by decide, fun p hp => by cases hp⟩, _, rfl, (aliveC g).toList, false, some ⟨g, 0, none⟩, none, 3, 0, 0, rfl, fun j hj => ?_, fun u hu => ?_, rfl, rfl, rfl, rfl, rfl, rfl, rfl, .inl ⟨rfl, rfl⟩⟩
  · have hj2 : j < 49 := hj
    rw [addr_add, add_lit0, bk_cell (bk_new W cs 55), h]
    obtain rfl | rfl : i = 0 ∨ i = 1 := by omega
    · rw [Array.getElem?_append_left (by rw [alive_size]; omega), show 0 * 49 + j = j by omega, Array.getElem?_toList]
    · rw [Array.getElem?_append_right (by rw [alive_size]; omega), alive_size, show 1 * 49 + j - 49 = j by omega, Array.getElem?_toList]
  · exact (Array.all_eq_true_iff_forall_mem.1 (alive_one g)) u (by simpa using hu)
theorem aliveR_ok : RwOk ((4, 1), (2, 6, 0, 0)) := ⟨⟨⟨by decide, by decide⟩, ⟨by decide, by decide⟩⟩, ⟨by decide, by decide⟩, ⟨by decide, by decide⟩, ⟨by decide, by decide⟩, by decide, by decide⟩
theorem alive_text : (⟨(headL ++ linesL bI bU [aliveR]).toArray⟩ : ByteArray) = ⟨#[115, 117, 98, 32, 112, 101, 114, 105, 111, 100, 32, 112, 97, 99, 107, 101, 116, 115, 32, 98, 121, 116, 101, 115, 32, 115, 108, 111, 119, 45, 112, 97, 99, 107, 101, 116, 115, 32, 115, 108, 111, 119, 45, 98, 121, 116, 101, 115, 10, 52, 32, 49, 32, 50, 32, 54, 32, 48, 32, 48, 10]⟩ := by rw [alive_line]; rfl
set_option maxHeartbeats 6400000 in
theorem billAlive_any (w : World) : Calls Tryd.prog 8 #[] w fun e w' => e = .returned (.bool true) ∧ Below w.heap.size w w' := by
  have hcv := Lib.run_convert_bytes_const (P := Tryd.prog) w 35 5 #[.int .u8 97, .int .u8 98, .int .u8 99] 3 3 Tryd.underlying35 Tryd.underlying5
  go_enter Tryd.func8, Tryd.ntmps8
  go_upto_region 1 with (fail)
  refine wp_region_lit ?_
  refine wpList_plain rfl (fun K hK => ?_)
  go_simp
  refine hK _ _ ?_
  clear hK K
  try simp only [Act.put, List.getElem_toArray, List.getElem_cons_succ, List.getElem_cons_zero, List.setIfInBounds_toArray, List.set_cons_zero, List.set_cons_succ]
  refine wpList_plain rfl (fun K hK => ?_)
  go_simp
  refine hK _ _ ?_
  clear hK K
  try simp only [Act.put, List.getElem_toArray, List.getElem_cons_succ, List.getElem_cons_zero, List.setIfInBounds_toArray, List.set_cons_zero, List.set_cons_succ]
  refine wpList_plain rfl (fun K hK => ?_)
  go_simp
  refine hK _ _ ?_
  clear hK K
  try simp only [Act.put, List.getElem_toArray, List.getElem_cons_succ, List.getElem_cons_zero, List.setIfInBounds_toArray, List.set_cons_zero, List.set_cons_succ]
  refine wpList_plain rfl (fun K hK => ?_)
  go_simp
  refine hK _ _ ?_
  clear hK K
  try simp only [Act.put, List.getElem_toArray, List.getElem_cons_succ, List.getElem_cons_zero, List.setIfInBounds_toArray, List.set_cons_zero, List.set_cons_succ]
  refine wpList_plain rfl (fun K hK => ?_)
  go_simp
  refine hK _ _ ?_
  clear hK K
  try simp only [Act.put, List.getElem_toArray, List.getElem_cons_succ, List.getElem_cons_zero, List.setIfInBounds_toArray, List.set_cons_zero, List.set_cons_succ]
  refine wpList_plain rfl (fun K hK => ?_)
  go_simp
  refine hK _ _ ?_
  clear hK K
  try simp only [Act.put, List.getElem_toArray, List.getElem_cons_succ, List.getElem_cons_zero, List.setIfInBounds_toArray, List.set_cons_zero, List.set_cons_succ]
  refine wpList_plain rfl (fun K hK => ?_)
  go_simp
  refine hK _ _ ?_
  clear hK K
  try simp only [Act.put, List.getElem_toArray, List.getElem_cons_succ, List.getElem_cons_zero, List.setIfInBounds_toArray, List.set_cons_zero, List.set_cons_succ]
  refine wpList_store_row rfl 55 (.tmp 1) (.tmp 8) rfl (w.heap.size + 1) (aliveC w.heap.size) rfl rfl 55 _ (bk_at (by simp)) mo_size rfl (alive_one _) ?_
  try simp only [Act.put, List.getElem_toArray, List.getElem_cons_succ, List.getElem_cons_zero, List.setIfInBounds_toArray, List.set_cons_zero, List.set_cons_succ]
  have hbk := bk_setRow (cs := aliveC w.heap.size) (bk_at (w := w.alloc (.cells #[.int .u8 97, .int .u8 98, .int .u8 99] 5 (3, 4))) (g := w.heap.size + 1) (cs := #[.int .i64 0, .int .i64 0, .int .i64 0, .int .u64 0, .slice none 0 0, .int .i64 0, .int .u8 0, .int .u8 0, .int .u8 0, .int .u8 0, .int .i64 0, .int .u64 0, .int .u64 0, .int .u64 0, .int .u64 0, .int .u64 0, .int .u64 0, .int .u64 0, .slice none 0 0, .int .i64 0, .int .i64 0, .bool false, .int .i64 0, .int .i64 0, .bool false, .slice none 0 0, .int .u64 0, .int .i64 0, .bool false, .int .i64 0, .int .u8 0, .int .u8 0, .int .u8 0, .int .u8 0, .int .i64 0, .int .u64 0, .int .u64 0, .int .u64 0, .int .u64 0, .int .u64 0, .int .u64 0, .int .u64 0, .int .u64 0, .int .u64 0, .int .i64 0, .int .u64 0, .int .u64 0, .bool false, .slice none 0 0]) (t := 55) (by simp))
  have hB0 := bl_setRow (cs := aliveC w.heap.size) (bl_alloc (bl_alloc (Below.refl _ w) (.cells #[.int .u8 97, .int .u8 98, .int .u8 99] 5 (3, 4))) (.cells #[.int .i64 0, .int .i64 0, .int .i64 0, .int .u64 0, .slice none 0 0, .int .i64 0, .int .u8 0, .int .u8 0, .int .u8 0, .int .u8 0, .int .i64 0, .int .u64 0, .int .u64 0, .int .u64 0, .int .u64 0, .int .u64 0, .int .u64 0, .int .u64 0, .slice none 0 0, .int .i64 0, .int .i64 0, .bool false, .int .i64 0, .int .i64 0, .bool false, .slice none 0 0, .int .u64 0, .int .i64 0, .bool false, .int .i64 0, .int .u8 0, .int .u8 0, .int .u8 0, .int .u8 0, .int .i64 0, .int .u64 0, .int .u64 0, .int .u64 0, .int .u64 0, .int .u64 0, .int .u64 0, .int .u64 0, .int .u64 0, .int .u64 0, .int .i64 0, .int .u64 0, .int .u64 0, .bool false, .slice none 0 0] 55)) (show w.heap.size ≤ w.heap.size + 1 by omega)
  have hs0 : (((w.alloc (.cells #[.int .u8 97, .int .u8 98, .int .u8 99] 5 (3, 4))).alloc (.cells #[.int .i64 0, .int .i64 0, .int .i64 0, .int .u64 0, .slice none 0 0, .int .i64 0, .int .u8 0, .int .u8 0, .int .u8 0, .int .u8 0, .int .i64 0, .int .u64 0, .int .u64 0, .int .u64 0, .int .u64 0, .int .u64 0, .int .u64 0, .int .u64 0, .slice none 0 0, .int .i64 0, .int .i64 0, .bool false, .int .i64 0, .int .i64 0, .bool false, .slice none 0 0, .int .u64 0, .int .i64 0, .bool false, .int .i64 0, .int .u8 0, .int .u8 0, .int .u8 0, .int .u8 0, .int .i64 0, .int .u64 0, .int .u64 0, .int .u64 0, .int .u64 0, .int .u64 0, .int .u64 0, .int .u64 0, .int .u64 0, .int .u64 0, .int .i64 0, .int .u64 0, .int .u64 0, .bool false, .slice none 0 0] 55)).setRow (w.heap.size + 1) (aliveC w.heap.size)).heap.size = w.heap.size + 2 := by simp
  generalize ((w.alloc (.cells #[.int .u8 97, .int .u8 98, .int .u8 99] 5 (3, 4))).alloc (.cells #[.int .i64 0, .int .i64 0, .int .i64 0, .int .u64 0, .slice none 0 0, .int .i64 0, .int .u8 0, .int .u8 0, .int .u8 0, .int .u8 0, .int .i64 0, .int .u64 0, .int .u64 0, .int .u64 0, .int .u64 0, .int .u64 0, .int .u64 0, .int .u64 0, .slice none 0 0, .int .i64 0, .int .i64 0, .bool false, .int .i64 0, .int .i64 0, .bool false, .slice none 0 0, .int .u64 0, .int .i64 0, .bool false, .int .i64 0, .int .u8 0, .int .u8 0, .int .u8 0, .int .u8 0, .int .i64 0, .int .u64 0, .int .u64 0, .int .u64 0, .int .u64 0, .int .u64 0, .int .u64 0, .int .u64 0, .int .u64 0, .int .u64 0, .int .i64 0, .int .u64 0, .int .u64 0, .bool false, .slice none 0 0] 55)).setRow (w.heap.size + 1) (aliveC w.heap.size) = W at *
  replace hbk := Lib.hid hbk
  replace hB0 := Lib.hid hB0
  replace hs0 := Lib.hid hs0
  go_upto_region 2 with (fail)
  go_cut [1, 2] from 3 to 27 (fun v1 v2 wx => ∃ A c, v2 = .slice A 1 c ∧ RwAt wx A [aliveR] ∧ Below w.heap.size w wx)
  case first =>
    refine wp_region_lit ?_
    refine wpList_load_row rfl 55 (.tmp 1) rfl (w.heap.size + 1) rfl 55 (aliveC w.heap.size) (0, 0) _ hbk.out Tryd.underlying55 rfl mo_size ?_
    refine wpList_load_row rfl 55 (.tmp 1) rfl (w.heap.size + 1) rfl 55 (aliveC w.heap.size) (0, 0) _ hbk.out Tryd.underlying55 rfl mo_size ?_
    unfold aliveC
    go_wp2_with (fail)
    have hrows := rows_any (some ⟨W.heap.size, 0, none⟩) [aliveM, aliveM] 2 _ (alive_mom W w.heap.size (aliveD w.heap.size) (alive_app _)) (by decide)
    unfold aliveD at hrows
    replace hrows := Lib.hid hrows
    refine hrows.out.mono ?_; rintro e w1 ⟨A, c, d, rfl, hr, ho, hm, hok, hdl, hB⟩
    obtain rfl := alive_merge ho hm
    have hB1 := bl_then (bl_alloc hB0.out _) hB
    replace hr := Lib.hid hr
    replace hB1 := Lib.hid hB1
    clear ho hm hok hdl hB
    go_wp2_with (fail)
    go_meet
    exact ⟨A, c, rfl, hr.out, hB1.out⟩
  case rest =>
    obtain ⟨A, c, rfl, hr, hB⟩ := hcut
    obtain ⟨ad, rfl, hrow⟩ := hr 0 (by decide)
    obtain ⟨c0, c1, c2, c3, c4, c5⟩ : wc.cell? ad = some (.int .i64 4) ∧ wc.cell? ⟨ad.block, ad.off + 1, none⟩ = some (.int .u64 1) ∧ wc.cell? ⟨ad.block, ad.off + 2, none⟩ = some (.int .u64 2) ∧ wc.cell? ⟨ad.block, ad.off + 3, none⟩ = some (.int .u64 6) ∧ wc.cell? ⟨ad.block, ad.off + 4, none⟩ = some (.int .u64 0) ∧ wc.cell? ⟨ad.block, ad.off + 5, none⟩ = some (.int .u64 0) := by
      have h := rw_cellsAt (x := aliveR) hrow
      have e : ad.add (0 * 6) = ad := by unfold Addr.add; rw [if_pos rfl]
      rw [e] at h
      exact h
    have hok := aliveR_ok
    have hself : eqW ((4, 1), (2, 6, 0, 0)) ((4, 1), (2, 6, 0, 0)) = true := eqW_iff.2 rfl
    have htx := text_any bI bU bI_len bU_len (some ad) [aliveR] c wc hr (by decide) (fun x hx W _ => by
      obtain rfl : x = aliveR := by simpa using hx
      exact itoa_small 4 (by omega) W) (fun x hx n hn W _ => by
      obtain rfl : x = aliveR := by simpa using hx
      have hn' : n = 1 ∨ n = 2 ∨ n = 6 ∨ n = 0 ∨ n = 0 := by
        unfold numsL aliveR at hn
        simpa using hn
      rcases hn' with rfl | rfl | rfl | rfl | rfl
      · exact fmt_small 1 (by omega) W
      · exact fmt_small 2 (by omega) W
      · exact fmt_small 6 (by omega) W
      · exact fmt_small 0 (by omega) W
      · exact fmt_small 0 (by omega) W)
    have hT := alive_text
    obtain ⟨T, hT0⟩ : ∃ T, (⟨(headL ++ linesL bI bU [aliveR]).toArray⟩ : ByteArray) = T := ⟨_, rfl⟩
    rw [hT0] at htx hT
    have hq1 : (T.toList == ([115, 117, 98, 32, 112, 101, 114, 105, 111, 100, 32, 112, 97, 99, 107, 101, 116, 115, 32, 98, 121, 116, 101, 115, 32, 115, 108, 111, 119, 45, 112, 97, 99, 107, 101, 116, 115, 32, 115, 108, 111, 119, 45, 98, 121, 116, 101, 115, 10, 52, 32, 49, 32, 50, 32, 54, 32, 48, 32, 48, 10] : List UInt8)) = true := by rw [beq_iff_eq, ByteArray.toList_eq, hT]
    clear hT hT0
    replace htx := Lib.hid htx
    replace hB := Lib.hid hB
    replace hr := Lib.hid hr
    clear hcv hbk hB0 hs0 hrow
    go_wp2_with (fail)
    refine htx.out.mono ?_; rintro e w2 ⟨rfl, hB2⟩
    go_wp2
    go_ret
    exact ⟨rfl, bl_then hB.out hB2⟩
end Go.Proofs.YtebeknnjjoobnaaDoor
