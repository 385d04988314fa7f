/- Contracts: is a history too great?; the document's sum of two rows. -/
import Derived.Test.YtebeknnjjoobnaaDoorBiX
import Derived.Test.YtebeknnjjoobnaaDoorBiZ
import Derived.Test.YtebeknnjjoobnaaDoorRefs
import Derived.Deep.MidRow
import Derived.Deep.CutRange
set_option linter.unusedVariables false
set_option linter.unusedSimpArgs false
set_option maxRecDepth 100000
namespace Go.Proofs.YtebeknnjjoobnaaDoor
open Go.RowKit Go.Sort Go.Lib Go.Shelf Go.Proofs Go.Proofs.YtebeknnjjoobnaaDoorW.PrintWords
attribute [local go_sem] max2_int min2_int max_two min_two
attribute [local go_sem ↓] eql_rw neq_rw

def MoIn (m : Mo) : Prop := I64 m.sub ∧ ∀ p, m.per = some p → U64 p
def MomIn (w : World) (A : Option Addr) (ms : List Mo) : Prop := ∀ i, i < ms.length → MoIn (ms.getD i zeroMo) ∧ ∃ x, A = some x ∧ MoIs w (x.add (i * 49)) (ms.getD i zeroMo)
theorem MomIn.at_ {w : World} {A : Option Addr} {ms : List Mo} (h : MomIn w A ms) (hb : ∀ m ∈ ms, m.nb ≤ 5000) : MomAt w A ms := fun i hi => by
  obtain ⟨⟨h1, h2⟩, h3⟩ := h i hi
  have := hb _ (getD_mem ms i zeroMo hi)
  exact ⟨⟨h1, by omega, h2⟩, h3⟩
theorem MoIs.below {w w1 : World} {x : Addr} {m : Mo} (h : MoIs w x m) (hB : Below w.heap.size w w1) : MoIs w1 x m := by
  obtain ⟨cs, f, Ab, Ai, cb, ni, ci, hl, hr, ho, p0, p1, p2, p3, p4, p5, p6, hp⟩ := h
  refine ⟨cs, f, Ab, Ai, cb, ni, ci, hl, hr.far hB, ho, p0, p1, p2, p3, p4, p5, p6, ?_⟩
  rcases hp with h | ⟨p, ai, h1, h2, h3, h4⟩
  · exact .inl h
  · exact .inr ⟨p, ai, h1, h2, h3, cl_far hB h4⟩
theorem MomIn.below {w w1 : World} {A : Option Addr} {ms : List Mo} (h : MomIn w A ms) (hB : Below w.heap.size w w1) : MomIn w1 A ms := fun i hi => by
  obtain ⟨h1, x, h2, h3⟩ := h i hi
  exact ⟨h1, x, h2, h3.below hB⟩
/-- A slice of moments that came in. -/
def IsMoms (w : World) (A : Option Addr) (len : Nat) : Prop := ∃ ms : List Mo, len = ms.length ∧ MomIn w A ms
theorem isMoms_of {w : World} {base fuel : Nat} {held : Bool} {H : Type} {enc : TypeId × Value → H} {A : Option Addr} {len cap : Nat} {x : DataW H × List MemPlace}
    (h : DataW.trod enc Tryd.prog w base (fun _ => true) held fuel 22 [.slice A len cap] = some x) : IsMoms w A len := by
  rcases Deep.open_slice Tryd.underlying22 h with ⟨h0, _⟩ | ⟨a, l, c, m, n, D, Pl, h0, hb, hl, hm, hmm, rfl, hx⟩
  · simp at h0
    exact ⟨[], h0.2.1, fun i hi => absurd hi (by simp)⟩
  · simp only [List.cons.injEq, Value.slice.injEq, and_true] at h0
    obtain ⟨rfl, rfl, rfl⟩ := h0
    obtain ⟨ms, hlm, hp⟩ := list_choose zeroMo (fun i m => MoIn m ∧ ∃ x, some a = some x ∧ MoIs w (x.add (i * 49)) m) len fun i hi => by
      obtain ⟨cs, h1, h2⟩ := hx i (by rw [hmm]; split <;> omega)
      obtain ⟨_, hlen, hcell⟩ := World.cells?_some h1
      have hr : RowAt w (a.add (i * 49)) cs := fun j hj => by
        have hl49 : cs.length = 49 := by rw [hlen, mo_cells]
        have := hcell j (by rw [mo_cells]; omega)
        rw [mo_cells] at this
        exact this
      obtain ⟨mo, g1, g2, g3⟩ := mo_open h2 hr
      exact ⟨mo, ⟨g1, g2⟩, a, rfl, g3⟩
    exact ⟨ms, hlm.symm, fun i hi => hp i (by omega)⟩
set_option maxHeartbeats 3200000 in
theorem rplus_any (x y : Rw) (hx : BvOk x.2) (hy : BvOk y.2) (w : World) :
    Calls Tryd.prog 18 #[.agg #[.int .i64 x.1.1, .int .u64 x.1.2, .int .u64 x.2.1, .int .u64 x.2.2.1, .int .u64 x.2.2.2.1, .int .u64 x.2.2.2.2], .agg #[.int .i64 y.1.1, .int .u64 y.1.2, .int .u64 y.2.1, .int .u64 y.2.2.1, .int .u64 y.2.2.2.1, .int .u64 y.2.2.2.2]] w fun e w' => e = .returned (.agg #[.int .i64 x.1.1, .int .u64 x.1.2, .int .u64 (addV x.2 y.2).1, .int .u64 (addV x.2 y.2).2.1, .int .u64 (addV x.2 y.2).2.2.1, .int .u64 (addV x.2 y.2).2.2.2]) ∧ Below w.heap.size w w' := by
  unfold addV
  dsimp only
  obtain ⟨⟨x1, x1'⟩, ⟨x2, x2'⟩, ⟨x3, x3'⟩, x4, x4'⟩ := hx
  obtain ⟨⟨y1, y1'⟩, ⟨y2, y2'⟩, ⟨y3, y3'⟩, y4, y4'⟩ := hy
  have k1 := fun W => radd_any x.2.1 y.2.1 W x1 x1' y1 y1'
  have k2 := fun W => radd_any x.2.2.1 y.2.2.1 W x2 x2' y2 y2'
  have k3 := fun W => radd_any x.2.2.2.1 y.2.2.2.1 W x3 x3' y3 y3'
  have k4 := fun W => radd_any x.2.2.2.2 y.2.2.2.2 W x4 x4' y4 y4'
  clear x1 x1' x2 x2' x3 x3' x4 x4' y1 y1' y2 y2' y3 y3' y4 y4'
  obtain ⟨s1, h1⟩ : ∃ s, satAdd x.2.1 y.2.1 = s := ⟨_, rfl⟩
  rw [h1] at k1 ⊢
  obtain ⟨s2, h2⟩ : ∃ s, satAdd x.2.2.1 y.2.2.1 = s := ⟨_, rfl⟩
  rw [h2] at k2 ⊢
  obtain ⟨s3, h3⟩ : ∃ s, satAdd x.2.2.2.1 y.2.2.2.1 = s := ⟨_, rfl⟩
  rw [h3] at k3 ⊢
  obtain ⟨s4, h4⟩ : ∃ s, satAdd x.2.2.2.2 y.2.2.2.2 = s := ⟨_, rfl⟩
  rw [h4] at k4 ⊢
  clear h1 h2 h3 h4
  replace k1 := Lib.hid k1
  replace k2 := Lib.hid k2
  replace k3 := Lib.hid k3
  replace k4 := Lib.hid k4
  have bx := bk_alloc (bk_alloc (bk_new w #[.int .i64 x.1.1, .int .u64 x.1.2, .int .u64 x.2.1, .int .u64 x.2.2.1, .int .u64 x.2.2.2.1, .int .u64 x.2.2.2.2] 32) (.cells #[.int .i64 y.1.1, .int .u64 y.1.2, .int .u64 y.2.1, .int .u64 y.2.2.1, .int .u64 y.2.2.2.1, .int .u64 y.2.2.2.2] 32)) (.cells #[.int .i64 0, .int .u64 0, .int .u64 0, .int .u64 0, .int .u64 0, .int .u64 0] 32)
  have bY := bk_alloc (bk_at (w := w.alloc (.cells #[.int .i64 x.1.1, .int .u64 x.1.2, .int .u64 x.2.1, .int .u64 x.2.2.1, .int .u64 x.2.2.2.1, .int .u64 x.2.2.2.2] 32)) (g := w.heap.size + 1) (cs := #[.int .i64 y.1.1, .int .u64 y.1.2, .int .u64 y.2.1, .int .u64 y.2.2.1, .int .u64 y.2.2.2.1, .int .u64 y.2.2.2.2]) (t := 32) (by simp)) (.cells #[.int .i64 0, .int .u64 0, .int .u64 0, .int .u64 0, .int .u64 0, .int .u64 0] 32)
  have bz := bk_at (w := (w.alloc (.cells #[.int .i64 x.1.1, .int .u64 x.1.2, .int .u64 x.2.1, .int .u64 x.2.2.1, .int .u64 x.2.2.2.1, .int .u64 x.2.2.2.2] 32)).alloc (.cells #[.int .i64 y.1.1, .int .u64 y.1.2, .int .u64 y.2.1, .int .u64 y.2.2.1, .int .u64 y.2.2.2.1, .int .u64 y.2.2.2.2] 32)) (g := w.heap.size + 1 + 1) (cs := #[.int .i64 0, .int .u64 0, .int .u64 0, .int .u64 0, .int .u64 0, .int .u64 0]) (t := 32) (by simp)
  have hB := bl_alloc (bl_alloc (bl_alloc (Below.refl _ w) (.cells #[.int .i64 x.1.1, .int .u64 x.1.2, .int .u64 x.2.1, .int .u64 x.2.2.1, .int .u64 x.2.2.2.1, .int .u64 x.2.2.2.2] 32)) (.cells #[.int .i64 y.1.1, .int .u64 y.1.2, .int .u64 y.2.1, .int .u64 y.2.2.1, .int .u64 y.2.2.2.1, .int .u64 y.2.2.2.2] 32)) (.cells #[.int .i64 0, .int .u64 0, .int .u64 0, .int .u64 0, .int .u64 0, .int .u64 0] 32)
  obtain ⟨c0, c1, c2, c3, c4, c5, _⟩ := hold6 bx
  obtain ⟨d0, d1, d2, d3, d4, d5, _⟩ := hold6 bY
  replace bx := Lib.hid bx
  replace bY := Lib.hid bY
  replace bz := Lib.hid bz
  replace hB := Lib.hid hB
  go_enter Tryd.func18, Tryd.ntmps18
  go_wp2_with (fail)
  refine (k1.out _).mono ?_; rintro e w1 ⟨rfl, hb⟩
  have e0 := bk_below hb bx.out
  have e1 := bk_below hb bY.out
  have e2 := bk_below hb bz.out
  have eB := bl_then hB.out hb
  clear bx bY bz hB hb c0 c1 c2 c3 c4 c5 d0 d1 d2 d3 d4 d5
  obtain ⟨c0, c1, c2, c3, c4, c5, f0, f1, f2, f3, f4, f5⟩ := hold6 e0
  obtain ⟨d0, d1, d2, d3, d4, d5, _⟩ := hold6 e1
  obtain ⟨q0, q1, q2, q3, q4, q5, r0, r1, r2, r3, r4, r5⟩ := hold6 e2
  go_wp2_with (fail)
  refine (k2.out _).mono ?_; rintro e w2 ⟨rfl, hb⟩
  have e0 := bk_below hb (bk_put (i := 2) (u := .int .u64 s1) e0 rfl)
  have e1 := bk_below hb (bk_far (p := ⟨w.heap.size, 2, none⟩) e1 (by show w.heap.size + 1 ≠ w.heap.size; omega) (.int .u64 s1))
  have e2 := bk_below hb (bk_far (p := ⟨w.heap.size, 2, none⟩) e2 (by show w.heap.size + 1 + 1 ≠ w.heap.size; omega) (.int .u64 s1))
  have eB := bl_then (bl_set (p := ⟨w.heap.size, 2, none⟩) eB (Nat.le_refl _) (.int .u64 s1)) hb
  clear hb c0 c1 c2 c3 c4 c5 f0 f1 f2 f3 f4 f5 d0 d1 d2 d3 d4 d5 q0 q1 q2 q3 q4 q5 r0 r1 r2 r3 r4 r5
  obtain ⟨c0, c1, c2, c3, c4, c5, f0, f1, f2, f3, f4, f5⟩ := hold6 e0
  obtain ⟨d0, d1, d2, d3, d4, d5, _⟩ := hold6 e1
  obtain ⟨q0, q1, q2, q3, q4, q5, r0, r1, r2, r3, r4, r5⟩ := hold6 e2
  go_wp2_with (fail)
  refine (k3.out _).mono ?_; rintro e w3 ⟨rfl, hb⟩
  have e0 := bk_below hb (bk_put (i := 3) (u := .int .u64 s2) e0 rfl)
  have e1 := bk_below hb (bk_far (p := ⟨w.heap.size, 3, none⟩) e1 (by show w.heap.size + 1 ≠ w.heap.size; omega) (.int .u64 s2))
  have e2 := bk_below hb (bk_far (p := ⟨w.heap.size, 3, none⟩) e2 (by show w.heap.size + 1 + 1 ≠ w.heap.size; omega) (.int .u64 s2))
  have eB := bl_then (bl_set (p := ⟨w.heap.size, 3, none⟩) eB (Nat.le_refl _) (.int .u64 s2)) hb
  clear hb c0 c1 c2 c3 c4 c5 f0 f1 f2 f3 f4 f5 d0 d1 d2 d3 d4 d5 q0 q1 q2 q3 q4 q5 r0 r1 r2 r3 r4 r5
  obtain ⟨c0, c1, c2, c3, c4, c5, f0, f1, f2, f3, f4, f5⟩ := hold6 e0
  obtain ⟨d0, d1, d2, d3, d4, d5, _⟩ := hold6 e1
  obtain ⟨q0, q1, q2, q3, q4, q5, r0, r1, r2, r3, r4, r5⟩ := hold6 e2
  go_wp2_with (fail)
  refine (k4.out _).mono ?_; rintro e w4 ⟨rfl, hb⟩
  have e0 := bk_below hb (bk_put (i := 4) (u := .int .u64 s3) e0 rfl)
  have e1 := bk_below hb (bk_far (p := ⟨w.heap.size, 4, none⟩) e1 (by show w.heap.size + 1 ≠ w.heap.size; omega) (.int .u64 s3))
  have e2 := bk_below hb (bk_far (p := ⟨w.heap.size, 4, none⟩) e2 (by show w.heap.size + 1 + 1 ≠ w.heap.size; omega) (.int .u64 s3))
  have eB := bl_then (bl_set (p := ⟨w.heap.size, 4, none⟩) eB (Nat.le_refl _) (.int .u64 s3)) hb
  clear hb c0 c1 c2 c3 c4 c5 f0 f1 f2 f3 f4 f5 d0 d1 d2 d3 d4 d5 q0 q1 q2 q3 q4 q5 r0 r1 r2 r3 r4 r5
  obtain ⟨c0, c1, c2, c3, c4, c5, f0, f1, f2, f3, f4, f5⟩ := hold6 e0
  obtain ⟨d0, d1, d2, d3, d4, d5, _⟩ := hold6 e1
  obtain ⟨q0, q1, q2, q3, q4, q5, r0, r1, r2, r3, r4, r5⟩ := hold6 e2
  go_wp2
  exact ⟨rfl, _, end_rw rfl _ rfl (bk_set6 (bk_far e2 (by show w.heap.size + 1 + 1 ≠ w.heap.size; omega) _)), rfl, bl_set6 (bl_set eB (Nat.le_refl _) _) (by omega)⟩
set_option maxHeartbeats 6400000 in
theorem great_any (A : Option Addr) (ms : List Mo) (cap : Nat) (w : World) (hA : MomIn w A ms) :
    Calls Tryd.prog 9 #[.slice A ms.length cap] w fun e w' => (∃ G : Bool, e = .returned (.bool G) ∧ (G = false → ms.length ≤ 300 ∧ ∀ m ∈ ms, m.nb ≤ 5000)) ∧ Below w.heap.size w w' := by
  by_cases h300 : 300 < ms.length
  · have q1 : decide ((300 : Int) < (ms.length : Int)) = true := decide_eq_true (by omega)
    clear hA
    go_enter Tryd.func9, Tryd.ntmps9
    go_wp2
    go_ret
    exact ⟨⟨true, rfl, fun h => by cases h⟩, Below.refl _ _⟩
  have q1 : decide ((300 : Int) < (ms.length : Int)) = false := decide_eq_false (by omega)
  obtain ⟨N, hN⟩ : ∃ N, ms.length = N := ⟨_, rfl⟩
  rw [hN] at h300 q1 ⊢
  replace hN := Lib.hid hN
  replace hA := Lib.hid hA
  go_enter Tryd.func9, Tryd.ntmps9
  go_wp2_with (fail)
  go_loopw [10] (fun v wr => ∃ i : Nat, v = .int .i64 i ∧ i ≤ N ∧ (∀ j, j < i → (ms.getD j zeroMo).nb ≤ 5000) ∧ Below w.heap.size w wr) (fun v _ => N - (intOf v).toNat)
  case atStart => exact ⟨0, rfl, Nat.zero_le _, fun j hj => absurd hj (by omega), Below.refl _ _⟩
  case round =>
    obtain ⟨i, rfl, hi, hg, hBr⟩ := hrel
    replace hg := Lib.hid hg
    by_cases hil : i < N
    · have hil2 : decide ((i : Int) < (N : Int)) = true := decide_eq_true (by omega)
      obtain ⟨_, ad, hAd, hmi⟩ := hA.out i (by rw [hN.out]; exact hil)
      obtain ⟨m, hm⟩ : ∃ m, ms.getD i zeroMo = m := ⟨_, rfl⟩
      rw [hm] at hmi
      obtain ⟨cs, f, Ab, Ai, cb, ni, ci, hlen, hrow, hone, p0, p19, p22, p23, p24, p25, p48, _⟩ := hmi
      have hrow := hrow.far hBr
      subst hAd
      replace hrow := Lib.hid hrow
      replace hone := Lib.hid hone
      replace hlen := Lib.hid hlen
      replace hm := Lib.hid hm
      replace hBr := Lib.hid hBr
      go_upto_region 5 with (fail)
      go_cut [4] from 11 to 20 (fun v4 wx => v4 = .pointer (some ⟨wr.heap.size, 0, none⟩) ∧ wx.cell? ⟨wr.heap.size, 0, none⟩ = some (.int .i64 m.kind) ∧ wx.cell? ⟨wr.heap.size, 19, none⟩ = some (.int .i64 m.err) ∧ wx.cell? ⟨wr.heap.size, 22, none⟩ = some (.int .i64 m.sub) ∧ wx.cell? ⟨wr.heap.size, 23, none⟩ = some (.int .i64 m.tier) ∧ wx.cell? ⟨wr.heap.size, 24, none⟩ = some (.bool f) ∧ wx.cell? ⟨wr.heap.size, 25, none⟩ = some (.slice Ab m.nb cb) ∧ wx.cell? ⟨wr.heap.size, 48, none⟩ = some (.slice Ai ni ci) ∧ wr.heap.size < wx.heap.size ∧ Below wr.heap.size wr wx)
      case first =>
        refine wp_region_lit ?_
        refine wpList_plain rfl (fun K hK => ?_)
        go_simp
        refine hK _ _ ?_
        clear hK K
        try simp only [Act.put, List.getElem_toArray, List.getElem_cons_succ, List.getElem_cons_zero, List.setIfInBounds_toArray, List.set_cons_zero, List.set_cons_succ]
        refine wpList_load_at rfl 55 (.tmp 12) rfl (ad.add (i * 49)) rfl cs _ hrow.out Tryd.underlying55 rfl (by rw [hlen.out]; exact mo_size) ?_
        refine wpList_plain rfl (fun K hK => ?_)
        go_simp
        refine hK _ _ ?_
        clear hK K
        try simp only [Act.put, List.getElem_toArray, List.getElem_cons_succ, List.getElem_cons_zero, List.setIfInBounds_toArray, List.set_cons_zero, List.set_cons_succ]
        refine wpList_store_row rfl 55 (.tmp 4) (.tmp 13) rfl wr.heap.size cs.toArray rfl rfl 55 _ (heap_alloc_new wr _) (by rw [List.size_toArray, hlen.out]; exact mo_size) (by show 49 = cs.toArray.size; rw [List.size_toArray, hlen.out]) (by rw [Array.all_eq_true_iff_forall_mem]; intro u hu; exact hone.out u (by simpa using hu)) ?_
        go_wp2_with (fail)
        go_meet
        have hbx := bk_setRow (cs := cs.toArray) (bk_new wr #[.int .i64 0, .int .i64 0, .int .i64 0, .int .u64 0, .slice none 0 0, .int .i64 0, .int .u8 0, .int .u8 0, .int .u8 0, .int .u8 0, .int .i64 0, .int .u64 0, .int .u64 0, .int .u64 0, .int .u64 0, .int .u64 0, .int .u64 0, .int .u64 0, .slice none 0 0, .int .i64 0, .int .i64 0, .bool false, .int .i64 0, .int .i64 0, .bool false, .slice none 0 0, .int .u64 0, .int .i64 0, .bool false, .int .i64 0, .int .u8 0, .int .u8 0, .int .u8 0, .int .u8 0, .int .i64 0, .int .u64 0, .int .u64 0, .int .u64 0, .int .u64 0, .int .u64 0, .int .u64 0, .int .u64 0, .int .u64 0, .int .u64 0, .int .i64 0, .int .u64 0, .int .u64 0, .bool false, .slice none 0 0] 55)
        exact ⟨rfl, (bk_cell hbx 0).trans (by rw [List.getElem?_toArray]; exact p0), (bk_cell hbx 19).trans (by rw [List.getElem?_toArray]; exact p19), (bk_cell hbx 22).trans (by rw [List.getElem?_toArray]; exact p22), (bk_cell hbx 23).trans (by rw [List.getElem?_toArray]; exact p23), (bk_cell hbx 24).trans (by rw [List.getElem?_toArray]; exact p24), (bk_cell hbx 25).trans (by rw [List.getElem?_toArray]; exact p25), (bk_cell hbx 48).trans (by rw [List.getElem?_toArray]; exact p48), bk_lt hbx, bl_setRow (bl_alloc (Below.refl _ _) _) (Nat.le_refl _)⟩
      case rest =>
        obtain ⟨rfl, z0, z19, z22, z23, z24, z25, z48, hlt, hBx⟩ := hcut
        clear p0 p19 p22 p23 p24 p25 p48 hlen hrow hone
        have hBa := bl_then hBr.out hBx
        replace hBa := Lib.hid hBa
        clear hBr hBx
        by_cases hb : m.nb ≤ 5000
        · have q2 : decide ((5000 : Int) < (m.nb : Int)) = false := decide_eq_false (by omega)
          go_wp2
          refine ⟨⟨i + 1, by first | rfl | (congr 1; omega), by omega, fun j hj => ?_, hBa.out⟩, by simp [intOf]; omega⟩
          rcases Nat.lt_or_ge j i with h | h
          · exact hg.out j h
          · obtain rfl : j = i := by omega
            rw [hm.out]; exact hb
        · have q2 : decide ((5000 : Int) < (m.nb : Int)) = true := decide_eq_true (by omega)
          go_wp2
          go_ret
          exact ⟨⟨true, rfl, fun h => by cases h⟩, hBa.out⟩
    · have hil2 : decide ((i : Int) < (N : Int)) = false := decide_eq_false (by omega)
      replace hBr := Lib.hid hBr
      go_wp2
      go_ret
      refine ⟨⟨false, rfl, fun _ => ⟨by omega, fun m hm => ?_⟩⟩, hBr.out⟩
      obtain ⟨j, hj, rfl⟩ := List.mem_iff_getElem.1 hm
      have := hg.out j (by rw [hN.out] at hj; omega)
      rwa [List.getD_eq_getElem?_getD, List.getElem?_eq_getElem hj] at this
end Go.Proofs.YtebeknnjjoobnaaDoor
