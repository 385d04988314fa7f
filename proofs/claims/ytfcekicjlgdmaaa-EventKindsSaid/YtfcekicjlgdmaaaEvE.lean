/- slices.Chunk over numbers, ten by ten: what it hands on, round by round. Words for event.commit: chunks, stores of an event, what no cells are. Contract: the commit of numbers. Contract: the commit of any numbers. -/
import Derived.RangeFuncBox
import Derived.RangeFuncNested
import Derived.RangeFuncLeaves
import Derived.RangeFuncBound
import Derived.RangeFuncCalls
import Derived.Shelf.Abstract
import Derived.Shelf.RegionOpen
import Derived.OwnWalkIn
import Derived.TacticsInMore
import Derived.LoopNIn
import Derived.LoopIn
import Derived.Test.YtfcekicjlgdmaaaPolicy5
import Derived.Test.YtfcekicjlgdmaaaEvD
set_option linter.unusedVariables false
set_option linter.unusedSimpArgs false
set_option maxRecDepth 100000
namespace Go.Proofs.Ytfcekicjlgdmaaa
open Go.RowKit Go.Shelf Go.Proofs.YtfcekicjlgdmaaaW.PrintWords
attribute [local go_sem] Oper.semAt_some
attribute [local go_sem] max2_int min2_int max_two min_two

def chunkOf (l : List Int) (i : Nat) : List Int := (l.drop (10 * i)).take 10
def chunkV (A : Option Addr) (l : List Int) (i : Nat) : Value := .slice (A.map (·.add (10 * i))) (chunkOf l i).length (chunkOf l i).length
theorem chunk_len (l : List Int) (i : Nat) : (chunkOf l i).length = min 10 (l.length - 10 * i) := by unfold chunkOf; rw [List.length_take, List.length_drop]
theorem chunk_reads {w : World} {A : Option Addr} {l : List Int} (h : ReadsInt w .u64 A l.length l) (i : Nat) : ReadsInt w .u64 (A.map (·.add (10 * i))) (chunkOf l i).length (chunkOf l i) := by
  have hl := chunk_len l i
  have h1 := h.2.1
  refine ⟨rfl, by omega, fun hp => ?_⟩
  obtain ⟨ad, rfl, hc⟩ := h.2.2 (by omega)
  refine ⟨ad.add (10 * i), rfl, fun j hj => ?_⟩
  have hj2 : 10 * i + j < l.length := by omega
  have hg : (chunkOf l i).getD j 0 = l.getD (10 * i + j) 0 := by
    unfold chunkOf
    rw [List.getD_eq_getElem?_getD, List.getElem?_take, if_pos (by omega), List.getElem?_drop, ← List.getD_eq_getElem?_getD]
  rw [hg, ← hc (10 * i + j) hj2, addr_add]
theorem chunk_slice (ad : Addr) (l : List Int) (cap k : Nat) (h : 10 * k < l.length) (hc : l.length ≤ cap) (hi : Int) (hhi : hi = ((10 * k + (chunkOf l k).length : Nat) : Int)) (W : World) :
    (Instr.slice 29 (.slice (some ad) l.length cap) (some (.int .i64 ((10 * k : Nat) : Int))) (some (.int .i64 hi)) (some (.int .i64 hi))).run Try.prog W = .ok (chunkV (some ad) l k) W := by
  obtain ⟨i0, hi0, hzz⟩ := Option.map_eq_some_iff.1 inf_u64
  simp only [Prod.mk.injEq] at hzz
  obtain ⟨_, hsz, _⟩ := hzz
  have hel : Try.prog.elem 29 = 26 := by simp [Program.elem, Try.underlying29]
  have hu : Try.prog.underlying 29 = some (.slice (Try.prog.elem 29)) := by rw [hel]; exact Try.underlying29
  have hl := chunk_len l k
  subst hhi
  rw [run_slice_lhm W 29 (some ad) l.length cap hu .i64 .i64 .i64 _ _ _ (Int.natCast_nonneg _) (by omega) (Int.le_refl _) (by omega), hel]
  have h1 : ¬ (10 * k + (chunkOf l k).length = 10 * k) := by omega
  simp only [Int.toNat_natCast, sizeOf, typeInfo, hi0, hsz, sliced, Result.andThen, if_neg h1, chunkV, Nat.mul_one, Nat.add_sub_cancel_left]
  simp [hsz, Result.andThen, chunkV, sizeOf, typeInfo, hi0]
theorem chunk_rest (ad : Addr) (l : List Int) (cap k : Nat) (h : 10 * k < l.length) (hc : l.length ≤ cap) :
    ∃ X : Option Addr, ∀ W : World, (Instr.slice 29 (.slice (some ad) l.length cap) (some (.int .i64 ((10 * k : Nat) : Int))) none none).run Try.prog W = .ok (.slice X (l.length - 10 * k) (cap - 10 * k)) W := by
  obtain ⟨i0, hi0, hzz⟩ := Option.map_eq_some_iff.1 inf_u64
  simp only [Prod.mk.injEq] at hzz
  obtain ⟨_, hsz, _⟩ := hzz
  have hel : Try.prog.elem 29 = 26 := by simp [Program.elem, Try.underlying29]
  have hu : Try.prog.underlying 29 = some (.slice (Try.prog.elem 29)) := by rw [hel]; exact Try.underlying29
  refine ⟨if cap = 10 * k then some ad else (some ad).map (·.add (10 * k * 1)), fun W => ?_⟩
  rw [run_slice_l W 29 (some ad) l.length cap hu .i64 _ (Int.natCast_nonneg _) (by omega), hel]
  simp only [Int.toNat_natCast]
  simp [sizeOf, typeInfo, hi0, hsz, sliced, Result.andThen]
/-- What the iterator wants kept: its two cells. -/
def KpC (B2 B3 : Nat) (W W' : World) : Prop := W'.cell? ⟨B2, 0, none⟩ = W.cell? ⟨B2, 0, none⟩ ∧ W'.cell? ⟨B3, 0, none⟩ = W.cell? ⟨B3, 0, none⟩
theorem kpC_t {B2 B3 : Nat} {A B C : World} (h : KpC B2 B3 A B) (k : KpC B2 B3 B C) : KpC B2 B3 A C := ⟨k.1.trans h.1, k.2.trans h.2⟩
theorem kpC_b {B2 B3 : Nat} {w : World} (h2 : B2 < w.heap.size) (h3 : B3 < w.heap.size) (W : World) (l : Nat) (o o' : Obj) (hl : w.heap.size ≤ l) (h : W.heap[l]? = some o) (a : o.isCells = false) (b : o.isWalk = false) : KpC B2 B3 W (W.putObj l o') := by
  have hB := belowK_b (w := w) (Nat.le_refl _) W l o o' hl h a b
  exact ⟨hB.cell (p := ⟨B2, 0, none⟩) h2, hB.cell (p := ⟨B3, 0, none⟩) h3⟩
theorem kpC_below {B B2 B3 : Nat} {W W' : World} (h : Below B W W') (h2 : B2 < B) (h3 : B3 < B) : KpC B2 B3 W W' := ⟨h.cell (p := ⟨B2, 0, none⟩) h2, h.cell (p := ⟨B3, 0, none⟩) h3⟩
set_option maxHeartbeats 2000000 in
theorem chunk1_in (n : Nat) (hn : 1 ≤ n) (l B2 B3 : Nat) (ad : Addr) (cap : Nat) (zs : List Int) (hz : zs.length ≤ 1000) (hzc : zs.length ≤ cap) (hcm : cap ≤ 9223372036854775807) (J Jx : List Nat → World → Prop)
    (hY : ∀ pre x W, J pre W → pre.length < (zs.length + 9) / 10 → YieldAt Fence.wide (n - 1) Try.prog l #[chunkV (some ad) zs x] W fun e W' =>
      (e = .returned (.bool true) ∧ J (pre ++ [x]) W' ∧ KpC B2 B3 W W') ∨ (e = .returned (.bool false) ∧ Jx (pre ++ [x]) W'))
    (W : World) (hJd : ∀ s W, J s W → J s W.drew) (h2 : W.cell? ⟨B2, 0, none⟩ = some (.slice (some ad) zs.length cap)) (h3 : W.cell? ⟨B3, 0, none⟩ = some (.int .i64 10)) (h0 : J [] W) :
    CallsIn Fence.wide n Try.prog 69 #[.func (.yield l) #[] #[], .pointer (some ⟨B2, 0, none⟩), .pointer (some ⟨B3, 0, none⟩)] W fun e W' => (∃ v, e = .returned v) ∧
      ((∃ ys, ys = List.range ((zs.length + 9) / 10) ∧ J ys W') ∨ (∃ pre, (∃ k, k ≤ (zs.length + 9) / 10 ∧ pre = List.range k) ∧ Jx pre W')) := by
  refine callsIn_of_wp Try.func69 rfl trivial ?_ rfl
  simp only [Try.ntmps69, List.size_toArray, List.length_cons, List.length_nil, Nat.reduceAdd, Nat.reduceSub, Array.replicate_succ, Array.replicate_zero, List.push_toArray, List.append_toArray, List.nil_append, List.cons_append]
  gi_wp2
  gi_loopw [4] (fun i wr => ∃ k : Nat, k ≤ (zs.length + 9) / 10 ∧ i = .int .i64 ((10 * k : Nat) : Int) ∧ J (List.range k) wr ∧ wr.cell? ⟨B2, 0, none⟩ = some (.slice (some ad) zs.length cap) ∧ wr.cell? ⟨B3, 0, none⟩ = some (.int .i64 10))
    (fun i _ => zs.length + 10 - (intOf i).toNat)
  case atStart => exact ⟨0, Nat.zero_le _, rfl, h0, h2, h3⟩
  case round =>
    obtain ⟨k, hk, rfl, hJs, h2', h3'⟩ := hrel
    by_cases hlt : 10 * k < zs.length
    · have hlt2 : decide (((10 * k : Nat) : Int) < (zs.length : Int)) = true := decide_eq_true (by omega)
      obtain ⟨fn, tmps, assign, body, hy, hR⟩ := hY _ k wr.drew (hJd _ _ hJs) (by rw [List.length_range]; omega)
      obtain ⟨X, hrest⟩ := chunk_rest ad zs cap k hlt hzc
      have hcl := chunk_len zs k
      have hmin : (if ((zs.length - 10 * k : Nat) : Int) < 10 then ((zs.length - 10 * k : Nat) : Int) else 10) = ((chunkOf zs k).length : Int) := by rw [hcl]; split <;> omega
      obtain ⟨e, he⟩ : ∃ e, (chunkOf zs k).length = e := ⟨_, rfl⟩
      obtain ⟨m, hm⟩ : ∃ m, zs.length - 10 * k = m := ⟨_, rfl⟩
      have hk3 : 10 * k ≤ 1000 := by omega
      obtain ⟨lo, hlo⟩ : ∃ lo, 10 * k = lo := ⟨_, rfl⟩
      have hadd : IntKind.i64.wrap ((lo : Int) + (e : Int)) = ((lo + e : Nat) : Int) := by rw [IntKind.wrap_i64]; omega
      have hadd2 : IntKind.i64.wrap ((lo : Int) + 10) = ((lo + 10 : Nat) : Int) := by rw [IntKind.wrap_i64]; omega
      have hV : chunkV (some ad) zs k = .slice (some (ad.add lo)) e e := by unfold chunkV; rw [he, hlo]; rfl
      have he0 : ¬ e = 0 := by omega
      have hb1 : (lo : Int) + (e : Int) ≤ (cap : Int) := by omega
      have hb2 : (0 : Int) ≤ (lo : Int) + (e : Int) := by omega
      have hb3 : lo + e ≤ cap := by omega
      rw [hm, hlo] at hrest
      rw [hm, he] at hmin
      rw [hV] at hy
      rw [he] at hcl
      rw [hlo] at hlt2 ⊢
      have hlo0 : (0 : Int) ≤ (lo : Int) := by omega
      have hlt3 : decide (lo < zs.length) = true := decide_eq_true (by omega)
      replace hlo := Lib.hid hlo
      replace he := Lib.hid he
      replace hm := Lib.hid hm
      replace hcl := Lib.hid hcl
      clear hlt hk3
      gi_wp2
      refine wpIn_wide.2 ?_
      have h2d : wr.drew.cell? ⟨B2, 0, none⟩ = some (.slice (some ad) zs.length cap) := h2'
      have h3d : wr.drew.cell? ⟨B3, 0, none⟩ = some (.int .i64 10) := h3'
      clear h2' h3'
      refine wp_region_noPanic ?_
      refine wp_region_held_drew (S := fun w' => w'.cell? ⟨B2, 0, none⟩ = some (.slice (some ad) zs.length cap) ∧ w'.cell? ⟨B3, 0, none⟩ = some (.int .i64 10)) (by kernel_rfl) (⟨h2d, h3d⟩) (fun hHeld => ?_)
      refine wpAnyH_take (i := 0) (oi := { dst := some 13, op := Go.Op.load 3 (Go.Operand.tmp 2), type := 3, pos := "iter.go:105", after := #[], guard := none }) (v := ?_) rfl (by kernel_rfl) (by kernel_rfl) (by kernel_rfl) (fun _ _ _ h => h) (Or.inl ⟨by rfl, ?_⟩) (by assumption) ?_
      rotate_left 1
      · intro w' hSw
        obtain ⟨s2, s3⟩ := hSw
        first | (go_simp; done) | (go_simp; with_reducible rfl)
      try simp only [Act.put, List.getElem_toArray, List.getElem_cons_succ, List.getElem_cons_zero, List.setIfInBounds_toArray, List.set_cons_zero, List.set_cons_succ]
      refine wpAnyH_take (i := 1) (oi := { dst := some 14, op := Go.Op.load 29 (Go.Operand.tmp 1), type := 29, pos := "iter.go:105", after := #[], guard := none }) (v := ?_) rfl (by kernel_rfl) (by kernel_rfl) (by kernel_rfl) (fun _ _ _ h => h) (Or.inl ⟨by rfl, ?_⟩) (by assumption) ?_
      rotate_left 1
      · intro w' hSw
        obtain ⟨s2, s3⟩ := hSw
        first | (go_simp; done) | (go_simp; with_reducible rfl)
      try simp only [Act.put, List.getElem_toArray, List.getElem_cons_succ, List.getElem_cons_zero, List.setIfInBounds_toArray, List.set_cons_zero, List.set_cons_succ]
      refine wpAnyH_take (i := 2) (oi := { dst := some 15, op := Go.Op.move (Go.Operand.tmp 4), type := 3, pos := "iter.go:105", after := #[], guard := none }) (v := ?_) rfl (by kernel_rfl) (by kernel_rfl) (by kernel_rfl) (fun _ _ _ h => h) (Or.inl ⟨by rfl, ?_⟩) (by assumption) ?_
      rotate_left 1
      · intro w' hSw
        first | (go_simp; done) | (go_simp; with_reducible rfl)
      try simp only [Act.put, List.getElem_toArray, List.getElem_cons_succ, List.getElem_cons_zero, List.setIfInBounds_toArray, List.set_cons_zero, List.set_cons_succ]
      refine wpAnyH_take (i := 3) (oi := { dst := some 16, op := Go.Op.slice 29 (Go.Operand.tmp 14) (some (Go.Operand.tmp 15)) none none, type := 29, pos := "iter.go:105", after := #[{ on := 1, ground := Go.Ground.data }, { on := 2, ground := Go.Ground.data }], guard := none }) (v := ?_) rfl (by kernel_rfl) (by kernel_rfl) (by kernel_rfl) (fun _ _ _ h => h) (Or.inl ⟨by rfl, ?_⟩) (by assumption) ?_
      rotate_left 1
      · intro w' hSw
        first | (go_simp; done) | (go_simp; with_reducible rfl)
      try simp only [Act.put, List.getElem_toArray, List.getElem_cons_succ, List.getElem_cons_zero, List.setIfInBounds_toArray, List.set_cons_zero, List.set_cons_succ]
      refine wpAnyH_take (i := 4) (oi := { dst := some 17, op := Go.Op.call { callee := Go.Callee.builtin Go.Builtin.len, args := #[Go.Operand.tmp 16], argTypes := #[29] }, type := 3, pos := "iter.go:105", after := #[{ on := 3, ground := Go.Ground.data }], guard := none }) (v := ?_) rfl (by kernel_rfl) (by kernel_rfl) (by kernel_rfl) (fun _ _ _ h => h) (Or.inl ⟨by rfl, ?_⟩) (by assumption) ?_
      rotate_left 1
      · intro w' hSw
        first | (go_simp; done) | (go_simp; with_reducible rfl)
      try simp only [Act.put, List.getElem_toArray, List.getElem_cons_succ, List.getElem_cons_zero, List.setIfInBounds_toArray, List.set_cons_zero, List.set_cons_succ]
      refine wpAnyH_take (i := 5) (oi := { dst := some 18, op := Go.Op.call { callee := Go.Callee.builtin Go.Builtin.min, args := #[Go.Operand.tmp 13, Go.Operand.tmp 17], argTypes := #[3, 3] }, type := 3, pos := "iter.go:105", after := #[{ on := 0, ground := Go.Ground.data }, { on := 4, ground := Go.Ground.data }], guard := none }) (v := ?_) rfl (by kernel_rfl) (by kernel_rfl) (by kernel_rfl) (fun _ _ _ h => h) (Or.inl ⟨by rfl, ?_⟩) (by assumption) ?_
      rotate_left 1
      · intro w' hSw
        first | (go_simp; done) | (go_simp; with_reducible rfl)
      try simp only [Act.put, List.getElem_toArray, List.getElem_cons_succ, List.getElem_cons_zero, List.setIfInBounds_toArray, List.set_cons_zero, List.set_cons_succ]
      refine wpAnyH_take (i := 6) (oi := { dst := some 5, op := Go.Op.assign (Go.Operand.tmp 18), type := 3, pos := "iter.go:105", after := #[{ on := 5, ground := Go.Ground.data }, { on := 0, ground := Go.Ground.phase }, { on := 1, ground := Go.Ground.phase }, { on := 2, ground := Go.Ground.phase }, { on := 3, ground := Go.Ground.phase }, { on := 4, ground := Go.Ground.phase }, { on := 5, ground := Go.Ground.phase }], guard := none }) (v := ?_) rfl (by kernel_rfl) (by kernel_rfl) (by kernel_rfl) (fun _ _ _ h => h) (Or.inl ⟨by rfl, ?_⟩) (by assumption) ?_
      rotate_left 1
      · intro w' hSw
        first | (go_simp; done) | (go_simp; with_reducible rfl)
      try simp only [Act.put, List.getElem_toArray, List.getElem_cons_succ, List.getElem_cons_zero, List.setIfInBounds_toArray, List.set_cons_zero, List.set_cons_succ]
      refine wpAnyH_done (by kernel_rfl) ?_ _
      refine NoPanic.normal ?_
      obtain ⟨s2, s3⟩ := hHeld
      gi_wp2
      refine hR.mono ?_
      rintro e W3 (⟨rfl, hJ3, hk3⟩ | ⟨rfl, hJx3⟩)
      · have s3' := hk3.2.trans s3
        have s2' := hk3.1.trans s2
        gi_wp2
        go_roundw
        case rel => exact ⟨k + 1, by have := hlo.out; have := hm.out; omega, by have := hlo.out; first | rfl | (congr 1; omega), by rw [List.range_succ]; exact hJ3, s2', s3'⟩
        case measure => have := hlo.out; have := hm.out; simp [intOf]; omega
      · gi_wp2
        refine bodyPost_ret (results_none rfl _ _ _) rfl ?_
        exact ⟨⟨_, rfl⟩, .inr ⟨_, ⟨k + 1, by have := hlo.out; have := hm.out; omega, (List.range_succ).symm⟩, hJx3⟩⟩
    · have hlt2 : decide (((10 * k : Nat) : Int) < (zs.length : Int)) = false := decide_eq_false (by omega)
      have hlt3 : decide (10 * k < zs.length) = false := decide_eq_false (by omega)
      obtain ⟨lo, hlo⟩ : ∃ lo, 10 * k = lo := ⟨_, rfl⟩
      rw [hlo] at hlt2 hlt3 ⊢
      obtain rfl : k = (zs.length + 9) / 10 := by omega
      replace hlo := Lib.hid hlo
      clear hlt
      gi_wp2
      go_end0
      exact ⟨⟨_, rfl⟩, .inl ⟨_, rfl, hJs⟩⟩
set_option maxHeartbeats 1000000 in
theorem chunk1_nil (n : Nat) (l B2 B3 : Nat) (A : Option Addr) (cap : Nat) (J : List Nat → World → Prop) (W : World) (h2 : W.cell? ⟨B2, 0, none⟩ = some (.slice A 0 cap)) (h0 : J [] W) :
    CallsIn Fence.wide n Try.prog 69 #[.func (.yield l) #[] #[], .pointer (some ⟨B2, 0, none⟩), .pointer (some ⟨B3, 0, none⟩)] W fun e W' => (∃ v, e = .returned v) ∧ J [] W' := by
  refine callsIn_of_wp Try.func69 rfl trivial ?_ rfl
  simp only [Try.ntmps69, List.size_toArray, List.length_cons, List.length_nil, Nat.reduceAdd, Nat.reduceSub, Array.replicate_succ, Array.replicate_zero, List.push_toArray, List.append_toArray, List.nil_append, List.cons_append]
  gi_wp2
  gi_loopw [4] (fun i wr => i = .int .i64 0 ∧ wr.cell? ⟨B2, 0, none⟩ = some (.slice A 0 cap) ∧ J [] wr) (fun i _ => 0)
  case atStart => exact ⟨rfl, h2, h0⟩
  case round =>
    obtain ⟨rfl, h2', hJs⟩ := hrel
    gi_wp2
    go_end0
    exact ⟨⟨_, rfl⟩, hJs⟩
theorem chunk_any (A : Option Addr) (n c : Nat) (w : World) :
    Calls Try.prog 61 #[.slice A n c, .int .i64 10] w fun e w' => e = .returned (.func (.func 69) #[] #[.pointer (some ⟨w.heap.size, 0, none⟩), .pointer (some ⟨w.heap.size + 1, 0, none⟩)]) ∧ w' = (w.alloc (.cells #[.slice A n c] 29)).alloc (.cells #[.int .i64 10] 3) := by
  go_enter Try.func61, Try.ntmps61
  go_wp2
  go_ret
  exact ⟨rfl, rfl⟩
theorem chunk_stops (n : Nat) (hn : 1 ≤ n) (B2 B3 : Nat) (A : Option Addr) (cap : Nat) (zs : List Int) (hz : zs.length ≤ 1000) (hzc : zs.length ≤ cap) (hcm : cap ≤ 9223372036854775807) (w : World) (hr : ReadsInt w .u64 A zs.length zs) (hB2 : B2 < w.heap.size) (hB3 : B3 < w.heap.size)
    (h2 : w.cell? ⟨B2, 0, none⟩ = some (.slice A zs.length cap)) (h3 : w.cell? ⟨B3, 0, none⟩ = some (.int .i64 10)) :
    SeqStopsK Fence.wide n Try.prog 69 #[.pointer (some ⟨B2, 0, none⟩), .pointer (some ⟨B3, 0, none⟩)] (fun x : Nat => #[chunkV A zs x]) (KpC B2 B3) (fun ys => ys = List.range ((zs.length + 9) / 10)) (fun pre => ∃ k, k ≤ (zs.length + 9) / 10 ∧ pre = List.range k) ((zs.length + 9) / 10) w := fun l J Jx W hW hJ _ hY h0 => by
  have h2' := (hW.cell (p := ⟨B2, 0, none⟩) hB2).trans h2
  have h3' := (hW.cell (p := ⟨B3, 0, none⟩) hB3).trans h3
  by_cases hl : zs.length = 0
  · rw [hl] at h2'
    refine (chunk1_nil n l B2 B3 A cap J W h2' h0).mono fun e W' ⟨he, hj⟩ => ⟨he, .inl ⟨_, rfl, ?_⟩⟩
    rw [hl]
    exact hj
  · obtain ⟨ad, rfl, _⟩ := hr.2.2 (by omega)
    exact chunk1_in n hn l B2 B3 ad cap zs hz hzc hcm J Jx hY W (fun s W hs => hJ s W W.drew none hs ⟨rfl, rfl, rfl, Nat.le_refl _, fun _ _ _ => rfl⟩ (fun r e => by cases e)) h2' h3' h0
end Go.Proofs.Ytfcekicjlgdmaaa
namespace Go.Proofs.Ytfcekicjlgdmaaa
open Go.RowKit Go.Shelf Go.Proofs.YtfcekicjlgdmaaaW.PrintWords

theorem bk_set6 {w : World} {g : Nat} {a b c d e f a' b' c' d' e' f' : Value} {t : TypeId} (h : Bk w g #[a, b, c, d, e, f] t) :
    Bk ((((((w.setCell ⟨g, 0, none⟩ a').setCell ⟨g, 1, none⟩ b').setCell ⟨g, 2, none⟩ c').setCell ⟨g, 3, none⟩ d').setCell ⟨g, 4, none⟩ e').setCell ⟨g, 5, none⟩ f') g #[a', b', c', d', e', f'] t := by
  have h1 : Bk _ g #[a', b, c, d, e, f] t := bk_put (i := 0) (u := a') h rfl
  have h2 : Bk _ g #[a', b', c, d, e, f] t := bk_put (i := 1) (u := b') h1 rfl
  have h3 : Bk _ g #[a', b', c', d, e, f] t := bk_put (i := 2) (u := c') h2 rfl
  have h4 : Bk _ g #[a', b', c', d', e, f] t := bk_put (i := 3) (u := d') h3 rfl
  have h5 : Bk _ g #[a', b', c', d', e', f] t := bk_put (i := 4) (u := e') h4 rfl
  exact bk_put h5 rfl
/-- Six cells turned: what the whole thing keeps. -/
def Set6 (w : World) (g : Nat) (a b c d e f : Value) : World := (((((w.setCell ⟨g, 0, none⟩ a).setCell ⟨g, 1, none⟩ b).setCell ⟨g, 2, none⟩ c).setCell ⟨g, 3, none⟩ d).setCell ⟨g, 4, none⟩ e).setCell ⟨g, 5, none⟩ f
theorem bl_set6 {B : Nat} {w0 w : World} {g : Nat} {a b c d e f : Value} (h : Below B w0 w) (hg : B ≤ g) :
    Below B w0 ((((((w.setCell ⟨g, 0, none⟩ a).setCell ⟨g, 1, none⟩ b).setCell ⟨g, 2, none⟩ c).setCell ⟨g, 3, none⟩ d).setCell ⟨g, 4, none⟩ e).setCell ⟨g, 5, none⟩ f) :=
  bl_set (bl_set (bl_set (bl_set (bl_set (bl_set h hg _) hg _) hg _) hg _) hg _) hg _
theorem far6 {w : World} {g g' : Nat} {a b c d e f : Value} {cs : Array Value} {t : TypeId} (h : Bk w g' cs t) (hne : g' ≠ g) :
    Bk ((((((w.setCell ⟨g, 0, none⟩ a).setCell ⟨g, 1, none⟩ b).setCell ⟨g, 2, none⟩ c).setCell ⟨g, 3, none⟩ d).setCell ⟨g, 4, none⟩ e).setCell ⟨g, 5, none⟩ f) g' cs t :=
  bk_far (bk_far (bk_far (bk_far (bk_far (bk_far h hne _) hne _) hne _) hne _) hne _) hne _
theorem own6 {w : World} {g base n size : Nat} {e0 : TypeId} {v a b c d e f : Value} {xs : List Value} (h : w.ownsRow base e0 size v n xs) (hne : some g ≠ v.ownBlock) :
    ((((((w.setCell ⟨g, 0, none⟩ a).setCell ⟨g, 1, none⟩ b).setCell ⟨g, 2, none⟩ c).setCell ⟨g, 3, none⟩ d).setCell ⟨g, 4, none⟩ e).setCell ⟨g, 5, none⟩ f).ownsRow base e0 size v n xs :=
  own_setCell (own_setCell (own_setCell (own_setCell (own_setCell (own_setCell h hne _) hne _) hne _) hne _) hne _) hne _
theorem bk_nc {W W' : World} {g : Nat} {cs : Array Value} {t : TypeId} {row : Option Nat} (h : Bk W g cs t) (hg : W.grownBy W' row) (hr : ∀ r, row = some r → ∃ o : Obj, W.heap[r]? = some o ∧ o.isCells = false) : Bk W' g cs t := by
  refine blk_grown h hg (fun e => ?_)
  obtain ⟨o, ho, hc⟩ := hr g e.symm
  unfold Bk at h
  rw [h] at ho
  cases ho
  simp [Obj.isCells] at hc
theorem own_nc {W W' : World} {base n size : Nat} {e : TypeId} {v : Value} {xs : List Value} {row : Option Nat} (h : W.ownsRow base e size v n xs) (hg : W.grownBy W' row) (hr : ∀ r, row = some r → ∃ o : Obj, W.heap[r]? = some o ∧ o.isCells = false) : W'.ownsRow base e size v n xs := by
  refine own_other h hg ?_
  rcases h.2 with ⟨rfl, _⟩ | ⟨g, cap, cur, rfl, _, hh, _⟩
  · exact .inl rfl
  · refine .inr (fun e => ?_)
    obtain ⟨o, ho, hc⟩ := hr g (by rw [← e]; simp [Value.ownBlock])
    rw [hh] at ho
    cases ho
    simp [Obj.isCells] at hc
theorem ofB_nums {x : Pol} (h : PolOk x) (hr : rightP x = true) : ofB (polNums x) = true := by
  have := of_nums h hr
  cases hb : ofB (polNums x) with
  | true => rfl
  | false =>
    unfold ofV at this
    rw [hb, if_neg Bool.false_ne_true] at this
    have h2 := congrArg Prod.snd this
    simp at h2
theorem ofB_ten_len {l : List Int} (h : ofB l = true) : l.length = 10 := by
  unfold ofB at h
  simp only [Bool.and_eq_true, decide_eq_true_eq] at h
  exact h.1.1
theorem ofB_ok {l : List Int} (hU : U64 l) (h : ofB l = true) : rightP (polOf l) = true ∧ PolOk (polOf l) ∧ polNums (polOf l) = l := by
  obtain ⟨h1, h2, h3⟩ := nums_of hU h
  refine ⟨h2, ?_, h1⟩
  have h10 := ofB_ten_len h
  obtain ⟨a0, a1, a2, a3, a4, a5, a6, a7, a8, a9, rfl⟩ := ten h10
  obtain ⟨⟨l0, m0⟩, ⟨l1, m1⟩, ⟨l2, m2⟩, ⟨l3, m3⟩, ⟨l4, m4⟩, ⟨l5, m5⟩, ⟨l6, m6⟩, ⟨l7, m7⟩, ⟨l8, m8⟩, ⟨l9, m9⟩⟩ := ten_ok hU
  rw [ofB_ten, Bool.and_eq_true] at h
  obtain ⟨hx1, hx2⟩ := h
  obtain ⟨⟨q1, q2⟩, _, q3, q4⟩ := rightP_bd hx2
  have q5 := of_decide_eq_true hx1
  dsimp only at q1 q2 q3 q4
  show PolOk (a0, (a1 / 16777216, a1 / 65536 % 256, a1 / 256 % 256, a1 % 256, a2), a3, a4, a5, a6, a7, a8, a9)
  exact ⟨⟨by dsimp only; omega, by dsimp only; omega⟩, ⟨by unfold AdOk; dsimp only; omega, by dsimp only; omega, by dsimp only; omega⟩, ⟨l3, m3⟩, ⟨l4, m4⟩, ⟨l5, m5⟩, ⟨l6, m6⟩, ⟨l7, m7⟩, ⟨l8, m8⟩, ⟨l9, m9⟩⟩
def chunkP (zs : List Int) (i : Nat) : Pol := polOf (chunkOf zs i)
theorem chunk_u64 {zs : List Int} (h : U64 zs) (i : Nat) : U64 (chunkOf zs i) := U64.take (U64.drop h _) _
theorem flat_chunks (zs : List Int) (hU : U64 zs) : ∀ K, (∀ i, i < K → ofB (chunkOf zs i) = true) → flatN ((List.range K).map (chunkP zs)) = zs.take (10 * K) ∧ Rts ((List.range K).map (chunkP zs))
  | 0, _ => ⟨by simp [flatN_nil], Rts.nil⟩
  | K + 1, h => by
    obtain ⟨h1, h2⟩ := flat_chunks zs hU K (fun i hi => h i (by omega))
    obtain ⟨h3, h4, h5⟩ := ofB_ok (chunk_u64 hU K) (h K (by omega))
    rw [List.range_succ, List.map_append, List.map_cons, List.map_nil]
    refine ⟨?_, h2.snoc ⟨h3, h4⟩⟩
    rw [flatN_snoc, h1, show polNums (chunkP zs K) = chunkOf zs K from h5, show 10 * (K + 1) = 10 * K + 10 by omega, List.take_add]
    rfl
theorem chunks_all (zs : List Int) (hU : U64 zs) (h : ∀ i, i < (zs.length + 9) / 10 → ofB (chunkOf zs i) = true) :
    flatN ((List.range ((zs.length + 9) / 10)).map (chunkP zs)) = zs ∧ Rts ((List.range ((zs.length + 9) / 10)).map (chunkP zs)) := by
  obtain ⟨h1, h2⟩ := flat_chunks zs hU _ h
  refine ⟨?_, h2⟩
  rw [h1, List.take_of_length_le (by omega)]
theorem chunks_of {qs : List Pol} (h : Rts qs) {zs : List Int} (e : zs = flatN qs) {i : Nat} (hi : i < (zs.length + 9) / 10) : ofB (chunkOf zs i) = true := by
  have hl := flatN_len h
  rw [e] at hi ⊢
  have hi2 : i < qs.length := by omega
  unfold chunkOf
  rw [flatN_chunk qs i h hi2]
  have hg : qs.getD i zeroP ∈ qs := by rw [List.getD_eq_getElem?_getD, List.getElem?_eq_getElem hi2]; exact List.getElem_mem hi2
  exact ofB_nums (h _ hg).2 (h _ hg).1
/-- A cut of a slice of numbers. -/
theorem cut_lh (ad : Addr) (n cap lo hi : Nat) (li hj : Int) (e1 : li = (lo : Int)) (e2 : hj = (hi : Int)) (h1 : lo ≤ hi) (h2 : hi ≤ cap) :
    ∃ A' : Option Addr, (∀ W : World, (Instr.slice 29 (.slice (some ad) n cap) (some (.int .i64 li)) (some (.int .i64 hj)) none).run Try.prog W = .ok (.slice A' (hi - lo) (cap - lo)) W) ∧
      ∀ (w : World) (xs : List Int), hi ≤ n → n ≤ cap → ReadsInt w .u64 (some ad) n xs → ReadsInt w .u64 A' (hi - lo) ((xs.drop lo).take (hi - lo)) := by
  obtain ⟨i0, hi0, hzz⟩ := Option.map_eq_some_iff.1 inf_u64
  simp only [Prod.mk.injEq] at hzz
  obtain ⟨_, hsz, _⟩ := hzz
  have hel : Try.prog.elem 29 = 26 := by simp [Program.elem, Try.underlying29]
  have hu : Try.prog.underlying 29 = some (.slice (Try.prog.elem 29)) := by rw [hel]; exact Try.underlying29
  subst e1 e2
  refine ⟨if cap = lo then some ad else (some ad).map (·.add (lo * 1)), fun W => ?_, fun w xs hn hnc hr => ?_⟩
  · rw [run_slice_lh W 29 (some ad) n cap hu .i64 .i64 _ _ (Int.natCast_nonneg _) (by omega) (by omega), hel]
    simp only [Int.toNat_natCast]
    simp [sizeOf, typeInfo, hi0, hsz, sliced, Result.andThen]
  · obtain ⟨hl, hm, hc⟩ := hr
    refine ⟨by rw [List.length_take, List.length_drop]; omega, by omega, fun hp => ?_⟩
    rw [if_neg (by omega)]
    obtain ⟨ad', e, hc⟩ := hc (by omega)
    obtain rfl := Option.some.inj e
    refine ⟨_, rfl, fun j hj => ?_⟩
    have hg : ((xs.drop lo).take (hi - lo)).getD j 0 = xs.getD (lo + j) 0 := by
      rw [List.getD_eq_getElem?_getD, List.getElem?_take, if_pos hj, List.getElem?_drop, ← List.getD_eq_getElem?_getD]
    rw [hg, addr_add, Nat.mul_one]
    exact hc (lo + j) (by omega)
theorem cut_l (ad : Addr) (n cap lo : Nat) (li : Int) (e1 : li = (lo : Int)) (h1 : lo ≤ n) (hnc : n ≤ cap) :
    ∃ A' : Option Addr, (∀ W : World, (Instr.slice 29 (.slice (some ad) n cap) (some (.int .i64 li)) none none).run Try.prog W = .ok (.slice A' (n - lo) (cap - lo)) W) ∧
      ∀ (w : World) (xs : List Int), ReadsInt w .u64 (some ad) n xs → ReadsInt w .u64 A' (n - lo) (xs.drop lo) := by
  obtain ⟨i0, hi0, hzz⟩ := Option.map_eq_some_iff.1 inf_u64
  simp only [Prod.mk.injEq] at hzz
  obtain ⟨_, hsz, _⟩ := hzz
  have hel : Try.prog.elem 29 = 26 := by simp [Program.elem, Try.underlying29]
  have hu : Try.prog.underlying 29 = some (.slice (Try.prog.elem 29)) := by rw [hel]; exact Try.underlying29
  subst e1
  refine ⟨if cap = lo then some ad else (some ad).map (·.add (lo * 1)), fun W => ?_, fun w xs hr => ?_⟩
  · rw [run_slice_l W 29 (some ad) n cap hu .i64 _ (Int.natCast_nonneg _) (by omega), hel]
    simp only [Int.toNat_natCast]
    simp [sizeOf, typeInfo, hi0, hsz, sliced, Result.andThen]
  · obtain ⟨hl, hm, hc⟩ := hr
    refine ⟨by rw [List.length_drop]; omega, by omega, fun hp => ?_⟩
    rw [if_neg (by omega)]
    obtain ⟨ad', e, hc⟩ := hc (by omega)
    obtain rfl := Option.some.inj e
    refine ⟨_, rfl, fun j hj => ?_⟩
    have hg : (xs.drop lo).getD j 0 = xs.getD (lo + j) 0 := by
      rw [List.getD_eq_getElem?_getD, List.getElem?_drop, ← List.getD_eq_getElem?_getD]
    rw [hg, addr_add, Nat.mul_one]
    exact hc (lo + j) (by omega)
theorem res_commit {w : World} {g g' : Nat} {v0 v1 v2 v3 v4 v5 b : Value} {t t' : TypeId} (h : Bk w g #[v0, v1, v2, v3, v4, v5] t) (h' : Bk w g' #[b] t') (tmps : Array Value) (h2 : tmps[2]?.getD undef = .pointer (some ⟨g, 0, none⟩)) (h3 : tmps[3]?.getD undef = .pointer (some ⟨g', 0, none⟩)) :
    (results Try.f47 tmps).run Try.prog w = .ok (.tuple #[.agg #[v0, v1, v2, v3, v4, v5], b]) w := by
  obtain ⟨z0, z1, z2, z3, z4, z5, _⟩ := cells6 h
  have z6 : w.cell? ⟨g', 0, none⟩ = some b := (bk_cell h' 0).trans rfl
  simp [results, Try.results47, go_sem, h2, h3, z0, z1, z2, z3, z4, z5, z6]
def CommitPost (l : List Int) (w : World) (e : Ending) (w' : World) : Prop :=
  (∃ (ps : List Pol) (ds : List Int) (A1 A2 : Option Addr) (c1 c2 : Nat), e = .returned (.tuple #[.agg #[.int .i64 1, .int .i64 0, .slice A1 ps.length c1, .slice A2 ds.length c2, .int .u64 0, .int .u64 0], .bool true]) ∧ l = (ds.length : Int) :: (ds ++ flatN ps) ∧ Rts ps ∧ w'.ownsRow w.heap.size 28 13 (.slice A1 ps.length c1) ps.length (rows ps) ∧ w'.ownsRow w.heap.size 3 1 (.slice A2 ds.length c2) ds.length (nums .i64 ds) ∧ Below w.heap.size w w') ∨
  ((∀ (ps : List Pol) (ds : List Int), Rts ps → (∀ d ∈ ds, d ≤ 9223372036854775807) → l ≠ (ds.length : Int) :: (ds ++ flatN ps)) ∧ e = .returned (.tuple #[.agg #[.int .i64 0, .int .i64 0, .slice none 0 0, .slice none 0 0, .int .u64 0, .int .u64 0], .bool false]) ∧ Below w.heap.size w w')
end Go.Proofs.Ytfcekicjlgdmaaa
namespace Go.Proofs.Ytfcekicjlgdmaaa
open Go.RowKit Go.Shelf Go.Proofs.YtfcekicjlgdmaaaW.PrintWords
attribute [local go_sem] Oper.semAt_some
attribute [local go_sem] max2_int min2_int max_two min_two

theorem info_int : (Try.prog.info? 3).map (fun i => (i.zero, i.size, i.bytes)) = some (some (.int .i64 0), 1, 8) := by kernel_rfl
theorem rts_map {zs : List Int} (hU : U64 zs) {pre : List Nat} (h : ∀ i ∈ pre, ofB (chunkOf zs i) = true) : Rts (pre.map (chunkP zs)) := fun p hp => by
  obtain ⟨i, hi, rfl⟩ := List.mem_map.1 hp
  obtain ⟨h1, h2, _⟩ := ofB_ok (chunk_u64 hU i) (h i hi)
  exact ⟨h1, h2⟩
/-- Between two rounds over the chunks. -/
def InvC (w : World) (g2 g3 g5 B2 B3 : Nat) (sl vd : Value) (zs ds : List Int) (pre : List Nat) (W : World) : Prop :=
  ∃ v, Bk W g5 #[.int .i64 1, .int .i64 0, v, vd, .int .u64 0, .int .u64 0] 53 ∧ W.ownsRow w.heap.size 28 13 v (pre.map (chunkP zs)).length (rows (pre.map (chunkP zs))) ∧ (∀ i ∈ pre, ofB (chunkOf zs i) = true) ∧
    W.ownsRow w.heap.size 3 1 vd ds.length (nums .i64 ds) ∧ Bk W g2 #[.int .i64 0, .int .i64 0, .slice none 0 0, .slice none 0 0, .int .u64 0, .int .u64 0] 53 ∧ Bk W g3 #[.bool false] 4 ∧ Bk W B2 #[sl] 29 ∧ Bk W B3 #[.int .i64 10] 3 ∧ Below w.heap.size w W
/-- A round has left: a chunk is no policy's. -/
def OutC (w : World) (g2 g3 : Nat) (zs : List Int) (c : Code) (pre : List Nat) (W : World) : Prop :=
  c = .ret ∧ (∃ i ∈ pre, ofB (chunkOf zs i) = false) ∧ Bk W g2 #[.int .i64 0, .int .i64 0, .slice none 0 0, .slice none 0 0, .int .u64 0, .int .u64 0] 53 ∧ Bk W g3 #[.bool false] 4 ∧ Below w.heap.size w W
theorem invC_own (w : World) (g2 g3 g5 B2 B3 : Nat) (sl vd : Value) (zs ds : List Int) {B : Nat} (hB : w.heap.size ≤ B) : OwnFrom B (InvC w g2 g3 g5 B2 B3 sl vd zs ds) := fun s W W' row hs hg hr => by
  obtain ⟨v, k5, ko, kb, kd, k2, k3, kB2, kB3, kB⟩ := hs
  have hr' := fun r e => (hr r e).2
  exact ⟨v, bk_nc k5 hg hr', own_nc ko hg hr', kb, own_nc kd hg hr', bk_nc k2 hg hr', bk_nc k3 hg hr', bk_nc kB2 hg hr', bk_nc kB3 hg hr', kB.grown hg kB.size (fun k e => Nat.le_trans hB (hr k e).1)⟩
theorem outC_own (w : World) (g2 g3 : Nat) (zs : List Int) {B : Nat} (hB : w.heap.size ≤ B) (c : Code) : OwnFrom B (OutC w g2 g3 zs c) := fun s W W' row hs hg hr => by
  obtain ⟨e, hi, k2, k3, kB⟩ := hs
  have hr' := fun r e => (hr r e).2
  exact ⟨e, hi, bk_nc k2 hg hr', bk_nc k3 hg hr', kB.grown hg kB.size (fun k e => Nat.le_trans hB (hr k e).1)⟩
theorem keeps_below {W W' : World} (h : Below W.heap.size W W') : KeepsOthers W W' := ⟨h.size, fun k o hk _ => (h.block k (Array.getElem?_eq_some_iff.1 hk).1).trans hk⟩
theorem keeps_own {W W' : World} {base n size : Nat} {e : TypeId} {v : Value} {xs : List Value} (ho : W.ownsRow base e size v n xs) (hg : W.grownBy W' v.ownBlock) : KeepsOthers W W' :=
  KeepsOthers.of_grownBy hg fun j o hj ho' => by
    rcases ho.2 with ⟨rfl, _⟩ | ⟨g, cap, cur, rfl, _, hh, _⟩
    · simp [Value.ownBlock] at hj
    · have : g = j := by simpa [Value.ownBlock] using hj
      subst this
      rw [hh] at ho'
      cases ho'
      rfl
theorem pol_news (W : World) (x : Pol) (j : Nat) (u : Value) (hu : (polRow x)[j]? = some u) : (W.alloc (.cells #[.int .i64 x.1, .int .u8 x.2.1.1, .int .u8 x.2.1.2.1, .int .u8 x.2.1.2.2.1, .int .u8 x.2.1.2.2.2.1, .int .i64 x.2.1.2.2.2.2, .int .u64 x.2.2.1, .int .u64 x.2.2.2.1, .int .u64 x.2.2.2.2.1, .int .u64 x.2.2.2.2.2.1, .int .u64 x.2.2.2.2.2.2.1, .int .u64 x.2.2.2.2.2.2.2.1, .int .u64 x.2.2.2.2.2.2.2.2] 28)).cell? ((⟨W.heap.size, 0, none⟩ : Addr).add j) = some u := by
  have h := bk_cell (bk_new W #[.int .i64 x.1, .int .u8 x.2.1.1, .int .u8 x.2.1.2.1, .int .u8 x.2.1.2.2.1, .int .u8 x.2.1.2.2.2.1, .int .i64 x.2.1.2.2.2.2, .int .u64 x.2.2.1, .int .u64 x.2.2.2.1, .int .u64 x.2.2.2.2.1, .int .u64 x.2.2.2.2.2.1, .int .u64 x.2.2.2.2.2.2.1, .int .u64 x.2.2.2.2.2.2.2.1, .int .u64 x.2.2.2.2.2.2.2.2] 28) j
  rw [add_plain, h, ← hu]
  show (#[.int .i64 x.1, .int .u8 x.2.1.1, .int .u8 x.2.1.2.1, .int .u8 x.2.1.2.2.1, .int .u8 x.2.1.2.2.2.1, .int .i64 x.2.1.2.2.2.2, .int .u64 x.2.2.1, .int .u64 x.2.2.2.1, .int .u64 x.2.2.2.2.1, .int .u64 x.2.2.2.2.2.1, .int .u64 x.2.2.2.2.2.2.1, .int .u64 x.2.2.2.2.2.2.2.1, .int .u64 x.2.2.2.2.2.2.2.2] : Array Value)[j]? = (polRow x)[j]?
  rw [← List.getElem?_toArray]; rfl
theorem pol_news' {W : World} {B : Nat} (h : W.heap.size = B) (x : Pol) (j : Nat) (u : Value) (hu : (polRow x)[j]? = some u) : (W.alloc (.cells #[.int .i64 x.1, .int .u8 x.2.1.1, .int .u8 x.2.1.2.1, .int .u8 x.2.1.2.2.1, .int .u8 x.2.1.2.2.2.1, .int .i64 x.2.1.2.2.2.2, .int .u64 x.2.2.1, .int .u64 x.2.2.2.1, .int .u64 x.2.2.2.2.1, .int .u64 x.2.2.2.2.2.1, .int .u64 x.2.2.2.2.2.2.1, .int .u64 x.2.2.2.2.2.2.2.1, .int .u64 x.2.2.2.2.2.2.2.2] 28)).cell? ((⟨B, 0, none⟩ : Addr).add j) = some u := by
  subst h
  exact pol_news W x j u hu
theorem rows_snoc (ps : List Pol) (p : Pol) : rows (ps ++ [p]) = rows ps ++ polRow p := by rw [rows_app]; congr 1
theorem pol_one (x : Pol) : ∀ u ∈ polRow x, u.oneCell' = true := fun u hu => rows_one (ps := [x]) (by unfold rows; simp [hu])
theorem kp_bk {W W' : World} {B2 B3 : Nat} {a b : Array Value} {t t' : TypeId} (h2 : Bk W B2 a t) (h3 : Bk W B3 b t') (k2 : Bk W' B2 a t) (k3 : Bk W' B3 b t') : KpC B2 B3 W W' := ⟨(bk_cell k2 0).trans (bk_cell h2 0).symm, (bk_cell k3 0).trans (bk_cell h3 0).symm⟩
theorem keeps6 {w : World} {g : Nat} {a b c d e f : Value} : KeepsOthers w ((((((w.setCell ⟨g, 0, none⟩ a).setCell ⟨g, 1, none⟩ b).setCell ⟨g, 2, none⟩ c).setCell ⟨g, 3, none⟩ d).setCell ⟨g, 4, none⟩ e).setCell ⟨g, 5, none⟩ f) :=
  (KeepsOthers.setCell _ _ _).trans ((KeepsOthers.setCell _ _ _).trans ((KeepsOthers.setCell _ _ _).trans ((KeepsOthers.setCell _ _ _).trans ((KeepsOthers.setCell _ _ _).trans (KeepsOthers.setCell _ _ _)))))
set_option maxHeartbeats 6400000 in
theorem commit_cons (ad : Addr) (cap q m : Nat) (t : List Int) (w : World) (hq : t.length = q) (hmq : m ≤ q) (hr : ReadsInt w .u64 (some ad) (q + 1) ((m : Int) :: t)) (hU : U64 t) (hl : q ≤ 127) (hlc : q + 1 ≤ cap) (hcm : cap ≤ 9223372036854775807) :
    Calls Try.prog 47 #[.slice (some ad) (q + 1) cap] w (CommitPost ((m : Int) :: t) w) := by
  obtain ⟨A1, hs1, hr1⟩ := cut_lh ad (q + 1) cap 1 (1 + m) 1 (1 + (m : Int)) rfl (by omega) (by omega) (by omega)
  have hr1 := hr1 w _ (by omega) (by omega) hr
  obtain ⟨A2, hs2, hr2⟩ := cut_l ad (q + 1) cap (1 + m) (1 + (m : Int)) (by omega) (by omega) (by omega)
  have hr2 := hr2 w _ hr
  have hc0 : w.cell? ad = some (.int .u64 (m : Int)) := by
    obtain ⟨ad', e, hc⟩ := hr.2.2 (by omega)
    obtain rfl := Option.some.inj e
    have := hc 0 (by omega)
    simpa [Addr.add] using this
  obtain ⟨ds, hds⟩ : ∃ ds, t.take m = ds := ⟨_, rfl⟩
  obtain ⟨zs, hzs⟩ : ∃ zs, t.drop m = zs := ⟨_, rfl⟩
  have hdl : ds.length = m := by rw [← hds, List.length_take]; omega
  have hzl : zs.length = q - m := by rw [← hzs, List.length_drop]; omega
  have ht : t = ds ++ zs := by rw [← hds, ← hzs, List.take_append_drop]
  have hUd : U64 ds := by rw [← hds]; exact U64.take hU m
  have hUz : U64 zs := by rw [← hzs]; exact U64.drop hU m
  have e1 : ((((m : Int) :: t).drop 1).take (1 + m - 1)) = ds := by rw [show 1 + m - 1 = m by omega]; exact hds
  have e2 : ((m : Int) :: t).drop (1 + m) = zs := by rw [Nat.add_comm, List.drop_succ_cons]; exact hzs
  rw [e1, show 1 + m - 1 = m by omega] at hr1
  rw [show 1 + m - 1 = m by omega] at hs1
  obtain ⟨k, hk⟩ : ∃ k, q + 1 - (1 + m) = k := ⟨_, rfl⟩
  rw [e2, hk] at hr2
  rw [hk] at hs2
  obtain ⟨cp2, hcp2⟩ : ∃ c, cap - (1 + m) = c := ⟨_, rfl⟩
  rw [hcp2] at hs2
  have hzk : zs.length = k := by omega
  have hkc : k ≤ cp2 := by omega
  have hkm : k ≤ 1000 := by omega
  have hcm2 : cp2 ≤ 9223372036854775807 := by omega
  -- what refutes
  have ref1 : ∀ i, i < m → 9223372036854775807 < ds.getD i 0 → ∀ (ps : List Pol) (ds' : List Int), Rts ps → (∀ d ∈ ds', d ≤ 9223372036854775807) → (m : Int) :: t ≠ (ds'.length : Int) :: (ds' ++ flatN ps) := fun i hi hbig ps ds' hp hd' e => by
    rw [ht] at e
    injection e with e1 e2
    obtain ⟨e3, _⟩ := List.append_inj e2 (by omega)
    subst e3
    have hi2 : i < ds.length := by omega
    have := hd' (ds.getD i 0) (by rw [List.getD_eq_getElem?_getD, List.getElem?_eq_getElem hi2]; exact List.getElem_mem hi2)
    omega
  have ref2 : ∀ i, i < (zs.length + 9) / 10 → ofB (chunkOf zs i) = false → ∀ (ps : List Pol) (ds' : List Int), Rts ps → (∀ d ∈ ds', d ≤ 9223372036854775807) → (m : Int) :: t ≠ (ds'.length : Int) :: (ds' ++ flatN ps) := fun i hi hbad ps ds' hp hd' e => by
    rw [ht] at e
    injection e with e1 e2
    obtain ⟨_, e4⟩ := List.append_inj e2 (by omega)
    rw [chunks_of hp e4 hi] at hbad
    cases hbad
  have hq1 : IntKind.i64.wrap (q : Int) = (q : Int) := by rw [IntKind.wrap_i64]; omega
  have hq2 : IntKind.u64.wrap (q : Int) = (q : Int) := by rw [IntKind.wrap_u64]; omega
  have hq3 : IntKind.i64.wrap ((q : Int) + 1 - 1) = (q : Int) := by rw [IntKind.wrap_i64]; omega
  have hq4 : decide ((q : Int) < (m : Int)) = false := decide_eq_false (by omega)
  have hq5 : decide (q < m) = false := decide_eq_false (by omega)
  have hq6 : decide ((q : Int) + 1 = 0) = false := decide_eq_false (by omega)
  have hq7 : ((q : Int) + 1 == 0) = false := beq_eq_false_iff_ne.2 (by omega)
  have hm1 : IntKind.i64.wrap (m : Int) = (m : Int) := by rw [IntKind.wrap_i64]; omega
  have hm2 : IntKind.i64.wrap (1 + (m : Int)) = 1 + (m : Int) := by rw [IntKind.wrap_i64]; omega
  have hx2 : Bk ((w.alloc (.cells #[.int .i64 0, .int .i64 0, .slice none 0 0, .slice none 0 0, .int .u64 0, .int .u64 0] 53)).alloc (.cells #[.bool false] 4)) w.heap.size #[.int .i64 0, .int .i64 0, .slice none 0 0, .slice none 0 0, .int .u64 0, .int .u64 0] 53 := bk_alloc (bk_new w _ _) _
  have hx3 : Bk ((w.alloc (.cells #[.int .i64 0, .int .i64 0, .slice none 0 0, .slice none 0 0, .int .u64 0, .int .u64 0] 53)).alloc (.cells #[.bool false] 4)) (w.heap.size + 1) #[.bool false] 4 := bk_at (by simp)
  have hB0 := bl_alloc (bl_alloc (Below.refl _ w) (.cells #[.int .i64 0, .int .i64 0, .slice none 0 0, .slice none 0 0, .int .u64 0, .int .u64 0] 53)) (.cells #[.bool false] 4)
  have hB1 := bl_alloc hB0 (.cells #[.int .i64 1, .int .i64 0, .slice none 0 0, .slice none 0 0, .int .u64 0, .int .u64 0] 53)
  have hy2 := bk_alloc hx2 (.cells #[.int .i64 1, .int .i64 0, .slice none 0 0, .slice none 0 0, .int .u64 0, .int .u64 0] 53)
  have hy3 := bk_alloc hx3 (.cells #[.int .i64 1, .int .i64 0, .slice none 0 0, .slice none 0 0, .int .u64 0, .int .u64 0] 53)
  have hy5 : Bk (((w.alloc (.cells #[.int .i64 0, .int .i64 0, .slice none 0 0, .slice none 0 0, .int .u64 0, .int .u64 0] 53)).alloc (.cells #[.bool false] 4)).alloc (.cells #[.int .i64 1, .int .i64 0, .slice none 0 0, .slice none 0 0, .int .u64 0, .int .u64 0] 53)) (w.heap.size + 2) #[.int .i64 1, .int .i64 0, .slice none 0 0, .slice none 0 0, .int .u64 0, .int .u64 0] 53 := bk_at (by simp)
  clear hB0 hx2 hx3
  have hc0' := cl_far hB1 hc0
  have hlt0 : ad.block < w.heap.size := World.block_lt_of_cell? w ad hc0
  have hlt1 : ¬ ad.block = w.heap.size := by omega
  have hlt2 : ¬ ad.block = w.heap.size + 1 := by omega
  have hlt3 : ¬ ad.block = w.heap.size + 2 := by omega
  replace hr := Lib.hid hr
  replace hr1 := Lib.hid hr1
  replace hr2 := Lib.hid hr2
  replace hds := Lib.hid hds
  replace hzs := Lib.hid hzs
  replace hdl := Lib.hid hdl
  replace hzl := Lib.hid hzl
  replace hzk := Lib.hid hzk
  replace hk := Lib.hid hk
  replace hcp2 := Lib.hid hcp2
  replace ht := Lib.hid ht
  replace hUd := Lib.hid hUd
  replace hUz := Lib.hid hUz
  replace ref1 := Lib.hid ref1
  replace ref2 := Lib.hid ref2
  replace hy2 := Lib.hid hy2
  replace hy3 := Lib.hid hy3
  replace hy5 := Lib.hid hy5
  replace hB1 := Lib.hid hB1
  replace hq := Lib.hid hq
  clear e1 e2
  obtain ⟨X, hX⟩ : ∃ X : Nat → List Int, ∀ i, X i = ds.take i := ⟨_, fun _ => rfl⟩
  have hX0 : X 0 = [] := by rw [hX]; simp
  have hXs : ∀ i, i < m → X (i + 1) = X i ++ [ds.getD i 0] := fun i hi => by rw [hX, hX]; exact take_succ_getD ds i (by rw [hdl.out]; exact hi)
  have hXl : ∀ i, i ≤ m → (X i).length ≤ 127 := fun i hi => by rw [hX, List.length_take]; omega
  have hXm : X m = ds := by rw [hX, List.take_of_length_le (by rw [hdl.out]; exact Nat.le_refl _)]
  replace hXs := Lib.hid hXs
  replace hXl := Lib.hid hXl
  replace hXm := Lib.hid hXm
  replace hX0 := Lib.hid hX0
  clear hX
  refine (callsIn_wide (n := 6)).1 ?_
  refine callsIn_of_wp_marks Try.func47 rfl trivial ?_ rfl
  simp only [Try.ntmps47, List.size_toArray, List.length_cons, List.length_nil, Nat.reduceAdd, Nat.reduceSub, Array.replicate_succ, Array.replicate_zero, List.push_toArray, List.append_toArray, List.nil_append, List.cons_append]
  refine wpIn_wide.2 ?_
  go_wp2
  go_loopw [37] (fun v wr => ∃ (i : Nat) (vd : Value), v = .int .i64 i ∧ i ≤ m ∧ Bk wr (w.heap.size + 2) #[.int .i64 1, .int .i64 0, .slice none 0 0, vd, .int .u64 0, .int .u64 0] 53 ∧ wr.ownsRow w.heap.size 3 1 vd (X i).length (nums .i64 (X i)) ∧ Bk wr w.heap.size #[.int .i64 0, .int .i64 0, .slice none 0 0, .slice none 0 0, .int .u64 0, .int .u64 0] 53 ∧ Bk wr (w.heap.size + 1) #[.bool false] 4 ∧ Below w.heap.size w wr) (fun v _ => m - (intOf v).toNat)
  case atStart => exact ⟨0, .slice none 0 0, rfl, Nat.zero_le _, hy5.out, by rw [hX0.out]; exact own_nil _ _ _ _, hy2.out, hy3.out, hB1.out⟩
  case round =>
    obtain ⟨i, vd, rfl, hi, k5, ko, k2, k3, kB⟩ := hrel
    obtain ⟨Ad, cd, rfl, _⟩ := own_reads ko
    by_cases him : i < m
    · have him2 : decide ((i : Int) < (m : Int)) = true := decide_eq_true (by omega)
      have hi1 : (i : Int) < (m : Int) := by omega
      have hi2 : decide ((i : Int) < 0) = false := decide_eq_false (by omega)
      have hi4 : decide (m ≤ i) = false := decide_eq_false (by omega)
      obtain ⟨a1, rfl, hcell⟩ : ∃ a1, A1 = some a1 ∧ ∀ j, j < m → w.cell? (a1.add j) = some (.int .u64 (ds.getD j 0)) := by
        obtain ⟨a1, e, hc⟩ := hr1.out.2.2 (by omega)
        exact ⟨a1, e, hc⟩
      have hci := cl_far kB (hcell i him)
      have hidl : i < ds.length := by rw [hdl.out]; exact him
      have hdr := U64.getD hUd.out hidl
      have htk := hXs.out i him
      have hbad := ref1.out i him
      obtain ⟨d, hdd⟩ : ∃ d, ds.getD i 0 = d := ⟨_, rfl⟩
      rw [hdd] at hci hdr htk hbad
      replace hdd := Lib.hid hdd
      replace htk := Lib.hid htk
      replace hbad := Lib.hid hbad
      have hkl := hXl.out i hi
      by_cases hbig : d ≤ 9223372036854775807
      · have hsat : satInt d = d := if_pos hbig
        have hdb : decide (d ≤ 9223372036854775807) = true := decide_eq_true hbig
        replace hsat := Lib.hid hsat
        replace hdb := Lib.hid hdb
        obtain ⟨x0, x1, x2, x3, x4, x5, xf0, xf1, xf2, xf3, xf4, xf5⟩ := cells6 k5
        go_wp2_with (first | (go_at_call 35; (with_reducible refine (int_any d _ hdr.1 hdr.2).mono ?_); rw [hsat.out, hdb.out]; rintro e w' ⟨rfl, rfl⟩) | (at_builtin; refine print_append_num (w0 := w) w.heap.size rfl (.tmp 50) (.tmp 52) 51 3 .i64 8 rfl Try.underlying51 info_int (by decide) _ (X i) _ rfl rfl ko kB kB.size (by omega) ?_; rw [← htk.out]; intro v1 w1 ho1 hBw1 hg1 hat1; obtain ⟨A', c', rfl, _⟩ := own_reads ho1; have k5' := bk_own k5 ko hg1 (by decide); obtain ⟨z0, z1, z2, z3, z4, z5, zf0, zf1, zf2, zf3, zf4, zf5⟩ := cells6 k5'))
        have hne1 : w.heap.size ≠ w.heap.size + 2 := by omega
        have hne2 : w.heap.size + 1 ≠ w.heap.size + 2 := by omega
        exact ⟨⟨i + 1, .slice A' (X (i + 1)).length c', by first | rfl | (congr 1; omega), by omega, bk_put k5' rfl, own_setCell ho1 (p := ⟨w.heap.size + 2, 3, none⟩) (own_ne ho1 k5' (by decide)) _, bk_far (bk_own k2 ko hg1 (by decide)) hne1 _, bk_far (bk_own k3 ko hg1 (by decide)) hne2 _, bl_set hBw1 (by show w.heap.size ≤ w.heap.size + 2; omega) _⟩, by simp [intOf]; omega⟩
      · have hdb : decide (d ≤ 9223372036854775807) = false := decide_eq_false hbig
        have hsat : satInt d = 0 := if_neg hbig
        replace hsat := Lib.hid hsat
        replace hdb := Lib.hid hdb
        obtain ⟨x0, x1, x2, x3, x4, x5, xf0, xf1, xf2, xf3, xf4, xf5⟩ := cells6 k2
        have y0 : wr.cell? ⟨w.heap.size + 1, 0, none⟩ = some (.bool false) := (bk_cell k3 0).trans rfl
        have yf0 := bk_frozen k3 0
        go_wp2_with (first | (go_at_call 35; (with_reducible refine (int_any d _ hdr.1 hdr.2).mono ?_); rw [hsat.out, hdb.out]; rintro e w' ⟨rfl, rfl⟩))
        have hne3 : w.heap.size + 1 ≠ w.heap.size := by omega
        exact ⟨_, res_commit (bk_far (bk_set6 k2) (Ne.symm hne3) _) (bk_put (far6 k3 hne3) rfl) _ rfl rfl, .inr ⟨hbad.out (by omega), rfl, bl_set (bl_set6 kB (Nat.le_refl _)) (by show w.heap.size ≤ w.heap.size + 1; omega) _⟩⟩
    · have him2 : decide ((i : Int) < (m : Int)) = false := decide_eq_false (by omega)
      obtain rfl : i = m := by omega
      rw [hXm.out] at ko k5
      obtain rfl := hzk.out
      go_wp2_with (first | (go_at_call 61; (with_reducible refine (chunk_any A2 zs.length cp2 _).mono ?_); rintro e w1 ⟨rfl, rfl⟩))
      have hlt5 : w.heap.size + 2 < wr.heap.size := bk_lt k5
      have hb2 : Bk ((wr.alloc (.cells #[.slice A2 zs.length cp2] 29)).alloc (.cells #[.int .i64 10] 3)) wr.heap.size #[.slice A2 zs.length cp2] 29 := bk_alloc (bk_new wr _ _) _
      have hb3 : Bk ((wr.alloc (.cells #[.slice A2 zs.length cp2] 29)).alloc (.cells #[.int .i64 10] 3)) (wr.heap.size + 1) #[.int .i64 10] 3 := bk_at (by simp)
      have hBB := bl_alloc (bl_alloc (Below.refl _ wr) (.cells #[.slice A2 zs.length cp2] 29)) (.cells #[.int .i64 10] 3)
      have hBw := bl_then kB hBB
      refine (wpIn_wide (n := 6)).1 ?_
      refine wpIn_rangeFunc_ownG (F := Fence.wide) (n := 6) rfl (by omega) (gf := 69) (lb := #[.pointer (some ⟨wr.heap.size, 0, none⟩), .pointer (some ⟨wr.heap.size + 1, 0, none⟩)]) rfl trivial (enters_of Try.func69 (by kernel_rfl) rfl)
        (chunk_stops 5 (by omega) wr.heap.size (wr.heap.size + 1) A2 cp2 zs hkm hkc hcm2 _ (hr2.out.below hBw) (by simp; omega) (by simp) ((bk_cell hb2 0).trans rfl) ((bk_cell hb3 0).trans rfl)) kpC_t (kpC_b (by simp; omega) (by simp)) (Below.refl _ _) (fun _ => rfl)
        (InvC w w.heap.size (w.heap.size + 1) (w.heap.size + 2) wr.heap.size (wr.heap.size + 1) (.slice A2 zs.length cp2) (.slice Ad ds.length cd) zs ds) (OutC w w.heap.size (w.heap.size + 1) zs)
        (invC_own w _ _ _ _ _ _ _ _ _ (hBw.size)) (fun c => outC_own w _ _ _ hBw.size c)
        ⟨.slice none 0 0, bk_below hBB k5, own_nil _ _ _ _, fun i hi => absurd hi (by simp), pw_own_below ko hBB, bk_below hBB k2, bk_below hBB k3, hb2, hb3, hBw⟩
        ?a1 ?assign ?body ?done ?stop
      case assign =>
        intro l x W K hK
        gi_wp2
        exact hK
      case body =>
        rintro l pre x W ⟨v, j5, jo, jb, jd, j2, j3, jB2, jB3, jB⟩ hpl
        obtain ⟨Av, cv, rfl, _, _, _⟩ := pols_own jo (rts_map hUz.out jb).ok
        have hrd := chunk_reads (hr2.out.below jB) x
        have hUc := chunk_u64 hUz.out x
        have hcl10 := chunk_len zs x
        have hpl2 : (pre.map (chunkP zs)).length ≤ 200 := by rw [List.length_map]; omega
        obtain ⟨ps, hps⟩ : ∃ ps, pre.map (chunkP zs) = ps := ⟨_, rfl⟩
        rw [hps] at jo j5 hpl2
        replace hps := Lib.hid hps
        replace hrd := Lib.hid hrd
        have hg2 : w.heap.size ≠ w.heap.size + 2 := by omega
        have hg3 : w.heap.size + 1 ≠ w.heap.size + 2 := by omega
        have hgB2 : wr.heap.size ≠ w.heap.size + 2 := by omega
        have hgB3 : wr.heap.size + 1 ≠ w.heap.size + 2 := by omega
        have hg23 : w.heap.size + 1 ≠ w.heap.size := by omega
        have hcall : ∀ W, ReadsInt W .u64 (A2.map (·.add (10 * x))) (chunkOf zs x).length (chunkOf zs x) → Calls Try.prog 15 #[chunkV A2 zs x] W fun e w' => e = .returned (.tuple #[.agg #[.int .i64 (ofV (chunkOf zs x)).1.1, .int .u8 (ofV (chunkOf zs x)).1.2.1.1, .int .u8 (ofV (chunkOf zs x)).1.2.1.2.1, .int .u8 (ofV (chunkOf zs x)).1.2.1.2.2.1, .int .u8 (ofV (chunkOf zs x)).1.2.1.2.2.2.1, .int .i64 (ofV (chunkOf zs x)).1.2.1.2.2.2.2, .int .u64 (ofV (chunkOf zs x)).1.2.2.1, .int .u64 (ofV (chunkOf zs x)).1.2.2.2.1, .int .u64 (ofV (chunkOf zs x)).1.2.2.2.2.1, .int .u64 (ofV (chunkOf zs x)).1.2.2.2.2.2.1, .int .u64 (ofV (chunkOf zs x)).1.2.2.2.2.2.2.1, .int .u64 (ofV (chunkOf zs x)).1.2.2.2.2.2.2.2.1, .int .u64 (ofV (chunkOf zs x)).1.2.2.2.2.2.2.2.2], .int .i64 (ofV (chunkOf zs x)).2]) ∧ Below W.heap.size W w' := fun W h => pof_any _ _ _ W h hUc (by omega)
        cases hb : ofB (chunkOf zs x) with
        | true =>
          have hof := (nums_of hUc hb).2.2
          rw [hof] at hcall
          obtain ⟨P, hP⟩ : ∃ P, chunkP zs x = P := ⟨_, rfl⟩
          have hP' : polOf (chunkOf zs x) = P := hP
          rw [hP'] at hcall
          dsimp only at hcall
          replace hcall := Lib.hid hcall
          have hpsx : (pre ++ [x]).map (chunkP zs) = ps ++ [P] := by rw [List.map_append, hps.out, List.map_cons, List.map_nil, hP]
          have hbx : ∀ i ∈ pre ++ [x], ofB (chunkOf zs i) = true := fun i hi => by
            rcases List.mem_append.1 hi with h | h
            · exact jb i h
            · obtain rfl := List.mem_singleton.1 h
              exact hb
          replace hpsx := Lib.hid hpsx
          replace hbx := Lib.hid hbx
          obtain ⟨i0, hi0, hzz⟩ := Option.map_eq_some_iff.1 inf_pol
          simp only [Prod.mk.injEq] at hzz
          obtain ⟨hz0, hz1, hz2⟩ := hzz
          gi_wp2_with (first | (refine ⟨trivial, ?_⟩; gi_at_call 15; refine (CallsIn.inRound l (callsIn_wide.2 (hcall.out W hrd.out))).mono ?_; rintro e w1 ⟨rfl, hq1⟩; have hBw1 := bl_then jB hq1; have j5a := bk_below hq1 j5; have joa := pw_own_below jo hq1; have hltw := bk_lt j5a; have hnew : ¬ w.heap.size + 2 = w1.heap.size := Nat.ne_of_lt hltw; obtain ⟨x0, x1, x2, x3, x4, x5, xf0, xf1, xf2, xf3, xf4, xf5⟩ := cells6 j5a) | (gi_at_builtin; refine wpListIn_append_own _ rfl (.tmp 71) (.tmp 73) 43 rfl w.heap.size 28 i0 _ 13 80 Try.underlying43 hi0 hz0 hz1 hz2 rfl (by decide) _ ps.length (rows ps) rfl (pw_own_below joa (bl_alloc (bl_alloc (Below.refl _ _) _) _)) _ 1 1 (polRow P) rfl rfl (pol_news' (World.size_alloc _ _) P) (pol_one P) (by simp only [maxLen]; omega) (by omega) (bl_alloc (bl_alloc hBw1 _) _).size ?_; intro v' w2 hown' hgrow _; obtain ⟨g', cap', rfl⟩ := ownsRow_succ hown'; have j5b := bk_own (bk_alloc (bk_alloc j5a _) _) (pw_own_below joa (bl_alloc (bl_alloc (Below.refl _ _) _) _)) hgrow (by decide); obtain ⟨y0, y1, y2, y3, y4, y5, yf0, yf1, yf2, yf3, yf4, yf5⟩ := cells6 j5b))
          have hBa := bl_alloc (bl_alloc (Below.refl _ w1) (.cells #[.int .i64 P.1, .int .u8 P.2.1.1, .int .u8 P.2.1.2.1, .int .u8 P.2.1.2.2.1, .int .u8 P.2.1.2.2.2.1, .int .i64 P.2.1.2.2.2.2, .int .u64 P.2.2.1, .int .u64 P.2.2.2.1, .int .u64 P.2.2.2.2.1, .int .u64 P.2.2.2.2.2.1, .int .u64 P.2.2.2.2.2.2.1, .int .u64 P.2.2.2.2.2.2.2.1, .int .u64 P.2.2.2.2.2.2.2.2] 28)) (.cells #[.int .i64 P.1, .int .u8 P.2.1.1, .int .u8 P.2.1.2.1, .int .u8 P.2.1.2.2.1, .int .u8 P.2.1.2.2.2.1, .int .i64 P.2.1.2.2.2.2, .int .u64 P.2.2.1, .int .u64 P.2.2.2.1, .int .u64 P.2.2.2.2.1, .int .u64 P.2.2.2.2.2.1, .int .u64 P.2.2.2.2.2.2.1, .int .u64 P.2.2.2.2.2.2.2.1, .int .u64 P.2.2.2.2.2.2.2.2] 28)
          have joW := pw_own_below joa hBa
          have jdW := pw_own_below (pw_own_below jd hq1) hBa
          have jd2 := own_other jdW hgrow (own_type_ne jdW joW (by decide))
          have hle2 : w.heap.size ≤ w.heap.size + 2 := by omega
          refine ⟨((keeps_below hq1).trans ((KeepsOthers.alloc _ _).trans ((KeepsOthers.alloc _ _).trans ((keeps_own joW hgrow).trans (KeepsOthers.setCell _ _ _))))).from _, ?_, ?_⟩
          · exact kp_bk jB2 jB3 (bk_far (bk_own (bk_below hBa (bk_below hq1 jB2)) joW hgrow (by decide)) hgB2 _) (bk_far (bk_own (bk_below hBa (bk_below hq1 jB3)) joW hgrow (by decide)) hgB3 _)
          · refine ⟨.slice (some ⟨g', 0, none⟩) (ps.length + 1) cap', bk_put j5b rfl, ?_, hbx.out, own_setCell jd2 (p := ⟨w.heap.size + 2, 2, none⟩) (own_ne jd2 j5b (by decide)) _, bk_far (bk_own (bk_below hBa (bk_below hq1 j2)) joW hgrow (by decide)) hg2 _, bk_far (bk_own (bk_below hBa (bk_below hq1 j3)) joW hgrow (by decide)) hg3 _, bk_far (bk_own (bk_below hBa (bk_below hq1 jB2)) joW hgrow (by decide)) hgB2 _, bk_far (bk_own (bk_below hBa (bk_below hq1 jB3)) joW hgrow (by decide)) hgB3 _, bl_set ((bl_alloc (bl_alloc hBw1 _) _).grown hgrow (bl_alloc (bl_alloc hBw1 _) _).size (own_base joW)) hle2 _⟩
            rw [hpsx.out, rows_snoc, List.length_append]
            exact own_setCell hown' (p := ⟨w.heap.size + 2, 2, none⟩) (own_ne hown' j5b (by decide)) _
        | false =>
          have hof : ofV (chunkOf zs x) = (zeroP, 111) := by unfold ofV; rw [hb, if_neg Bool.false_ne_true]
          rw [hof] at hcall
          unfold zeroP at hcall
          dsimp only at hcall
          replace hcall := Lib.hid hcall
          gi_wp2_with (first | (refine ⟨trivial, ?_⟩; gi_at_call 15; refine (CallsIn.inRound l (callsIn_wide.2 (hcall.out W hrd.out))).mono ?_; rintro e w1 ⟨rfl, hq1⟩; have hBw1 := bl_then jB hq1; have j2a := bk_below hq1 j2; have j3a := bk_below hq1 j3; have hlt2 := bk_lt j2a; have hlt3 := bk_lt j3a; have hnew2 : ¬ w.heap.size = w1.heap.size := Nat.ne_of_lt hlt2; have hnew3 : ¬ w.heap.size + 1 = w1.heap.size := Nat.ne_of_lt hlt3; obtain ⟨x0, x1, x2, x3, x4, x5, xf0, xf1, xf2, xf3, xf4, xf5⟩ := cells6 j2a; have y0 : w1.cell? ⟨w.heap.size + 1, 0, none⟩ = some (.bool false) := (bk_cell j3a 0).trans rfl; have yf0 := bk_frozen j3a 0))
          have hle1 : w.heap.size ≤ w.heap.size + 1 := by omega
          exact ⟨((keeps_below hq1).trans (keeps6.trans ((KeepsOthers.setCell _ _ _).trans (KeepsOthers.alloc _ _)))).from _, rfl, ⟨x, by simp, hb⟩, bk_alloc (bk_far (bk_set6 j2a) (Ne.symm hg23) _) _, bk_alloc (bk_put (far6 j3a hg23) rfl) _, bl_alloc (bl_set (bl_set6 hBw1 (Nat.le_refl _)) hle1 _) _⟩
      case done =>
        rintro D ys W hD rfl ⟨v, j5, jo, jb, jd, j2, j3, jB2, jB3, jB⟩ hK
        have hbb : ∀ j, j < (zs.length + 9) / 10 → ofB (chunkOf zs j) = true := fun j hj => jb j (List.mem_range.2 hj)
        obtain ⟨hfl, hrts⟩ := chunks_all zs hUz.out hbb
        obtain ⟨ps, hps⟩ : ∃ ps, (List.range ((zs.length + 9) / 10)).map (chunkP zs) = ps := ⟨_, rfl⟩
        rw [hps] at jo hfl hrts
        obtain ⟨Av, cv, rfl, _, _, _⟩ := pols_own jo hrts.ok
        obtain ⟨x0, x1, x2, x3, x4, x5, xf0, xf1, xf2, xf3, xf4, xf5⟩ := cells6 j5
        obtain ⟨y0, y1, y2, y3, y4, y5, yf0, yf1, yf2, yf3, yf4, yf5⟩ := cells6 j2
        have z0 : W.cell? ⟨w.heap.size + 1, 0, none⟩ = some (.bool false) := (bk_cell j3 0).trans rfl
        have zf0 := bk_frozen j3 0
        replace hfl := Lib.hid hfl
        replace hps := Lib.hid hps
        replace hbb := Lib.hid hbb
        go_wp2
        have hg32 : w.heap.size + 1 ≠ w.heap.size := by omega
        have hle1 : w.heap.size ≤ w.heap.size + 1 := by omega
        have hK' : (((((((W.setCell ⟨w.heap.size, 0, none⟩ (.int .i64 1)).setCell ⟨w.heap.size, 1, none⟩ (.int .i64 0)).setCell ⟨w.heap.size, 2, none⟩ (.slice Av ps.length cv)).setCell ⟨w.heap.size, 3, none⟩ (.slice Ad ds.length cd)).setCell ⟨w.heap.size, 4, none⟩ (.int .u64 0)).setCell ⟨w.heap.size, 5, none⟩ (.int .u64 0)).setCell ⟨w.heap.size + 1, 0, none⟩ (.bool true)).heap[D]? = some (.deferred (some [])) := (KeepsOthers.trans keeps6 (KeepsOthers.setCell _ _ _)).same D _ hK rfl
        refine ⟨by simp, .inl ⟨_, _, rfl, run_takeDeferred hK', ?_⟩⟩
        have hgr := fun W => grownBy_putObj' W D (.deferred none)
        have hrn : ∀ r, some D = some r → ∃ o : Obj, (((((((W.setCell ⟨w.heap.size, 0, none⟩ (.int .i64 1)).setCell ⟨w.heap.size, 1, none⟩ (.int .i64 0)).setCell ⟨w.heap.size, 2, none⟩ (.slice Av ps.length cv)).setCell ⟨w.heap.size, 3, none⟩ (.slice Ad ds.length cd)).setCell ⟨w.heap.size, 4, none⟩ (.int .u64 0)).setCell ⟨w.heap.size, 5, none⟩ (.int .u64 0)).setCell ⟨w.heap.size + 1, 0, none⟩ (.bool true)).heap[r]? = some o ∧ o.isCells = false := fun r e => by cases e; exact ⟨_, hK', rfl⟩
        have f2 := bk_nc (bk_far (bk_set6 j2) (Ne.symm hg32) _) (hgr _) hrn
        have f3 := bk_nc (bk_put (far6 j3 hg32) rfl) (hgr _) hrn
        have fo := own_nc (own_setCell (own6 jo (own_ne jo j2 (by decide))) (p := ⟨w.heap.size + 1, 0, none⟩) (own_ne jo j3 (by decide)) _) (hgr _) hrn
        have fd := own_nc (own_setCell (own6 jd (own_ne jd j2 (by decide))) (p := ⟨w.heap.size + 1, 0, none⟩) (own_ne jd j3 (by decide)) _) (hgr _) hrn
        have fB := (bl_set (p := ⟨w.heap.size + 1, 0, none⟩) (u := .bool true) (bl_set6 (a := .int .i64 1) (b := .int .i64 0) (c := .slice Av ps.length cv) (d := .slice Ad ds.length cd) (e := .int .u64 0) (f := .int .u64 0) jB (Nat.le_refl _)) hle1).grown (hgr _) (bl_set (p := ⟨w.heap.size + 1, 0, none⟩) (u := .bool true) (bl_set6 (a := .int .i64 1) (b := .int .i64 0) (c := .slice Av ps.length cv) (d := .slice Ad ds.length cd) (e := .int .u64 0) (f := .int .u64 0) jB (Nat.le_refl _)) hle1).size (fun r e => by cases e; exact Nat.le_trans hBw.size hD)
        exact ⟨_, res_commit f2 f3 _ rfl rfl, .inl ⟨ps, ds, Av, Ad, cv, cd, rfl, by rw [hfl.out, hdl.out, ← ht.out], hrts, fo, fd, fB⟩⟩
      case stop =>
        rintro D c pre W hD ⟨kk, hkk, rfl⟩ ⟨rfl, ⟨j, hj, hbad⟩, j2, j3, jB⟩ hK
        gi_wp2
        refine ⟨by simp, .inl ⟨_, _, rfl, run_takeDeferred hK, ?_⟩⟩
        have hgr := grownBy_putObj' W D (.deferred none)
        have hrn : ∀ r, some D = some r → ∃ o : Obj, W.heap[r]? = some o ∧ o.isCells = false := fun r e => by cases e; exact ⟨_, hK, rfl⟩
        exact ⟨_, res_commit (bk_nc j2 hgr hrn) (bk_nc j3 hgr hrn) _ rfl rfl, .inr ⟨ref2.out j (by have := List.mem_range.1 hj; omega) hbad, rfl, jB.grown hgr jB.size (fun r e => by cases e; exact Nat.le_trans hBw.size hD)⟩⟩
end Go.Proofs.Ytfcekicjlgdmaaa
namespace Go.Proofs.Ytfcekicjlgdmaaa
open Go.RowKit Go.Shelf Go.Proofs.YtfcekicjlgdmaaaW.PrintWords
attribute [local go_sem] max2_int min2_int max_two min_two

set_option maxHeartbeats 1600000 in
theorem commit_nil (A : Option Addr) (cap : Nat) (w : World) : Calls Try.prog 47 #[.slice A 0 cap] w (CommitPost [] w) := by
  have hx2 : Bk ((w.alloc (.cells #[.int .i64 0, .int .i64 0, .slice none 0 0, .slice none 0 0, .int .u64 0, .int .u64 0] 53)).alloc (.cells #[.bool false] 4)) w.heap.size #[.int .i64 0, .int .i64 0, .slice none 0 0, .slice none 0 0, .int .u64 0, .int .u64 0] 53 := bk_alloc (bk_new w _ _) _
  have hx3 : Bk ((w.alloc (.cells #[.int .i64 0, .int .i64 0, .slice none 0 0, .slice none 0 0, .int .u64 0, .int .u64 0] 53)).alloc (.cells #[.bool false] 4)) (w.heap.size + 1) #[.bool false] 4 := bk_at (by simp)
  have hB0 := bl_alloc (bl_alloc (Below.refl _ w) (.cells #[.int .i64 0, .int .i64 0, .slice none 0 0, .slice none 0 0, .int .u64 0, .int .u64 0] 53)) (.cells #[.bool false] 4)
  replace hx2 := Lib.hid hx2
  replace hx3 := Lib.hid hx3
  replace hB0 := Lib.hid hB0
  go_enter Try.func47, Try.ntmps47
  go_wp2
  exact bodyPost_ret (res_commit hx2.out hx3.out _ rfl rfl) rfl (.inr ⟨fun ps ds _ _ e => (by cases e), rfl, hB0.out⟩)
set_option maxHeartbeats 1600000 in
theorem commit_over (ad : Addr) (cap q : Nat) (m : Int) (t : List Int) (w : World) (hq : t.length = q) (hmq : (q : Int) < m) (hr : ReadsInt w .u64 (some ad) (q + 1) (m :: t)) (hl : q ≤ 127) :
    Calls Try.prog 47 #[.slice (some ad) (q + 1) cap] w (CommitPost (m :: t) w) := by
  have hc0 : w.cell? ad = some (.int .u64 m) := by
    obtain ⟨ad', e, hc⟩ := hr.2.2 (by omega)
    obtain rfl := Option.some.inj e
    have := hc 0 (by omega)
    simpa [Addr.add] using this
  have hx2 : Bk ((w.alloc (.cells #[.int .i64 0, .int .i64 0, .slice none 0 0, .slice none 0 0, .int .u64 0, .int .u64 0] 53)).alloc (.cells #[.bool false] 4)) w.heap.size #[.int .i64 0, .int .i64 0, .slice none 0 0, .slice none 0 0, .int .u64 0, .int .u64 0] 53 := bk_alloc (bk_new w _ _) _
  have hx3 : Bk ((w.alloc (.cells #[.int .i64 0, .int .i64 0, .slice none 0 0, .slice none 0 0, .int .u64 0, .int .u64 0] 53)).alloc (.cells #[.bool false] 4)) (w.heap.size + 1) #[.bool false] 4 := bk_at (by simp)
  have hB0 := bl_alloc (bl_alloc (Below.refl _ w) (.cells #[.int .i64 0, .int .i64 0, .slice none 0 0, .slice none 0 0, .int .u64 0, .int .u64 0] 53)) (.cells #[.bool false] 4)
  have hc0' := cl_far hB0 hc0
  have hlt0 : ad.block < w.heap.size := World.block_lt_of_cell? w ad hc0
  have hlt1 : ¬ ad.block = w.heap.size := by omega
  have hlt2 : ¬ ad.block = w.heap.size + 1 := by omega
  have hq1 : IntKind.i64.wrap (q : Int) = (q : Int) := by rw [IntKind.wrap_i64]; omega
  have hq2 : IntKind.u64.wrap (q : Int) = (q : Int) := by rw [IntKind.wrap_u64]; omega
  have hq4 : decide ((q : Int) < m) = true := decide_eq_true (by omega)
  have hq6 : decide ((q : Int) + 1 = 0) = false := decide_eq_false (by omega)
  have hq7 : ((q : Int) + 1 == 0) = false := beq_eq_false_iff_ne.2 (by omega)
  have ref : ∀ (ps : List Pol) (ds : List Int), Rts ps → (∀ d ∈ ds, d ≤ 9223372036854775807) → m :: t ≠ (ds.length : Int) :: (ds ++ flatN ps) := fun ps ds _ _ e => by
    injection e with e1 e2
    have := congrArg List.length e2
    rw [hq, List.length_append] at this
    omega
  replace ref := Lib.hid ref
  replace hx2 := Lib.hid hx2
  replace hx3 := Lib.hid hx3
  replace hB0 := Lib.hid hB0
  replace hr := Lib.hid hr
  replace hq := Lib.hid hq
  go_enter Try.func47, Try.ntmps47
  go_wp2
  exact bodyPost_ret (res_commit hx2.out hx3.out _ rfl rfl) rfl (.inr ⟨ref.out, rfl, hB0.out⟩)
theorem commit_any (A : Option Addr) (cap : Nat) (l : List Int) (w : World) (hr : ReadsInt w .u64 A l.length l) (hU : U64 l) (hl : l.length ≤ 128) (hlc : l.length ≤ cap) (hcm : cap ≤ 9223372036854775807) :
    Calls Try.prog 47 #[.slice A l.length cap] w (CommitPost l w) := by
  cases l with
  | nil => exact commit_nil A cap w
  | cons a t =>
    obtain ⟨ad, rfl, _⟩ := hr.2.2 (by simp)
    have ha := hU a (List.mem_cons_self ..)
    have hUt : U64 t := fun n hn => hU n (List.mem_cons_of_mem _ hn)
    rw [List.length_cons] at hl hlc
    by_cases h : a ≤ (t.length : Int)
    · obtain ⟨m, rfl⟩ := Int.eq_ofNat_of_zero_le ha.1
      exact commit_cons ad cap t.length m t w rfl (by omega) hr hUt (by omega) hlc hcm
    · exact commit_over ad cap t.length a t w rfl (by omega) hr (by omega)
end Go.Proofs.Ytfcekicjlgdmaaa
