/- Contracts: an event as bytes. Contracts: an event as bytes (the reference's). -/
import Derived.Test.YtfcekicjlgdmaaaEvC
set_option linter.unusedVariables false
set_option linter.unusedSimpArgs false
set_option maxRecDepth 100000
namespace Go.Proofs.Ytfcekicjlgdmaaa
open Go.RowKit Go.Proofs.YtfcekicjlgdmaaaW.PrintWords
attribute [local go_sem] max2_int min2_int max_two min_two
attribute [local go_sem ↓] eql_nt neq_nt eql_ad net_addr net_bits eql_pol neq_pol

def bytesV (k s g p : Int) (ps : List Pol) (ds : List Int) : List Int × Int := if rightE k s g p ps ds then (encL (evNums k s g p ps ds), 0) else ([], 121)
theorem bk_own {w w1 : World} {g base n size : Nat} {e t : TypeId} {v : Value} {xs : List Value} {cs : Array Value} (hx : Bk w g cs t) (ho : w.ownsRow base e size v n xs) (hg : w.grownBy w1 v.ownBlock) (hne : e ≠ t) : Bk w1 g cs t := blk_grown hx hg (own_ne ho hx hne)
theorem bytesV_yes {k s g p : Int} {ps : List Pol} {ds : List Int} (h : RightE k s g p ps ds) : bytesV k s g p ps ds = (encL (evNums k s g p ps ds), 0) := by unfold bytesV; rw [rightE_yes h]; rfl
theorem bytesV_no {k s g p : Int} {ps : List Pol} {ds : List Int} (h : ¬ RightE k s g p ps ds) : bytesV k s g p ps ds = ([], 121) := by unfold bytesV; rw [rightE_no h]; rfl
def MakesBytes (r : List Int × Int) (w : World) (e : Ending) (w' : World) : Prop := ∃ v, e = .returned (.tuple #[v, .int .i64 r.2]) ∧ w'.ownsRow w.heap.size 5 1 v r.1.length (nums .u8 r.1) ∧ Below w.heap.size w w'

set_option maxHeartbeats 6400000 in
theorem ebytes_n (k s g p : Int) (A1 A2 : Option Addr) (c1 c2 : Nat) (ps : List Pol) (ds : List Int) (w : World) (n m : Nat) (hn : ps.length = n) (hmm : ds.length = m) (hp : PolsAt w A1 ps) (hd : ReadsInt w .i64 A2 ds.length ds) (hm : n ≤ 1000) (hm2 : m ≤ 1000) (hcl : n ≤ c1) (hcm : c1 ≤ 9223372036854775807) :
    Calls Try.prog 25 #[.agg #[.int .i64 k, .int .i64 s, .slice A1 n c1, .slice A2 m c2, .int .u64 g, .int .u64 p]] w (MakesBytes (bytesV k s g p ps ds) w) := by
  have hx := bk_new w #[.int .i64 k, .int .i64 s, .slice A1 n c1, .slice A2 m c2, .int .u64 g, .int .u64 p] 53
  have hB := bl_alloc (Below.refl _ w) (.cells #[.int .i64 k, .int .i64 s, .slice A1 n c1, .slice A2 m c2, .int .u64 g, .int .u64 p] 53)
  have hright : ∀ W, PolsAt W A1 ps → ReadsInt W .i64 A2 ds.length ds → Calls Try.prog 30 #[.agg #[.int .i64 k, .int .i64 s, .slice A1 n c1, .slice A2 m c2, .int .u64 g, .int .u64 p]] W fun e w' => e = .returned (.bool (rightE k s g p ps ds)) ∧ Below W.heap.size W w' := by
    subst hn hmm
    exact fun W h1 h2 => eright_any k s g p A1 A2 c1 c2 ps ds W h1 h2 hm hm2 hcl hcm
  obtain ⟨x0, x1, x2, x3, x4, x5, xf0, xf1, xf2, xf3, xf4, xf5⟩ := cells6 hx
  replace hp := Lib.hid hp
  replace hd := Lib.hid hd
  replace hn := Lib.hid hn
  replace hmm := Lib.hid hmm
  replace hx := Lib.hid hx
  replace hB := Lib.hid hB
  by_cases hR : RightE k s g p ps ds
  rotate_left 1
  · rw [bytesV_no hR]
    rw [rightE_no hR] at hright
    replace hright := Lib.hid hright
    go_enter Try.func25, Try.ntmps25
    go_wp2_with (first | (go_at_call 30; (with_reducible refine (hright.out _ (hp.out.below hB.out) (hd.out.below hB.out)).mono ?_); rintro e w1 ⟨rfl, hq1⟩; have hB1 := bl_then hB.out hq1; have hx1 := bk_below hq1 hx.out; have hsz1 := bk_lt hx1; have hsz2 : ¬ w.heap.size = w1.heap.size := Nat.ne_of_lt hsz1; have hsz3 : ¬ w1.heap.size = w.heap.size := Nat.ne_of_gt hsz1; obtain ⟨x0, x1, x2, x3, x4, x5, xf0, xf1, xf2, xf3, xf4, xf5⟩ := cells6 hx1))
    go_ret2
    exact ⟨_, rfl, own_nil _ _ _ _, hB1⟩
  rw [bytesV_yes hR]
  rw [rightE_yes hR] at hright
  have hU := evNums_u64 hR hp.out.ok
  have hLl := (evNums_len hR hp.out.ok).2
  have hok := hp.out.ok
  replace hright := Lib.hid hright
  obtain ⟨L, hL⟩ : ∃ L, evNums k s g p ps ds = L := ⟨_, rfl⟩
  rw [hL] at hU hLl
  rw [hL]
  have hnums := fun A c W hr => nums_any A c L W hr hU (by omega)
  replace hnums := Lib.hid hnums
  replace hL := Lib.hid hL
  replace hU := Lib.hid hU
  replace hok := Lib.hid hok
  rcases hR with ⟨rfl, rfl, rfl, rfl, h5, h6, _⟩ | ⟨rfl, h2, h3, rfl, h5, h6⟩ | ⟨rfl, rfl, rfl, h4, h5, h6⟩
  · have h1own : ∀ W : World, w.heap.size ≤ W.heap.size → (W.alloc (.cells #[.int .u64 1] 26)).ownsRow w.heap.size 26 1 (.slice (some ⟨W.heap.size, 0, none⟩) 1 1) 1 (nums .u64 [1]) := fun W h => own_lit W w.heap.size 26 .u64 [1] h (by simp)
    have hwm : IntKind.u64.wrap (m : Int) = (m : Int) := by rw [IntKind.wrap_u64]; omega
    have hm8 : m ≤ 8 := by rw [← hmm.out]; exact (drops_mem h6).1
    have hn8 : n ≤ 8 := by rw [← hn.out]; exact h5.1
    have hdm := (drops_mem h6).2
    have hrts := rts_of h5 hok.out
    obtain ⟨X, hX⟩ : ∃ X : Nat → List Int, ∀ i, X i = [1] ++ [(m : Int)] ++ ds.take i := ⟨_, fun _ => rfl⟩
    obtain ⟨Y, hY⟩ : ∃ Y : Nat → List Int, ∀ j, Y j = X m ++ flatN (ps.take j) := ⟨_, fun _ => rfl⟩
    have hX0 : X 0 = [1] ++ [(m : Int)] := by rw [hX]; simp
    have hY0 : Y 0 = X m := by rw [hY]; simp [flatN_nil]
    have hXs : ∀ i, i < m → X (i + 1) = X i ++ [ds.getD i 0] := fun i hi => by rw [hX, hX, take_succ_getD ds i (by rw [hmm.out]; exact hi), List.append_assoc _ (ds.take i)]
    have hYs : ∀ j, j < n → Y (j + 1) = Y j ++ polNums (ps.getD j zeroP) := fun j hj => by
      rw [hY, hY, List.append_assoc, ← flatN_snoc]
      have hj' : j < ps.length := by rw [hn.out]; exact hj
      rw [List.take_add_one, List.getElem?_eq_getElem hj', List.getD_eq_getElem?_getD, List.getElem?_eq_getElem hj']; rfl
    have hXl : ∀ i, i ≤ m → (X i).length ≤ 10 := fun i hi => by rw [hX]; simp; omega
    have hYL : Y n = L := by
      rw [← hL.out, evNums_1, hY, hX, ← hn.out, ← hmm.out, List.take_length, List.take_length]; simp
    have hYl : ∀ j, j ≤ n → (Y j).length ≤ 100 := fun j hj => by
      rw [hY, List.length_append, flatN_len (fun q hq => hrts q (List.mem_of_mem_take hq)), List.length_take]
      have := hXl m (Nat.le_refl _)
      omega
    replace hdm := Lib.hid hdm
    replace hXs := Lib.hid hXs
    replace hYs := Lib.hid hYs
    replace hXl := Lib.hid hXl
    replace hYl := Lib.hid hYl
    replace hX0 := Lib.hid hX0
    replace hY0 := Lib.hid hY0
    replace hYL := Lib.hid hYL
    clear hX hY
    go_enter Try.func25, Try.ntmps25
    go_wp2_with (first | (go_at_call 30; (with_reducible refine (hright.out _ (hp.out.below hB.out) (hd.out.below hB.out)).mono ?_); rintro e w1 ⟨rfl, hq1⟩; have hB1 := bl_then hB.out hq1; have hx1 := bk_below hq1 hx.out; have hsz1 := bk_lt hx1; have hsz2 : ¬ w.heap.size = w1.heap.size := Nat.ne_of_lt hsz1; have hsz3 : ¬ w1.heap.size = w.heap.size := Nat.ne_of_gt hsz1; obtain ⟨x0, x1, x2, x3, x4, x5, xf0, xf1, xf2, xf3, xf4, xf5⟩ := cells6 hx1) | (at_builtin; refine print_append_num (w0 := w) w.heap.size rfl (.tmp 18) (.tmp 23) 29 26 .u64 8 rfl Try.underlying29 info_u64 (by decide) _ [1] _ rfl (by rw [World.size_alloc]; rfl) (h1own w1 hB1.size) (bl_alloc hB1 _) (bl_alloc hB1 _).size (by simp) ?_; intro v2 w2 ho2 hB2 hg2 hat2; have hx2 := bk_own (bk_alloc hx1 _) (h1own w1 hB1.size) hg2 (by decide); obtain ⟨z0, z1, z2, z3, z4, z5, zf0, zf1, zf2, zf3, zf4, zf5⟩ := cells6 hx2))
    replace hx2 := Lib.hid hx2
    replace hx1 := Lib.hid hx1
    clear x0 x1 x2 x3 x4 x5 xf0 xf1 xf2 xf3 xf4 xf5 z0 z1 z2 z3 z4 z5 zf0 zf1 zf2 zf3 zf4 zf5
    rw [← hX0.out] at ho2
    go_loopw [4, 28] (fun v4 vi wr => ∃ i : Nat, vi = .int .i64 i ∧ i ≤ m ∧ wr.ownsRow w.heap.size 26 1 v4 (X i).length (nums .u64 (X i)) ∧ Bk wr w.heap.size #[.int .i64 1, .int .i64 0, .slice A1 n c1, .slice A2 m c2, .int .u64 0, .int .u64 0] 53 ∧ Below w.heap.size w wr) (fun _ vi _ => m - (intOf vi).toNat)
    case atStart => exact ⟨0, rfl, Nat.zero_le _, ho2, hx2.out, hB2⟩
    case round =>
      obtain ⟨i, rfl, hi, ho, hx3, hBw⟩ := hrel
      replace hx3 := Lib.hid hx3
      by_cases hil : i < m
      · have hil2 : decide ((i : Int) < (m : Int)) = true := decide_eq_true (by omega)
        have hi1 : (i : Int) < (m : Int) := by omega
        have hi2 : decide ((i : Int) < 0) = false := decide_eq_false (by omega)
        have hi4 : decide (m ≤ i) = false := decide_eq_false (by omega)
        obtain ⟨ad, rfl, hcell⟩ : ∃ ad, A2 = some ad ∧ ∀ j, j < m → w.cell? (ad.add j) = some (.int .i64 (ds.getD j 0)) := by
          obtain ⟨ad, e, hc⟩ := hd.out.2.2 (by have := hmm.out; omega)
          exact ⟨ad, e, fun j hj => hc j (by rw [hmm.out]; exact hj)⟩
        have hci := cl_far hBw (hcell i hil)
        have hdi := hdm.out (ds.getD i 0) (by
          have hi' : i < ds.length := by rw [hmm.out]; exact hil
          rw [List.getD_eq_getElem?_getD, List.getElem?_eq_getElem hi']; exact List.getElem_mem hi')
        have hst := hXs.out i hil
        have hle := hXl.out i hi
        obtain ⟨d, hdd⟩ : ∃ d, ds.getD i 0 = d := ⟨_, rfl⟩
        rw [hdd] at hci hdi hst
        have hwd : IntKind.u64.wrap d = d := by rw [IntKind.wrap_u64]; omega
        replace hdd := Lib.hid hdd
        replace hst := Lib.hid hst
        go_wp2_with (at_builtin; refine print_append_num (w0 := w) w.heap.size rfl (.tmp 32) (.tmp 35) 29 26 .u64 8 rfl Try.underlying29 info_u64 (by decide) _ (X i) _ rfl rfl ho hBw hBw.size (by omega) ?_; rw [← hst.out]; intro v3 w3 ho3 hB3 hg3 hat3)
        exact ⟨⟨i + 1, by first | rfl | (congr 1; omega), by omega, ho3, bk_own hx3.out ho hg3 (by decide), hB3⟩, by simp [intOf]; omega⟩
      · have hil2 : decide ((i : Int) < (m : Int)) = false := decide_eq_false (by omega)
        obtain rfl : i = m := by omega
        rw [← hY0.out] at ho
        obtain ⟨x0, x1, x2, x3, x4, x5, xf0, xf1, xf2, xf3, xf4, xf5⟩ := cells6 hx3.out
        go_wp2_with (fail)
        clear x0 x1 x2 x3 x4 x5 xf0 xf1 xf2 xf3 xf4 xf5
        go_loopw [4, 41] (fun v4 vi wr => ∃ j : Nat, vi = .int .i64 j ∧ j ≤ n ∧ wr.ownsRow w.heap.size 26 1 v4 (Y j).length (nums .u64 (Y j)) ∧ Below w.heap.size w wr) (fun _ vi _ => n - (intOf vi).toNat)
        case atStart => exact ⟨0, rfl, Nat.zero_le _, ho, hBw⟩
        case round =>
          obtain ⟨j, rfl, hj, hoj, hBj⟩ := hrel
          by_cases hjn : j < n
          · have hjn2 : decide ((j : Int) < (n : Int)) = true := decide_eq_true (by omega)
            have hj1 : (j : Int) < (n : Int) := by omega
            have hj2 : decide ((j : Int) < 0) = false := decide_eq_false (by omega)
            have hj4 : decide (n ≤ j) = false := decide_eq_false (by omega)
            obtain ⟨hokx, bd, rfl, hrow⟩ := hp.out j (by rw [hn.out]; exact hjn)
            have hst := hYs.out j hjn
            have hle := hYl.out j hj
            obtain ⟨x, hxx⟩ : ∃ x, ps.getD j zeroP = x := ⟨_, rfl⟩
            rw [hxx] at hokx hrow hst
            replace hxx := Lib.hid hxx
            replace hst := Lib.hid hst
            have hpl := polNums_len x
            obtain ⟨y0, y1, y2, y3, y4, y5, y6, y7, y8, y9, y10, y11, y12⟩ := pol_cellsAt (hrow.far hBj)
            go_wp2_with (first | (go_at_call 20; (with_reducible refine (pnums_any x hokx _).mono ?_); rintro e w4 ⟨v4, rfl, ho4, hB4⟩; obtain ⟨A4, c4, rfl, hr4⟩ := own_reads ho4) | (at_builtin; refine print_append_row (w0 := w) w.heap.size rfl (.tmp 45) (.tmp 47) 29 26 .u64 8 rfl Try.underlying29 info_u64 (by decide) _ (Y j) (polNums x) A4 _ c4 rfl rfl (pw_own_below (pw_own_below hoj (bl_alloc (Below.refl _ _) _)) hB4) hr4 (bl_then (bl_alloc hBj _) hB4) (bl_then (bl_alloc hBj _) hB4).size (by omega) ?_; rw [← hst.out]; intro v5 w5 ho5 hB5 hg5 hat5))
            exact ⟨⟨j + 1, by first | rfl | (congr 1; omega), by omega, ho5, hB5⟩, by simp [intOf]; omega⟩
          · have hjn2 : decide ((j : Int) < (n : Int)) = false := decide_eq_false (by omega)
            obtain rfl : j = n := by omega
            rw [hYL.out] at hoj
            obtain ⟨A3, c3, rfl, hr3⟩ := own_reads hoj
            go_wp2_with (go_at_call 45; (with_reducible refine (hnums.out A3 c3 _ hr3).mono ?_); rintro e w3 ⟨v3, rfl, ho3, hB3⟩)
            go_ret2
            exact ⟨_, rfl, own_weaken ho3 hBj.size, bl_then hBj hB3⟩
  · have h1own : ∀ W : World, w.heap.size ≤ W.heap.size → (W.alloc (.cells #[.int .u64 2] 26)).ownsRow w.heap.size 26 1 (.slice (some ⟨W.heap.size, 0, none⟩) 1 1) 1 (nums .u64 [2]) := fun W h => own_lit W w.heap.size 26 .u64 [2] h (by simp)
    have h2lit : ∀ (W : World) (B : Nat), W.heap.size = B → ReadsInt (W.alloc (.cells #[.int .u64 s, .int .u64 g] 26)) .u64 (some ⟨B, 0, none⟩) 2 [s, g] := fun W B hW => by subst hW; exact reads_lit W 26 .u64 [s, g] (by simp)
    have hws : IntKind.u64.wrap s = s := by rw [IntKind.wrap_u64]; omega
    rw [evNums_2] at hL
    go_enter Try.func25, Try.ntmps25
    go_wp2_with (first | (go_at_call 30; (with_reducible refine (hright.out _ (hp.out.below hB.out) (hd.out.below hB.out)).mono ?_); rintro e w1 ⟨rfl, hq1⟩; have hB1 := bl_then hB.out hq1; have hx1 := bk_below hq1 hx.out; have hsz1 := bk_lt hx1; have hsz2 : ¬ w.heap.size = w1.heap.size := Nat.ne_of_lt hsz1; have hsz3 : ¬ w1.heap.size = w.heap.size := Nat.ne_of_gt hsz1; obtain ⟨x0, x1, x2, x3, x4, x5, xf0, xf1, xf2, xf3, xf4, xf5⟩ := cells6 hx1) | (at_builtin; refine print_append_row (w0 := w) w.heap.size rfl (.tmp 52) (.tmp 58) 29 26 .u64 8 rfl Try.underlying29 info_u64 (by decide) _ [2] [s, g] _ _ _ rfl rfl (pw_own_below (h1own w1 hB1.size) (bl_alloc (Below.refl _ _) _)) (h2lit _ _ (World.size_alloc _ _)) (bl_alloc (bl_alloc hB1 _) _) (bl_alloc (bl_alloc hB1 _) _).size (by simp) ?_; rw [show [2] ++ [s, g] = L from hL.out]; intro v2 w2 ho2 hB2 hg2 hat2; obtain ⟨A3, c3, rfl, hr3⟩ := own_reads ho2) | (go_at_call 45; (with_reducible refine (hnums.out A3 c3 _ hr3).mono ?_); rintro e w3 ⟨v3, rfl, ho3, hB3⟩))
    go_ret2
    exact ⟨_, rfl, own_weaken ho3 hB2.size, bl_then hB2 hB3⟩
  · have h1own : ∀ W : World, w.heap.size ≤ W.heap.size → (W.alloc (.cells #[.int .u64 3] 26)).ownsRow w.heap.size 26 1 (.slice (some ⟨W.heap.size, 0, none⟩) 1 1) 1 (nums .u64 [3]) := fun W h => own_lit W w.heap.size 26 .u64 [3] h (by simp)
    rw [evNums_3] at hL
    go_enter Try.func25, Try.ntmps25
    go_wp2_with (first | (go_at_call 30; (with_reducible refine (hright.out _ (hp.out.below hB.out) (hd.out.below hB.out)).mono ?_); rintro e w1 ⟨rfl, hq1⟩; have hB1 := bl_then hB.out hq1; have hx1 := bk_below hq1 hx.out; have hsz1 := bk_lt hx1; have hsz2 : ¬ w.heap.size = w1.heap.size := Nat.ne_of_lt hsz1; have hsz3 : ¬ w1.heap.size = w.heap.size := Nat.ne_of_gt hsz1; obtain ⟨x0, x1, x2, x3, x4, x5, xf0, xf1, xf2, xf3, xf4, xf5⟩ := cells6 hx1) | (at_builtin; refine print_append_num (w0 := w) w.heap.size rfl (.tmp 62) (.tmp 65) 29 26 .u64 8 rfl Try.underlying29 info_u64 (by decide) _ [3] p rfl (by rw [World.size_alloc]; rfl) (h1own w1 hB1.size) (bl_alloc hB1 _) (bl_alloc hB1 _).size (by simp) ?_; rw [show [3] ++ [p] = L from hL.out]; intro v2 w2 ho2 hB2 hg2 hat2; obtain ⟨A3, c3, rfl, hr3⟩ := own_reads ho2) | (go_at_call 45; (with_reducible refine (hnums.out A3 c3 _ hr3).mono ?_); rintro e w3 ⟨v3, rfl, ho3, hB3⟩))
    go_ret2
    exact ⟨_, rfl, own_weaken ho3 hB2.size, bl_then hB2 hB3⟩
theorem ebytes_any (k s g p : Int) (A1 A2 : Option Addr) (c1 c2 : Nat) (ps : List Pol) (ds : List Int) (w : World) (hp : PolsAt w A1 ps) (hd : ReadsInt w .i64 A2 ds.length ds) (hm : ps.length ≤ 1000) (hm2 : ds.length ≤ 1000) (hcl : ps.length ≤ c1) (hcm : c1 ≤ 9223372036854775807) :
    Calls Try.prog 25 #[.agg #[.int .i64 k, .int .i64 s, .slice A1 ps.length c1, .slice A2 ds.length c2, .int .u64 g, .int .u64 p]] w (MakesBytes (bytesV k s g p ps ds) w) :=
  ebytes_n k s g p A1 A2 c1 c2 ps ds w _ _ rfl rfl hp hd hm hm2 hcl hcm
end Go.Proofs.Ytfcekicjlgdmaaa
namespace Go.Proofs.Ytfcekicjlgdmaaa
open Go.RowKit Go.Proofs.YtfcekicjlgdmaaaW.PrintWords
attribute [local go_sem] max2_int min2_int max_two min_two
attribute [local go_sem ↓] eql_nt neq_nt eql_ad net_addr net_bits eql_pol neq_pol

set_option maxHeartbeats 6400000 in
theorem rbytes_n (k s g p : Int) (A1 A2 : Option Addr) (c1 c2 : Nat) (ps : List Pol) (ds : List Int) (w : World) (n m : Nat) (hn : ps.length = n) (hmm : ds.length = m) (hp : PolsAt w A1 ps) (hd : ReadsInt w .i64 A2 ds.length ds) (hm : n ≤ 1000) (hm2 : m ≤ 1000) (hcl : n ≤ c1) (hcm : c1 ≤ 9223372036854775807) :
    Calls Try.prog 29 #[.agg #[.int .i64 k, .int .i64 s, .slice A1 n c1, .slice A2 m c2, .int .u64 g, .int .u64 p]] w (MakesBytes (bytesV k s g p ps ds) w) := by
  have hx := bk_new w #[.int .i64 k, .int .i64 s, .slice A1 n c1, .slice A2 m c2, .int .u64 g, .int .u64 p] 53
  have hB := bl_alloc (Below.refl _ w) (.cells #[.int .i64 k, .int .i64 s, .slice A1 n c1, .slice A2 m c2, .int .u64 g, .int .u64 p] 53)
  have hright : ∀ W, PolsAt W A1 ps → ReadsInt W .i64 A2 ds.length ds → Calls Try.prog 31 #[.agg #[.int .i64 k, .int .i64 s, .slice A1 n c1, .slice A2 m c2, .int .u64 g, .int .u64 p]] W fun e w' => e = .returned (.bool (rightE k s g p ps ds)) ∧ Below W.heap.size W w' := by
    subst hn hmm
    exact fun W h1 h2 => reright_any k s g p A1 A2 c1 c2 ps ds W h1 h2 hm hm2 hcl hcm
  obtain ⟨x0, x1, x2, x3, x4, x5, xf0, xf1, xf2, xf3, xf4, xf5⟩ := cells6 hx
  replace hp := Lib.hid hp
  replace hd := Lib.hid hd
  replace hn := Lib.hid hn
  replace hmm := Lib.hid hmm
  replace hx := Lib.hid hx
  replace hB := Lib.hid hB
  by_cases hR : RightE k s g p ps ds
  rotate_left 1
  · rw [bytesV_no hR]
    rw [rightE_no hR] at hright
    replace hright := Lib.hid hright
    go_enter Try.func29, Try.ntmps29
    go_wp2_with (first | (go_at_call 31; (with_reducible refine (hright.out _ (hp.out.below hB.out) (hd.out.below hB.out)).mono ?_); rintro e w1 ⟨rfl, hq1⟩; have hB1 := bl_then hB.out hq1; have hx1 := bk_below hq1 hx.out; have hsz1 := bk_lt hx1; have hsz2 : ¬ w.heap.size = w1.heap.size := Nat.ne_of_lt hsz1; have hsz3 : ¬ w1.heap.size = w.heap.size := Nat.ne_of_gt hsz1; obtain ⟨x0, x1, x2, x3, x4, x5, xf0, xf1, xf2, xf3, xf4, xf5⟩ := cells6 hx1))
    go_ret2
    exact ⟨_, rfl, own_nil _ _ _ _, hB1⟩
  rw [bytesV_yes hR]
  rw [rightE_yes hR] at hright
  have hU := evNums_u64 hR hp.out.ok
  have hLl := (evNums_len hR hp.out.ok).2
  have hok := hp.out.ok
  replace hright := Lib.hid hright
  obtain ⟨L, hL⟩ : ∃ L, evNums k s g p ps ds = L := ⟨_, rfl⟩
  rw [hL] at hU hLl
  rw [hL]
  have hnums := fun A c W hr => rnums_any A c L W hr hU (by omega)
  replace hnums := Lib.hid hnums
  replace hL := Lib.hid hL
  replace hU := Lib.hid hU
  replace hok := Lib.hid hok
  rcases hR with ⟨rfl, rfl, rfl, rfl, h5, h6, _⟩ | ⟨rfl, h2, h3, rfl, h5, h6⟩ | ⟨rfl, rfl, rfl, h4, h5, h6⟩
  · have h1own : ∀ W : World, w.heap.size ≤ W.heap.size → (W.alloc (.cells #[.int .u64 1] 26)).ownsRow w.heap.size 26 1 (.slice (some ⟨W.heap.size, 0, none⟩) 1 1) 1 (nums .u64 [1]) := fun W h => own_lit W w.heap.size 26 .u64 [1] h (by simp)
    have hwm : IntKind.u64.wrap (m : Int) = (m : Int) := by rw [IntKind.wrap_u64]; omega
    have hm8 : m ≤ 8 := by rw [← hmm.out]; exact (drops_mem h6).1
    have hn8 : n ≤ 8 := by rw [← hn.out]; exact h5.1
    have hdm := (drops_mem h6).2
    have hrts := rts_of h5 hok.out
    obtain ⟨X, hX⟩ : ∃ X : Nat → List Int, ∀ i, X i = [1] ++ [(m : Int)] ++ ds.take i := ⟨_, fun _ => rfl⟩
    obtain ⟨Y, hY⟩ : ∃ Y : Nat → List Int, ∀ j, Y j = X m ++ flatN (ps.take j) := ⟨_, fun _ => rfl⟩
    have hX0 : X 0 = [1] ++ [(m : Int)] := by rw [hX]; simp
    have hY0 : Y 0 = X m := by rw [hY]; simp [flatN_nil]
    have hXs : ∀ i, i < m → X (i + 1) = X i ++ [ds.getD i 0] := fun i hi => by rw [hX, hX, take_succ_getD ds i (by rw [hmm.out]; exact hi), List.append_assoc _ (ds.take i)]
    have hYs : ∀ j, j < n → Y (j + 1) = Y j ++ polNums (ps.getD j zeroP) := fun j hj => by
      rw [hY, hY, List.append_assoc, ← flatN_snoc]
      have hj' : j < ps.length := by rw [hn.out]; exact hj
      rw [List.take_add_one, List.getElem?_eq_getElem hj', List.getD_eq_getElem?_getD, List.getElem?_eq_getElem hj']; rfl
    have hXl : ∀ i, i ≤ m → (X i).length ≤ 10 := fun i hi => by rw [hX]; simp; omega
    have hYL : Y n = L := by
      rw [← hL.out, evNums_1, hY, hX, ← hn.out, ← hmm.out, List.take_length, List.take_length]; simp
    have hYl : ∀ j, j ≤ n → (Y j).length ≤ 100 := fun j hj => by
      rw [hY, List.length_append, flatN_len (fun q hq => hrts q (List.mem_of_mem_take hq)), List.length_take]
      have := hXl m (Nat.le_refl _)
      omega
    replace hdm := Lib.hid hdm
    replace hXs := Lib.hid hXs
    replace hYs := Lib.hid hYs
    replace hXl := Lib.hid hXl
    replace hYl := Lib.hid hYl
    replace hX0 := Lib.hid hX0
    replace hY0 := Lib.hid hY0
    replace hYL := Lib.hid hYL
    clear hX hY
    go_enter Try.func29, Try.ntmps29
    go_wp2_with (first | (go_at_call 31; (with_reducible refine (hright.out _ (hp.out.below hB.out) (hd.out.below hB.out)).mono ?_); rintro e w1 ⟨rfl, hq1⟩; have hB1 := bl_then hB.out hq1; have hx1 := bk_below hq1 hx.out; have hsz1 := bk_lt hx1; have hsz2 : ¬ w.heap.size = w1.heap.size := Nat.ne_of_lt hsz1; have hsz3 : ¬ w1.heap.size = w.heap.size := Nat.ne_of_gt hsz1; obtain ⟨x0, x1, x2, x3, x4, x5, xf0, xf1, xf2, xf3, xf4, xf5⟩ := cells6 hx1) | (at_builtin; refine print_append_num (w0 := w) w.heap.size rfl (.tmp 38) (.tmp 43) 29 26 .u64 8 rfl Try.underlying29 info_u64 (by decide) _ [1] _ rfl (by rw [World.size_alloc]; rfl) (h1own w1 hB1.size) (bl_alloc hB1 _) (bl_alloc hB1 _).size (by simp) ?_; intro v2 w2 ho2 hB2 hg2 hat2; have hx2 := bk_own (bk_alloc hx1 _) (h1own w1 hB1.size) hg2 (by decide); obtain ⟨z0, z1, z2, z3, z4, z5, zf0, zf1, zf2, zf3, zf4, zf5⟩ := cells6 hx2))
    replace hx2 := Lib.hid hx2
    replace hx1 := Lib.hid hx1
    clear x0 x1 x2 x3 x4 x5 xf0 xf1 xf2 xf3 xf4 xf5 z0 z1 z2 z3 z4 z5 zf0 zf1 zf2 zf3 zf4 zf5
    rw [← hX0.out] at ho2
    go_loopw [4, 48] (fun v4 vi wr => ∃ i : Nat, vi = .int .i64 i ∧ i ≤ m ∧ wr.ownsRow w.heap.size 26 1 v4 (X i).length (nums .u64 (X i)) ∧ Bk wr w.heap.size #[.int .i64 1, .int .i64 0, .slice A1 n c1, .slice A2 m c2, .int .u64 0, .int .u64 0] 53 ∧ Below w.heap.size w wr) (fun _ vi _ => m - (intOf vi).toNat)
    case atStart => exact ⟨0, rfl, Nat.zero_le _, ho2, hx2.out, hB2⟩
    case round =>
      obtain ⟨i, rfl, hi, ho, hx3, hBw⟩ := hrel
      replace hx3 := Lib.hid hx3
      by_cases hil : i < m
      · have hil2 : decide ((i : Int) < (m : Int)) = true := decide_eq_true (by omega)
        have hi1 : (i : Int) < (m : Int) := by omega
        have hi2 : decide ((i : Int) < 0) = false := decide_eq_false (by omega)
        have hi4 : decide (m ≤ i) = false := decide_eq_false (by omega)
        obtain ⟨ad, rfl, hcell⟩ : ∃ ad, A2 = some ad ∧ ∀ j, j < m → w.cell? (ad.add j) = some (.int .i64 (ds.getD j 0)) := by
          obtain ⟨ad, e, hc⟩ := hd.out.2.2 (by have := hmm.out; omega)
          exact ⟨ad, e, fun j hj => hc j (by rw [hmm.out]; exact hj)⟩
        have hci := cl_far hBw (hcell i hil)
        have hdi := hdm.out (ds.getD i 0) (by
          have hi' : i < ds.length := by rw [hmm.out]; exact hil
          rw [List.getD_eq_getElem?_getD, List.getElem?_eq_getElem hi']; exact List.getElem_mem hi')
        have hst := hXs.out i hil
        have hle := hXl.out i hi
        obtain ⟨d, hdd⟩ : ∃ d, ds.getD i 0 = d := ⟨_, rfl⟩
        rw [hdd] at hci hdi hst
        have hwd : IntKind.u64.wrap d = d := by rw [IntKind.wrap_u64]; omega
        replace hdd := Lib.hid hdd
        replace hst := Lib.hid hst
        go_wp2_with (at_builtin; refine print_append_num (w0 := w) w.heap.size rfl (.tmp 52) (.tmp 55) 29 26 .u64 8 rfl Try.underlying29 info_u64 (by decide) _ (X i) _ rfl rfl ho hBw hBw.size (by omega) ?_; rw [← hst.out]; intro v3 w3 ho3 hB3 hg3 hat3)
        exact ⟨⟨i + 1, by first | rfl | (congr 1; omega), by omega, ho3, bk_own hx3.out ho hg3 (by decide), hB3⟩, by simp [intOf]; omega⟩
      · have hil2 : decide ((i : Int) < (m : Int)) = false := decide_eq_false (by omega)
        obtain rfl : i = m := by omega
        rw [← hY0.out] at ho
        obtain ⟨x0, x1, x2, x3, x4, x5, xf0, xf1, xf2, xf3, xf4, xf5⟩ := cells6 hx3.out
        go_wp2_with (fail)
        clear x0 x1 x2 x3 x4 x5 xf0 xf1 xf2 xf3 xf4 xf5
        go_loopw [4, 61] (fun v4 vi wr => ∃ j : Nat, vi = .int .i64 j ∧ j ≤ n ∧ wr.ownsRow w.heap.size 26 1 v4 (Y j).length (nums .u64 (Y j)) ∧ Below w.heap.size w wr) (fun _ vi _ => n - (intOf vi).toNat)
        case atStart => exact ⟨0, rfl, Nat.zero_le _, ho, hBw⟩
        case round =>
          obtain ⟨j, rfl, hj, hoj, hBj⟩ := hrel
          by_cases hjn : j < n
          · have hjn2 : decide ((j : Int) < (n : Int)) = true := decide_eq_true (by omega)
            have hj1 : (j : Int) < (n : Int) := by omega
            have hj2 : decide ((j : Int) < 0) = false := decide_eq_false (by omega)
            have hj4 : decide (n ≤ j) = false := decide_eq_false (by omega)
            obtain ⟨hokx, bd, rfl, hrow⟩ := hp.out j (by rw [hn.out]; exact hjn)
            have hst := hYs.out j hjn
            have hle := hYl.out j hj
            obtain ⟨x, hxx⟩ : ∃ x, ps.getD j zeroP = x := ⟨_, rfl⟩
            rw [hxx] at hokx hrow hst
            replace hxx := Lib.hid hxx
            replace hst := Lib.hid hst
            have hpl := polNums_len x
            obtain ⟨y0, y1, y2, y3, y4, y5, y6, y7, y8, y9, y10, y11, y12⟩ := pol_cellsAt (hrow.far hBj)
            go_wp2_with (first | (go_at_call 21; (with_reducible refine (rpnums_any x hokx _).mono ?_); rintro e w4 ⟨v4, rfl, ho4, hB4⟩; obtain ⟨A4, c4, rfl, hr4⟩ := own_reads ho4) | (at_builtin; refine print_append_row (w0 := w) w.heap.size rfl (.tmp 65) (.tmp 67) 29 26 .u64 8 rfl Try.underlying29 info_u64 (by decide) _ (Y j) (polNums x) A4 _ c4 rfl rfl (pw_own_below (pw_own_below hoj (bl_alloc (Below.refl _ _) _)) hB4) hr4 (bl_then (bl_alloc hBj _) hB4) (bl_then (bl_alloc hBj _) hB4).size (by omega) ?_; rw [← hst.out]; intro v5 w5 ho5 hB5 hg5 hat5))
            exact ⟨⟨j + 1, by first | rfl | (congr 1; omega), by omega, ho5, hB5⟩, by simp [intOf]; omega⟩
          · have hjn2 : decide ((j : Int) < (n : Int)) = false := decide_eq_false (by omega)
            obtain rfl : j = n := by omega
            rw [hYL.out] at hoj
            obtain ⟨A3, c3, rfl, hr3⟩ := own_reads hoj
            go_wp2_with (go_at_call 48; (with_reducible refine (hnums.out A3 c3 _ hr3).mono ?_); rintro e w3 ⟨v3, rfl, ho3, hB3⟩)
            go_ret2
            exact ⟨_, rfl, own_weaken ho3 hBj.size, bl_then hBj hB3⟩
  · have h1own : ∀ W : World, w.heap.size ≤ W.heap.size → (W.alloc (.cells #[.int .u64 2] 26)).ownsRow w.heap.size 26 1 (.slice (some ⟨W.heap.size, 0, none⟩) 1 1) 1 (nums .u64 [2]) := fun W h => own_lit W w.heap.size 26 .u64 [2] h (by simp)
    have h2lit : ∀ (W : World) (B : Nat), W.heap.size = B → ReadsInt (W.alloc (.cells #[.int .u64 s, .int .u64 g] 26)) .u64 (some ⟨B, 0, none⟩) 2 [s, g] := fun W B hW => by subst hW; exact reads_lit W 26 .u64 [s, g] (by simp)
    have hws : IntKind.u64.wrap s = s := by rw [IntKind.wrap_u64]; omega
    rw [evNums_2] at hL
    go_enter Try.func29, Try.ntmps29
    go_wp2_with (first | (go_at_call 31; (with_reducible refine (hright.out _ (hp.out.below hB.out) (hd.out.below hB.out)).mono ?_); rintro e w1 ⟨rfl, hq1⟩; have hB1 := bl_then hB.out hq1; have hx1 := bk_below hq1 hx.out; have hsz1 := bk_lt hx1; have hsz2 : ¬ w.heap.size = w1.heap.size := Nat.ne_of_lt hsz1; have hsz3 : ¬ w1.heap.size = w.heap.size := Nat.ne_of_gt hsz1; obtain ⟨x0, x1, x2, x3, x4, x5, xf0, xf1, xf2, xf3, xf4, xf5⟩ := cells6 hx1) | (at_builtin; refine print_append_row (w0 := w) w.heap.size rfl (.tmp 19) (.tmp 25) 29 26 .u64 8 rfl Try.underlying29 info_u64 (by decide) _ [2] [s, g] _ _ _ rfl rfl (pw_own_below (h1own w1 hB1.size) (bl_alloc (Below.refl _ _) _)) (h2lit _ _ (World.size_alloc _ _)) (bl_alloc (bl_alloc hB1 _) _) (bl_alloc (bl_alloc hB1 _) _).size (by simp) ?_; rw [show [2] ++ [s, g] = L from hL.out]; intro v2 w2 ho2 hB2 hg2 hat2; obtain ⟨A3, c3, rfl, hr3⟩ := own_reads ho2; have hx2 := bk_own (bk_alloc (bk_alloc hx1 _) _) (pw_own_below (h1own w1 hB1.size) (bl_alloc (Below.refl _ _) _)) hg2 (by decide); obtain ⟨z0, z1, z2, z3, z4, z5, zf0, zf1, zf2, zf3, zf4, zf5⟩ := cells6 hx2) | (go_at_call 48; (with_reducible refine (hnums.out A3 c3 _ hr3).mono ?_); rintro e w3 ⟨v3, rfl, ho3, hB3⟩))
    go_ret2
    exact ⟨_, rfl, own_weaken ho3 hB2.size, bl_then hB2 hB3⟩
  · have h1own : ∀ W : World, w.heap.size ≤ W.heap.size → (W.alloc (.cells #[.int .u64 3] 26)).ownsRow w.heap.size 26 1 (.slice (some ⟨W.heap.size, 0, none⟩) 1 1) 1 (nums .u64 [3]) := fun W h => own_lit W w.heap.size 26 .u64 [3] h (by simp)
    rw [evNums_3] at hL
    go_enter Try.func29, Try.ntmps29
    go_wp2_with (first | (go_at_call 31; (with_reducible refine (hright.out _ (hp.out.below hB.out) (hd.out.below hB.out)).mono ?_); rintro e w1 ⟨rfl, hq1⟩; have hB1 := bl_then hB.out hq1; have hx1 := bk_below hq1 hx.out; have hsz1 := bk_lt hx1; have hsz2 : ¬ w.heap.size = w1.heap.size := Nat.ne_of_lt hsz1; have hsz3 : ¬ w1.heap.size = w.heap.size := Nat.ne_of_gt hsz1; obtain ⟨x0, x1, x2, x3, x4, x5, xf0, xf1, xf2, xf3, xf4, xf5⟩ := cells6 hx1) | (at_builtin; refine print_append_num (w0 := w) w.heap.size rfl (.tmp 30) (.tmp 33) 29 26 .u64 8 rfl Try.underlying29 info_u64 (by decide) _ [3] p rfl (by rw [World.size_alloc]; rfl) (h1own w1 hB1.size) (bl_alloc hB1 _) (bl_alloc hB1 _).size (by simp) ?_; rw [show [3] ++ [p] = L from hL.out]; intro v2 w2 ho2 hB2 hg2 hat2; obtain ⟨A3, c3, rfl, hr3⟩ := own_reads ho2; have hx2 := bk_own (bk_alloc hx1 _) (h1own w1 hB1.size) hg2 (by decide); obtain ⟨z0, z1, z2, z3, z4, z5, zf0, zf1, zf2, zf3, zf4, zf5⟩ := cells6 hx2) | (go_at_call 48; (with_reducible refine (hnums.out A3 c3 _ hr3).mono ?_); rintro e w3 ⟨v3, rfl, ho3, hB3⟩))
    go_ret2
    exact ⟨_, rfl, own_weaken ho3 hB2.size, bl_then hB2 hB3⟩
theorem rbytes_any (k s g p : Int) (A1 A2 : Option Addr) (c1 c2 : Nat) (ps : List Pol) (ds : List Int) (w : World) (hp : PolsAt w A1 ps) (hd : ReadsInt w .i64 A2 ds.length ds) (hm : ps.length ≤ 1000) (hm2 : ds.length ≤ 1000) (hcl : ps.length ≤ c1) (hcm : c1 ≤ 9223372036854775807) :
    Calls Try.prog 29 #[.agg #[.int .i64 k, .int .i64 s, .slice A1 ps.length c1, .slice A2 ds.length c2, .int .u64 g, .int .u64 p]] w (MakesBytes (bytesV k s g p ps ds) w) :=
  rbytes_n k s g p A1 A2 c1 c2 ps ds w _ _ rfl rfl hp hd hm hm2 hcl hcm
end Go.Proofs.Ytfcekicjlgdmaaa
