/- Contract: floodgateref06.Find. -/
import Derived.Test.YtebeknnjjoobnaaRouteE
import Derived.Test.YtebeknnjjoobnaaRouteM
set_option linter.unusedVariables false
set_option linter.unusedSimpArgs false
set_option maxRecDepth 100000
namespace Go.Proofs.Ytebeknnjjoobnaa
open Go.RowKit
attribute [local go_sem] max2_int min2_int max_two min_two
attribute [local go_sem ↓] eql_nt neq_nt eql_ad net_addr net_bits eql_rt neq_rt

theorem bk_far6 {w : World} {g g' : Nat} {cs : Array Value} {t : TypeId} (h : Bk w g cs t) (hne : g ≠ g') {a b c d e f : Value} :
    Bk ((((((w.setCell ⟨g', 0, none⟩ a).setCell ⟨g', 1, none⟩ b).setCell ⟨g', 2, none⟩ c).setCell ⟨g', 3, none⟩ d).setCell ⟨g', 4, none⟩ e).setCell ⟨g', 5, none⟩ f) g cs t :=
  bk_far (bk_far (bk_far (bk_far (bk_far (bk_far h hne _) hne _) hne _) hne _) hne _) hne _
theorem bl_set6 {B : Nat} {w W : World} {g' : Nat} (h : Below B w W) (hg : B ≤ g') {a b c d e f : Value} :
    Below B w ((((((W.setCell ⟨g', 0, none⟩ a).setCell ⟨g', 1, none⟩ b).setCell ⟨g', 2, none⟩ c).setCell ⟨g', 3, none⟩ d).setCell ⟨g', 4, none⟩ e).setCell ⟨g', 5, none⟩ f) :=
  bl_set (bl_set (bl_set (bl_set (bl_set (bl_set h hg _) hg _) hg _) hg _) hg _) hg _
theorem res_rfind {w : World} {g : Nat} {a b c d e f x : Value} {t : TypeId} (h : Bk w g #[a, b, c, d, e, f] t) (tmps : Array Value) (h4 : tmps[4]?.getD undef = .pointer (some ⟨g, 0, none⟩)) (h5 : tmps[5]?.getD undef = x) :
    (results Try.f20 tmps).run Try.prog w = .ok (.tuple #[.agg #[a, b, c, d, e, f], x]) w := by
  obtain ⟨z0, z1, z2, z3, z4, z5, _⟩ := hold6 h
  simp [results, Try.results20, go_sem, h4, h5, z0, z1, z2, z3, z4, z5]
def stepF (p q r s : Int) (o : Option Rt) (x : Rt) : Option Rt := if inT p q r s x.1 && (o.isNone || decide ((o.getD zeroRt).1.2.2.2.2 < x.1.2.2.2.2)) then some x else o
def findD (p q r s : Int) (l : List Rt) : Option Rt := l.foldl (stepF p q r s) none
theorem findD_step {p q r s : Int} (dl : List Rt) (i : Nat) (hi : i < dl.length) : findD p q r s (dl.take (i + 1)) = stepF p q r s (findD p q r s (dl.take i)) (dl.getD i zeroRt) := by
  unfold findD
  rw [take_snoc dl i hi, List.foldl_append]; rfl
abbrev RtBk (w : World) (g : Nat) (x : Rt) : Prop := Bk w g #[.int .u8 x.1.1, .int .u8 x.1.2.1, .int .u8 x.1.2.2.1, .int .u8 x.1.2.2.2.1, .int .i64 x.1.2.2.2.2, .int .i64 x.2] 35
def RFindPost (dl : List Rt) (p q r s : Int) (w : World) (e : Ending) (w' : World) : Prop := ∃ o : Option Rt, o = findD p q r s dl ∧ e = .returned (.tuple #[.agg #[.int .u8 (o.getD zeroRt).1.1, .int .u8 (o.getD zeroRt).1.2.1, .int .u8 (o.getD zeroRt).1.2.2.1, .int .u8 (o.getD zeroRt).1.2.2.2.1, .int .i64 (o.getD zeroRt).1.2.2.2.2, .int .i64 (o.getD zeroRt).2], .bool o.isSome]) ∧ Below w.heap.size w w'
set_option maxHeartbeats 3200000 in
theorem rfind_any (A : Option Addr) (dl : List Rt) (cap : Nat) (w : World) (hr : RtAt w A dl) (hro : ∀ x ∈ dl, RtOk x) (hl : dl.length ≤ 1000) (p q r s : Int) (hp : AdOk p q r s) :
    Calls Try.prog 20 #[.slice A dl.length cap, .agg #[.int .u8 p, .int .u8 q, .int .u8 r, .int .u8 s]] w (RFindPost dl p q r s w) := by
  have hk0 := bk_alloc (bk_alloc (bk_new w #[.int .u8 p, .int .u8 q, .int .u8 r, .int .u8 s] 27) (.cells #[.int .u8 0, .int .u8 0, .int .u8 0, .int .u8 0, .int .i64 0, .int .i64 0] 35)) (.cells #[.int .u8 0, .int .u8 0, .int .u8 0, .int .u8 0, .int .i64 0, .int .i64 0] 35)
  have hz0 := bk_alloc (bk_at (w := w.alloc (.cells #[.int .u8 p, .int .u8 q, .int .u8 r, .int .u8 s] 27)) (g := w.heap.size + 1) (cs := #[.int .u8 0, .int .u8 0, .int .u8 0, .int .u8 0, .int .i64 0, .int .i64 0]) (t := 35) (by simp)) (.cells #[.int .u8 0, .int .u8 0, .int .u8 0, .int .u8 0, .int .i64 0, .int .i64 0] 35)
  have hb0 : RtBk (((w.alloc (.cells #[.int .u8 p, .int .u8 q, .int .u8 r, .int .u8 s] 27)).alloc (.cells #[.int .u8 0, .int .u8 0, .int .u8 0, .int .u8 0, .int .i64 0, .int .i64 0] 35)).alloc (.cells #[.int .u8 0, .int .u8 0, .int .u8 0, .int .u8 0, .int .i64 0, .int .i64 0] 35)) (w.heap.size + 1 + 1) ((none : Option Rt).getD zeroRt) := bk_at (by simp)
  have hB0 := bl_alloc (bl_alloc (bl_alloc (Below.refl _ w) (.cells #[.int .u8 p, .int .u8 q, .int .u8 r, .int .u8 s] 27)) (.cells #[.int .u8 0, .int .u8 0, .int .u8 0, .int .u8 0, .int .i64 0, .int .i64 0] 35)) (.cells #[.int .u8 0, .int .u8 0, .int .u8 0, .int .u8 0, .int .i64 0, .int .i64 0] 35)
  obtain ⟨N, hN⟩ : ∃ N, dl.length = N := ⟨_, rfl⟩
  rw [hN] at hl ⊢
  replace hN := Lib.hid hN
  replace hr := Lib.hid hr
  replace hro := Lib.hid hro
  replace hk0 := Lib.hid hk0
  replace hz0 := Lib.hid hz0
  replace hb0 := Lib.hid hb0
  replace hB0 := Lib.hid hB0
  go_enter Try.func20, Try.ntmps20
  go_wp2
  generalize ((w.alloc (.cells #[.int .u8 p, .int .u8 q, .int .u8 r, .int .u8 s] 27)).alloc (.cells #[.int .u8 0, .int .u8 0, .int .u8 0, .int .u8 0, .int .i64 0, .int .i64 0] 35)).alloc (.cells #[.int .u8 0, .int .u8 0, .int .u8 0, .int .u8 0, .int .i64 0, .int .i64 0] 35) = W0 at *
  go_loopw [7, 13] (fun v7 v13 wr => ∃ (i : Nat) (o : Option Rt), v13 = .int .i64 i ∧ v7 = .bool o.isSome ∧ i ≤ N ∧ o = findD p q r s (dl.take i) ∧ Bk wr w.heap.size #[.int .u8 p, .int .u8 q, .int .u8 r, .int .u8 s] 27 ∧ Bk wr (w.heap.size + 1) #[.int .u8 0, .int .u8 0, .int .u8 0, .int .u8 0, .int .i64 0, .int .i64 0] 35 ∧ RtBk wr (w.heap.size + 1 + 1) (o.getD zeroRt) ∧ Below w.heap.size w wr) (fun _ v _ => N - (intOf v).toNat)
  case atStart => exact ⟨0, none, rfl, rfl, Nat.zero_le _, rfl, hk0.out, hz0.out, hb0.out, hB0.out⟩
  case round =>
    obtain ⟨i, o, rfl, rfl, hi, ho, hk, hz, hb, hBw⟩ := hrel
    obtain ⟨O, hO⟩ : ∃ O, o.getD zeroRt = O := ⟨_, rfl⟩
    obtain ⟨F, hF⟩ : ∃ F, o.isSome = F := ⟨_, rfl⟩
    rw [hO] at hb
    rw [hF]
    replace ho := Lib.hid ho
    by_cases hil : i < N
    · have hil2 : decide ((i : Int) < (N : Int)) = true := decide_eq_true (by omega)
      obtain ⟨ad, rfl, hrow⟩ := hr.out i (by rw [hN.out]; exact hil)
      have hok := hro.out (dl.getD i zeroRt) (by rw [List.getD_eq_getElem?_getD, List.getElem?_eq_getElem (by rw [hN.out]; exact hil)]; exact List.getElem_mem _)
      have hst := findD_step (p := p) (q := q) (r := r) (s := s) dl i (by rw [hN.out]; exact hil)
      obtain ⟨y, hy⟩ : ∃ y, dl.getD i zeroRt = y := ⟨_, rfl⟩
      rw [hy] at hok hrow hst
      rw [← ho.out] at hst
      have hokN : NtOk y.1.1 y.1.2.1 y.1.2.2.1 y.1.2.2.2.1 y.1.2.2.2.2 := hok.1
      obtain ⟨c0, c1, c2, c3, c4, c5⟩ := rt_cellsAt (hrow.far hBw)
      have hny := bk_new wr #[.int .u8 y.1.1, .int .u8 y.1.2.1, .int .u8 y.1.2.2.1, .int .u8 y.1.2.2.2.1, .int .i64 y.1.2.2.2.2, .int .i64 y.2] 35
      have hk1 := bk_alloc hk (.cells #[.int .u8 y.1.1, .int .u8 y.1.2.1, .int .u8 y.1.2.2.1, .int .u8 y.1.2.2.2.1, .int .i64 y.1.2.2.2.2, .int .i64 y.2] 35)
      have hz1 := bk_alloc hz (.cells #[.int .u8 y.1.1, .int .u8 y.1.2.1, .int .u8 y.1.2.2.1, .int .u8 y.1.2.2.2.1, .int .i64 y.1.2.2.2.2, .int .i64 y.2] 35)
      have hb1 := bk_alloc hb (.cells #[.int .u8 y.1.1, .int .u8 y.1.2.1, .int .u8 y.1.2.2.1, .int .u8 y.1.2.2.2.1, .int .i64 y.1.2.2.2.2, .int .i64 y.2] 35)
      have hB1 := bl_alloc hBw (.cells #[.int .u8 y.1.1, .int .u8 y.1.2.1, .int .u8 y.1.2.2.1, .int .u8 y.1.2.2.2.1, .int .i64 y.1.2.2.2.2, .int .i64 y.2] 35)
      obtain ⟨k0, k1, k2, k3, _⟩ := hold4 hk1
      obtain ⟨IN, hIN⟩ : ∃ IN, inT p q r s y.1 = IN := ⟨_, rfl⟩
      obtain ⟨G, hG⟩ : ∃ G, decide (O.1.2.2.2.2 < y.1.2.2.2.2) = G := ⟨_, rfl⟩
      have hst2 : findD p q r s (dl.take (i + 1)) = if IN && (!F || G) then some y else o := by
        rw [hst]
        unfold stepF
        rw [hIN, hO, hG, ← hF]
        cases o <;> rfl
      replace hO := Lib.hid hO
      replace hF := Lib.hid hF
      replace hy := Lib.hid hy
      replace hny := Lib.hid hny
      replace hk1 := Lib.hid hk1
      replace hz1 := Lib.hid hz1
      replace hb1 := Lib.hid hb1
      replace hB1 := Lib.hid hB1
      replace hIN := Lib.hid hIN
      clear hk hz hb hst hrow
      have harm : ∀ (w' : World), Calls Try.prog 14 #[.agg #[.int .u8 p, .int .u8 q, .int .u8 r, .int .u8 s], .agg #[.int .u8 y.1.1, .int .u8 y.1.2.1, .int .u8 y.1.2.2.1, .int .u8 y.1.2.2.2.1, .int .i64 y.1.2.2.2.2]] w' fun e w'' => e = .returned (.bool IN) ∧ Below w'.heap.size w' w'' := fun w' => by
        have := rin_any p q r s y.1.1 y.1.2.1 y.1.2.2.1 y.1.2.2.2.1 y.1.2.2.2.2 w' hp hokN
        rw [show inB p q r s y.1.1 y.1.2.1 y.1.2.2.1 y.1.2.2.2.1 y.1.2.2.2.2 = IN from hIN.out] at this
        exact this
      replace harm := Lib.hid harm
      have hn1 : w.heap.size ≠ w.heap.size + 1 + 1 := by omega
      have hn3 : w.heap.size + 1 ≠ w.heap.size + 1 + 1 := by omega
      have hn4 : w.heap.size ≤ w.heap.size + 1 + 1 := by omega
      replace hn1 := Lib.hid hn1
      replace hn3 := Lib.hid hn3
      replace hn4 := Lib.hid hn4
      by_cases hu : (IN && (!F || G)) = true
      · rw [if_pos hu] at hst2
        replace hst2 := Lib.hid hst2
        cases IN <;> cases F <;> cases G <;> first | (exact absurd hu (by decide)) | (
          clear hu
          go_wp2_with (go_at_call 14; (with_reducible refine (harm.out _).mono ?_); rintro e w6 ⟨rfl, hB6⟩; have hk2 := bk_below hB6 hk1.out; have hz2 := bk_below hB6 hz1.out; have hb2 := bk_below hB6 hb1.out; have hn2 := bk_below hB6 hny.out; have hB2 := bl_then hB1.out hB6; obtain ⟨x0, x1, x2, x3, x4, x5, xf0, xf1, xf2, xf3, xf4, xf5⟩ := hold6 hb2; obtain ⟨y0, y1, y2, y3, y4, y5, yf0, yf1, yf2, yf3, yf4, yf5⟩ := hold6 hn2; replace hk2 := Lib.hid hk2; replace hz2 := Lib.hid hz2; replace hb2 := Lib.hid hb2; replace hn2 := Lib.hid hn2; replace hB2 := Lib.hid hB2)
          exact ⟨⟨i + 1, some y, by first | rfl | (congr 1; omega), rfl, by omega, hst2.out.symm, bk_far6 hk2.out hn1.out, bk_far6 hz2.out hn3.out, bk_set6 hb2.out, bl_set6 hB2.out hn4.out⟩, by simp [intOf]; omega⟩)
      · rw [if_neg hu] at hst2
        replace hst2 := Lib.hid hst2
        cases IN <;> cases F <;> cases G <;> first | (exact absurd (by decide) hu) | (
          clear hu
          go_wp2_with (go_at_call 14; (with_reducible refine (harm.out _).mono ?_); rintro e w6 ⟨rfl, hB6⟩; have hk2 := bk_below hB6 hk1.out; have hz2 := bk_below hB6 hz1.out; have hb2 := bk_below hB6 hb1.out; have hn2 := bk_below hB6 hny.out; have hB2 := bl_then hB1.out hB6; obtain ⟨x0, x1, x2, x3, x4, x5, xf0, xf1, xf2, xf3, xf4, xf5⟩ := hold6 hb2; obtain ⟨y0, y1, y2, y3, y4, y5, yf0, yf1, yf2, yf3, yf4, yf5⟩ := hold6 hn2; replace hk2 := Lib.hid hk2; replace hz2 := Lib.hid hz2; replace hb2 := Lib.hid hb2; replace hn2 := Lib.hid hn2; replace hB2 := Lib.hid hB2)
          exact ⟨⟨i + 1, o, by first | rfl | (congr 1; omega), by rw [hF.out], by omega, hst2.out.symm, hk2.out, hz2.out, by rw [hO.out]; exact hb2.out, hB2.out⟩, by simp [intOf]; omega⟩)
    · have hil2 : decide ((i : Int) < (N : Int)) = false := decide_eq_false (by omega)
      obtain rfl : i = N := by omega
      have ho2 : o = findD p q r s dl := by rw [ho.out, ← hN.out, List.take_length]
      obtain ⟨x0, x1, x2, x3, x4, x5, xf0, xf1, xf2, xf3, xf4, xf5⟩ := hold6 hb
      obtain ⟨y0, y1, y2, y3, y4, y5, yf0, yf1, yf2, yf3, yf4, yf5⟩ := hold6 hz
      replace ho2 := Lib.hid ho2
      replace hO := Lib.hid hO
      replace hF := Lib.hid hF
      replace hb := Lib.hid hb
      replace hz := Lib.hid hz
      replace hBw := Lib.hid hBw
      go_wp2
      refine bodyPost_ret (res_rfind (bk_set6 hz.out) _ rfl rfl) rfl ⟨o, ho2.out, by rw [hO.out, hF.out]; rfl, bl_set6 hBw.out (by omega)⟩
end Go.Proofs.Ytebeknnjjoobnaa
