/- The walk of RouteRuns. -/
import Derived.Test.YtebeknnjjoobnaaRouteJ
import Derived.Test.YtebeknnjjoobnaaRouteZ
import Derived.Deep.CutBlock
import Derived.Deep.CutRange
set_option linter.unusedVariables false
set_option linter.unusedSimpArgs false
set_option maxRecDepth 100000
namespace Go.Proofs.Ytebeknnjjoobnaa
open Go.RowKit Go.Proofs.YtebeknnjjoobnaaW.PrintWords
attribute [local go_sem] max2_int min2_int max_two min_two
attribute [local go_sem ↓] eql_nt neq_nt eql_ad net_addr net_bits eql_rt neq_rt

/-- Something done: Kind, Who, Net, Addr. -/
abbrev ActT := Int × Int × Nt × Ad
def zeroAct : ActT := (0, 0, (0, 0, 0, 0, 0), (0, 0, 0, 0))
def actRow (x : ActT) : List Value := [.int .i64 x.1, .int .i64 x.2.1, .int .u8 x.2.2.1.1, .int .u8 x.2.2.1.2.1, .int .u8 x.2.2.1.2.2.1, .int .u8 x.2.2.1.2.2.2.1, .int .i64 x.2.2.1.2.2.2.2, .int .u8 x.2.2.2.1, .int .u8 x.2.2.2.2.1, .int .u8 x.2.2.2.2.2.1, .int .u8 x.2.2.2.2.2.2]
def ActOk (x : ActT) : Prop := (-9223372036854775808 ≤ x.1 ∧ x.1 ≤ 9223372036854775807) ∧ (-9223372036854775808 ≤ x.2.1 ∧ x.2.1 ≤ 9223372036854775807) ∧ NtOk x.2.2.1.1 x.2.2.1.2.1 x.2.2.1.2.2.1 x.2.2.1.2.2.2.1 x.2.2.1.2.2.2.2 ∧ AdOk x.2.2.2.1 x.2.2.2.2.1 x.2.2.2.2.2.1 x.2.2.2.2.2.2
def ActsAt (w : World) (A : Option Addr) (l : List ActT) : Prop := ∀ i, i < l.length → ActOk (l.getD i zeroAct) ∧ ∃ x, A = some x ∧ RowAt w (x.add (i * 11)) (actRow (l.getD i zeroAct))
theorem acts_of {w : World} {A : Option Addr} {len cap : Nat} (h : IsFlat [.i .i64, .i .i64, .i .u8, .i .u8, .i .u8, .i .u8, .i .i64, .i .u8, .i .u8, .i .u8, .i .u8] w A len cap) : ∃ l : List ActT, len = l.length ∧ ActsAt w A l := by
  obtain ⟨l, hl, hp⟩ := list_choose zeroAct (fun i x => ActOk x ∧ ∃ ad, A = some ad ∧ RowAt w (ad.add (i * 11)) (actRow x)) len fun i hi => by
    obtain ⟨x, vs, rfl, hf, hr⟩ := flat_row h hi
    obtain ⟨n0, us, rfl, w0, hf⟩ := ff_i hf
    obtain ⟨n1, us, rfl, w1, hf⟩ := ff_i hf
    obtain ⟨n2, us, rfl, w2, hf⟩ := ff_i hf
    obtain ⟨n3, us, rfl, w3, hf⟩ := ff_i hf
    obtain ⟨n4, us, rfl, w4, hf⟩ := ff_i hf
    obtain ⟨n5, us, rfl, w5, hf⟩ := ff_i hf
    obtain ⟨n6, us, rfl, w6, hf⟩ := ff_i hf
    obtain ⟨n7, us, rfl, w7, hf⟩ := ff_i hf
    obtain ⟨n8, us, rfl, w8, hf⟩ := ff_i hf
    obtain ⟨n9, us, rfl, w9, hf⟩ := ff_i hf
    obtain ⟨n10, us, rfl, w10, hf⟩ := ff_i hf
    obtain rfl := ff_nil hf
    exact ⟨(n0, n1, (n2, n3, n4, n5, n6), (n7, n8, n9, n10)), ⟨bounds_i64 w0, bounds_i64 w1, ⟨⟨bounds_u8 w2, bounds_u8 w3, bounds_u8 w4, bounds_u8 w5⟩, bounds_i64 w6⟩, bounds_u8 w7, bounds_u8 w8, bounds_u8 w9, bounds_u8 w10⟩, x, rfl, hr⟩
  exact ⟨l, hl.symm, fun i hi => hp i (by omega)⟩
theorem act_cellsAt {w : World} {a : Addr} {x : ActT} (h : RowAt w a (actRow x)) :
    w.cell? a = some (.int .i64 x.1) ∧ w.cell? ⟨a.block, a.off + 1, none⟩ = some (.int .i64 x.2.1) ∧ w.cell? ⟨a.block, a.off + 2, none⟩ = some (.int .u8 x.2.2.1.1) ∧ w.cell? ⟨a.block, a.off + 3, none⟩ = some (.int .u8 x.2.2.1.2.1) ∧ w.cell? ⟨a.block, a.off + 4, none⟩ = some (.int .u8 x.2.2.1.2.2.1) ∧ w.cell? ⟨a.block, a.off + 5, none⟩ = some (.int .u8 x.2.2.1.2.2.2.1) ∧ w.cell? ⟨a.block, a.off + 6, none⟩ = some (.int .i64 x.2.2.1.2.2.2.2) ∧ w.cell? ⟨a.block, a.off + 7, none⟩ = some (.int .u8 x.2.2.2.1) ∧ w.cell? ⟨a.block, a.off + 8, none⟩ = some (.int .u8 x.2.2.2.2.1) ∧ w.cell? ⟨a.block, a.off + 9, none⟩ = some (.int .u8 x.2.2.2.2.2.1) ∧ w.cell? ⟨a.block, a.off + 10, none⟩ = some (.int .u8 x.2.2.2.2.2.2) :=
  ⟨h.head, h.at_ 1 _ rfl (by decide), h.at_ 2 _ rfl (by decide), h.at_ 3 _ rfl (by decide), h.at_ 4 _ rfl (by decide), h.at_ 5 _ rfl (by decide), h.at_ 6 _ rfl (by decide), h.at_ 7 _ rfl (by decide), h.at_ 8 _ rfl (by decide), h.at_ 9 _ rfl (by decide), h.at_ 10 _ rfl (by decide)⟩
theorem hold11 {w : World} {g : Nat} {v0 v1 v2 v3 v4 v5 v6 v7 v8 v9 v10 : Value} {t : TypeId} (h : Bk w g #[v0, v1, v2, v3, v4, v5, v6, v7, v8, v9, v10] t) :
    w.cell? ⟨g, 0, none⟩ = some v0 ∧ w.cell? ⟨g, 1, none⟩ = some v1 ∧ w.cell? ⟨g, 2, none⟩ = some v2 ∧ w.cell? ⟨g, 3, none⟩ = some v3 ∧ w.cell? ⟨g, 4, none⟩ = some v4 ∧ w.cell? ⟨g, 5, none⟩ = some v5 ∧ w.cell? ⟨g, 6, none⟩ = some v6 ∧ w.cell? ⟨g, 7, none⟩ = some v7 ∧ w.cell? ⟨g, 8, none⟩ = some v8 ∧ w.cell? ⟨g, 9, none⟩ = some v9 ∧ w.cell? ⟨g, 10, none⟩ = some v10 :=
  ⟨(bk_cell h 0).trans rfl, (bk_cell h 1).trans rfl, (bk_cell h 2).trans rfl, (bk_cell h 3).trans rfl, (bk_cell h 4).trans rfl, (bk_cell h 5).trans rfl, (bk_cell h 6).trans rfl, (bk_cell h 7).trans rfl, (bk_cell h 8).trans rfl, (bk_cell h 9).trans rfl, (bk_cell h 10).trans rfl⟩
abbrev ActBk (w : World) (g : Nat) (x : ActT) : Prop := Bk w g #[.int .i64 x.1, .int .i64 x.2.1, .int .u8 x.2.2.1.1, .int .u8 x.2.2.1.2.1, .int .u8 x.2.2.1.2.2.1, .int .u8 x.2.2.1.2.2.2.1, .int .i64 x.2.2.1.2.2.2.2, .int .u8 x.2.2.2.1, .int .u8 x.2.2.2.2.1, .int .u8 x.2.2.2.2.2.1, .int .u8 x.2.2.2.2.2.2] 47
theorem agree_nil : Agree [] [] := ⟨List.Pairwise.nil, fun _ => Iff.rfl, fun p hp => absurd hp (by simp), fun p hp => absurd hp (by simp)⟩
theorem rfind_at (A : Option Addr) (l dl : List Rt) (cap : Nat) (w : World) (hr : RtAt w A dl) (h : Agree l dl) (hn : (l.map Prod.fst).Nodup) (hl : dl.length ≤ 1000) (p q r s : Int) (hp : AdOk p q r s) :
    Calls Try.prog 20 #[.slice A dl.length cap, .agg #[.int .u8 p, .int .u8 q, .int .u8 r, .int .u8 s]] w fun e w' => e = .returned (.tuple #[.agg #[.int .u8 (fR l p q r s).1.1, .int .u8 (fR l p q r s).1.2.1, .int .u8 (fR l p q r s).1.2.2.1, .int .u8 (fR l p q r s).1.2.2.2.1, .int .i64 (fR l p q r s).1.2.2.2.2, .int .i64 (fR l p q r s).2], .bool (findL l p q r s).isSome]) ∧ Below w.heap.size w w' :=
  (rfind_any A dl cap w hr h.okd hl p q r s hp).mono fun e w' ⟨o, ho, he, hB⟩ => by
    rw [find_same h hn] at ho
    subst ho
    exact ⟨he, hB⟩
theorem setE_okd {l d : List Rt} (h : Agree l d) (hn : (l.map Prod.fst).Nodup) (x : Nt) (who : Int) : (if okD d x who then (0 : Int) else 61) = setE l x who := by
  rw [h.okset hn]; rfl
theorem mdel_keys {l : Routes} (x : Nt) : (mdel l x).length ≤ l.length := List.length_filter_le _ _
theorem getD_mem {α : Type} (l : List α) (j : Nat) (z : α) (h : j < l.length) : l.getD j z ∈ l := by
  rw [List.getD_eq_getElem?_getD, List.getElem?_eq_getElem h]
  exact List.getElem_mem h
theorem rset_at (A : Option Addr) (dl d' : List Rt) (cap : Nat) (w : World) (hr : RtAt w A dl) (hro : ∀ x ∈ dl, RtOk x) (hl : dl.length ≤ 900) (a b c d n who E : Int) (hone : NtOk a b c d n) (hd : setD dl (a, b, c, d, n) who = d') (hE : (if okD dl (a, b, c, d, n) who then (0 : Int) else 61) = E) :
    Calls Try.prog 18 #[.slice A dl.length cap, .agg #[.int .u8 a, .int .u8 b, .int .u8 c, .int .u8 d, .int .i64 n], .int .i64 who] w fun e w' => ∃ B c, e = .returned (.tuple #[.slice B d'.length c, .int .i64 E]) ∧ RtAt w' B d' ∧ Below w.heap.size w w' :=
  (rset_any A dl cap w hr hro hl a b c d n who hone).mono fun e w' ⟨B, c, he, h1, h2⟩ => by
    rw [hd] at he h1
    rw [hE] at he
    exact ⟨B, c, he, h1, h2⟩
theorem rdel_at (A : Option Addr) (dl d' : List Rt) (cap : Nat) (w : World) (hr : RtAt w A dl) (hro : ∀ x ∈ dl, RtOk x) (hl : dl.length ≤ 1000 - 1) (a b c d n : Int) (E : Bool) (hone : NtOk a b c d n) (hd : mdel dl (a, b, c, d, n) = d') (hE : decide ((mdel dl (a, b, c, d, n)).length < dl.length) = E) :
    Calls Try.prog 19 #[.slice A dl.length cap, .agg #[.int .u8 a, .int .u8 b, .int .u8 c, .int .u8 d, .int .i64 n]] w fun e w' => ∃ B c, e = .returned (.tuple #[.slice B d'.length c, .bool E]) ∧ RtAt w' B d' ∧ Below w.heap.size w w' :=
  (rdel_any A dl cap w hr hro hl a b c d n hone).mono fun e w' ⟨B, c, he, h1, _, _, h2⟩ => by
    rw [hE, hd] at he
    rw [hd] at h1
    exact ⟨B, c, he, h1, h2⟩
theorem del_at {w : World} {g t : Nat} {l l' : Routes} (h : Tb w g t l) {a b c d n : Int} {E : Bool} (hok : NtOk a b c d n) (hl : mdel l (a, b, c, d, n) = l') (hE : (mget l (a, b, c, d, n)).isSome = E) :
    Calls Try.prog 17 #[.pointer (some ⟨g, 0, none⟩), .agg #[.int .u8 a, .int .u8 b, .int .u8 c, .int .u8 d, .int .i64 n]] w fun e w' => e = .returned (.bool E) ∧ Tb w' g t l' ∧ Kept (· = t) w w' :=
  (tdel_any h a b c d n hok).mono fun e w' ⟨h1, h2, h3⟩ => ⟨by rw [h1, hE], by rw [← hl]; exact h2, h3⟩
theorem setL_le (l : Routes) (x : Nt) (who : Int) : (setL l x who).length ≤ l.length + 1 := by
  unfold setL
  split
  · rw [mput_len]; split <;> omega
  · omega
theorem same_at (A B : Option Addr) (c d : Nat) (ps qs : List Rt) (w : World) (he : ps = qs) (hp : RtAt w A ps) (hq : RtAt w B qs) (hqo : ∀ x ∈ qs, RtOk x) (hm : qs.length ≤ 1000) :
    Calls Try.prog 15 #[.slice A ps.length c, .slice B qs.length d] w fun e w' => e = .returned (.bool true) ∧ Below w.heap.size w w' := by
  have h := same_any A B c d ps qs w hp hq (by rw [he]; exact hqo) hqo (by rw [he]; exact hm)
  rw [decide_eq_true he] at h
  exact h
theorem tlist_at {w : World} {g b : Nat} {l d : List Rt} (h : Tb w g b l) (hA : Agree l d) (hl : l.length ≤ 1000) : Calls Try.prog 16 #[.pointer (some ⟨g, 0, none⟩)] w fun e w' => ∃ (A : Option Addr) (c : Nat), e = .returned (.slice A d.length c) ∧ RtAt w' A d ∧ Below w.heap.size w w' :=
  (tlist_any h (fun x hx => (hA.ok x hx).1) hl).mono fun e w' ⟨A, c, d', he, h1, h2, h3, h4⟩ => by
    obtain rfl : d' = d := ordered_eq d' d h2 hA.ord (fun z => by rw [h3.mem_iff, hA.mem])
    exact ⟨A, c, he, h1, h4⟩
set_option maxHeartbeats 6400000 in
theorem runs_any (A0 : Option Addr) (acts : List ActT) (cap0 : Nat) {w : World} (hacts : ActsAt w A0 acts) (h200 : acts.length ≤ 200) :
    Calls Try.prog 7 #[.slice A0 acts.length cap0] w fun e w' => e = .returned (.bool true) ∧ Below w.heap.size w w' := by
  replace hacts := Lib.hid hacts
  obtain ⟨N, hN⟩ : ∃ N, acts.length = N := ⟨_, rfl⟩
  rw [hN] at h200 ⊢
  replace hN := Lib.hid hN
  have q2 : decide ((200 : Int) < (N : Int)) = false := decide_eq_false (by omega)
  go_enter Try.func7, Try.ntmps7
  go_wp2_with (fail)
  refine (routeAlive_any _).mono ?_; rintro e w1 ⟨rfl, hB1⟩
  go_wp2_with (fail)
  refine (tnew_any _).mono ?_; rintro e w2 ⟨g0, b0, rfl, k1, hg0, hb0, hB2⟩
  have hT0 := k1.alloc (.cells #[] 35)
  have hBw := bl_alloc (bl_then hB1 hB2) (.cells #[] 35)
  have hgw0 : w.heap.size ≤ g0 := by have := hB1.size; omega
  have hbw0 : w.heap.size ≤ b0 := by have := hB1.size; omega
  clear k1 hg0 hb0 hB1 hB2
  replace hT0 := Lib.hid hT0
  replace hBw := Lib.hid hBw
  go_wp2_with (fail)
  go_loopw [3, 4, 27] (fun v3 v4 v27 wr => ∃ (i g b c : Nat) (l d : List Rt) (A : Option Addr), v27 = .int .i64 i ∧ v3 = .pointer (some ⟨g, 0, none⟩) ∧ v4 = .slice A d.length c ∧ i ≤ N ∧ l.length ≤ i ∧ w.heap.size ≤ g ∧ w.heap.size ≤ b ∧ Tb wr g b l ∧ RtAt wr A d ∧ Agree l d ∧ Below w.heap.size w wr) (fun _ _ v _ => N - (intOf v).toNat)
  case atStart => exact ⟨0, g0, b0, 0, [], [], _, rfl, rfl, rfl, Nat.zero_le _, Nat.le_refl _, hgw0, hbw0, hT0.out, rt_nil _ _ [] rfl, agree_nil, hBw.out⟩
  case round =>
    obtain ⟨i, g, b, c, l, d, A, rfl, rfl, rfl, hi, hll, hgw, hbw, hT, hr, hA, hBr⟩ := hrel
    by_cases hil : i < N
    · have hil2 : decide ((i : Int) < (N : Int)) = true := decide_eq_true (by omega)
      obtain ⟨hok, ad, rfl, hrow⟩ := hacts.out i (by rw [hN.out]; exact hil)
      obtain ⟨x, hx⟩ : ∃ x, acts.getD i zeroAct = x := ⟨_, rfl⟩
      rw [hx] at hok hrow
      obtain ⟨_, hwho, hnet, hadr⟩ := hok
      obtain ⟨c0, c1, c2, c3, c4, c5, c6, c7, c8, c9, c10⟩ := act_cellsAt (hrow.far hBr)
      have hTa := hT.alloc (.cells #[.int .i64 x.1, .int .i64 x.2.1, .int .u8 x.2.2.1.1, .int .u8 x.2.2.1.2.1, .int .u8 x.2.2.1.2.2.1, .int .u8 x.2.2.1.2.2.2.1, .int .i64 x.2.2.1.2.2.2.2, .int .u8 x.2.2.2.1, .int .u8 x.2.2.2.2.1, .int .u8 x.2.2.2.2.2.1, .int .u8 x.2.2.2.2.2.2] 47)
      have hra := hr.below (bl_alloc (Below.refl _ wr) (.cells #[.int .i64 x.1, .int .i64 x.2.1, .int .u8 x.2.2.1.1, .int .u8 x.2.2.1.2.1, .int .u8 x.2.2.1.2.2.1, .int .u8 x.2.2.1.2.2.2.1, .int .i64 x.2.2.1.2.2.2.2, .int .u8 x.2.2.2.1, .int .u8 x.2.2.2.2.1, .int .u8 x.2.2.2.2.2.1, .int .u8 x.2.2.2.2.2.2] 47))
      have hBa := bl_alloc hBr (.cells #[.int .i64 x.1, .int .i64 x.2.1, .int .u8 x.2.2.1.1, .int .u8 x.2.2.1.2.1, .int .u8 x.2.2.1.2.2.1, .int .u8 x.2.2.1.2.2.2.1, .int .i64 x.2.2.1.2.2.2.2, .int .u8 x.2.2.2.1, .int .u8 x.2.2.2.2.1, .int .u8 x.2.2.2.2.2.1, .int .u8 x.2.2.2.2.2.2] 47)
      have hxb : ActBk (wr.alloc (.cells #[.int .i64 x.1, .int .i64 x.2.1, .int .u8 x.2.2.1.1, .int .u8 x.2.2.1.2.1, .int .u8 x.2.2.1.2.2.1, .int .u8 x.2.2.1.2.2.2.1, .int .i64 x.2.2.1.2.2.2.2, .int .u8 x.2.2.2.1, .int .u8 x.2.2.2.2.1, .int .u8 x.2.2.2.2.2.1, .int .u8 x.2.2.2.2.2.2] 47)) wr.heap.size x := bk_new wr _ _
      have hnb : wr.heap.size ≠ b := by have := Mp.lt hT.2; omega
      replace hTa := Lib.hid hTa
      replace hra := Lib.hid hra
      replace hBa := Lib.hid hBa
      replace hA := Lib.hid hA
      clear hT hr hBr hrow hx
      obtain ⟨z0, z1, z2, z3, z4, z5, z6, z7, z8, z9, z10⟩ := hold11 hxb
      go_upto_block 2 with (fail)
      go_cut [3, 4] from 28 to 122 (fun v3 v4 wx => ∃ (g b c : Nat) (l d : List Rt) (A : Option Addr), v3 = .pointer (some ⟨g, 0, none⟩) ∧ v4 = .slice A d.length c ∧ l.length ≤ i + 1 ∧ w.heap.size ≤ g ∧ w.heap.size ≤ b ∧ Tb wx g b l ∧ RtAt wx A d ∧ Agree l d ∧ Below w.heap.size w wx)
      case first =>
        by_cases hk0 : x.1 = 0
        · have e0 : (x.1 == 0) = true := by simp [hk0]
          replace hk0 := Lib.hid hk0
          have hn := Mp.nodup hTa.out.2
          have hLe := setL_le l (x.2.2.1.1, x.2.2.1.2.1, x.2.2.1.2.2.1, x.2.2.1.2.2.2.1, x.2.2.1.2.2.2.2) x.2.1
          have hlen := hA.out.len hn
          obtain ⟨l', hl'⟩ : ∃ l', setL l (x.2.2.1.1, x.2.2.1.2.1, x.2.2.1.2.2.1, x.2.2.1.2.2.2.1, x.2.2.1.2.2.2.2) x.2.1 = l' := ⟨_, rfl⟩
          obtain ⟨d', hd'⟩ : ∃ d', setD d (x.2.2.1.1, x.2.2.1.2.1, x.2.2.1.2.2.1, x.2.2.1.2.2.2.1, x.2.2.1.2.2.2.2) x.2.1 = d' := ⟨_, rfl⟩
          obtain ⟨E, hE⟩ : ∃ E, setE l (x.2.2.1.1, x.2.2.1.2.1, x.2.2.1.2.2.1, x.2.2.1.2.2.2.1, x.2.2.1.2.2.2.2) x.2.1 = E := ⟨_, rfl⟩
          have hEd := (setE_okd hA.out hn (x.2.2.1.1, x.2.2.1.2.1, x.2.2.1.2.2.1, x.2.2.1.2.2.2.1, x.2.2.1.2.2.2.2) x.2.1).trans hE
          rw [hl'] at hLe
          have hd9 : d.length ≤ 900 := by omega
          have hl9 : l'.length ≤ i + 1 := by omega
          replace hl' := Lib.hid hl'
          replace hd' := Lib.hid hd'
          replace hE := Lib.hid hE
          replace hEd := Lib.hid hEd
          replace hn := Lib.hid hn
          replace hwho := Lib.hid hwho
          clear hLe hlen
          go_wp2_with (fail)
          refine (rset_at A d d' c _ hra.out hA.out.okd hd9 x.2.2.1.1 x.2.2.1.2.1 x.2.2.1.2.2.1 x.2.2.1.2.2.2.1 x.2.2.1.2.2.2.2 x.2.1 E hnet hd'.out hEd.out).mono ?_; rintro e wa ⟨B, cB, rfl, hrB, hB1⟩
          have hTb := hTa.out.below hB1
          have hBb := bl_then hBa.out hB1
          clear z0 z1 z2 z3 z4 z5 z6 z7 z8 z9 z10
          obtain ⟨z0, z1, z2, z3, z4, z5, z6, z7, z8, z9, z10⟩ := hold11 (bk_below hB1 hxb)
          replace hTb := Lib.hid hTb
          replace hrB := Lib.hid hrB
          clear hTa hra hBa hB1
          go_wp2_with (fail)
          refine (set_at hTb.out hnet ⟨hl'.out, hE.out⟩).mono ?_; rintro e wb ⟨rfl, hTc, hK9⟩
          have hrC := hrB.out.kept hK9 (tb_map hTb.out)
          have hBc := Kept.bl hBb hK9 (fun j e => by subst e; exact hbw)
          have hAc : Agree l' d' := by
            have h1 := hA.out.set hn.out (x.2.2.1.1, x.2.2.1.2.1, x.2.2.1.2.2.1, x.2.2.1.2.2.2.1, x.2.2.1.2.2.2.2) x.2.1 hnet hwho.out (by rw [hl'.out]; exact Mp.nodup hTc.2)
            rw [hl'.out, hd'.out] at h1
            exact h1
          replace hTc := Lib.hid hTc
          replace hrC := Lib.hid hrC
          replace hBc := Lib.hid hBc
          replace hAc := Lib.hid hAc
          clear hTb hrB hK9 hBb z0 z1 z2 z3 z4 z5 z6 z7 z8 z9 z10
          go_wp2_with (fail)
          go_meet
          exact ⟨g, b, cB, l', d', B, rfl, rfl, hl9, hgw, hbw, hTc.out, hrC.out, hAc.out, hBc.out⟩
        by_cases hk1 : x.1 = 1
        · have e0 : (x.1 == 0) = false := by simp [hk1]
          have e1 : (x.1 == 1) = true := by simp [hk1]
          replace hk0 := Lib.hid hk0
          replace hk1 := Lib.hid hk1
          have hlen := hA.out.len (Mp.nodup hTa.out.2)
          have hLe := mdel_keys (l := l) (x.2.2.1.1, x.2.2.1.2.1, x.2.2.1.2.2.1, x.2.2.1.2.2.2.1, x.2.2.1.2.2.2.2)
          obtain ⟨l', hl'⟩ : ∃ l', mdel l (x.2.2.1.1, x.2.2.1.2.1, x.2.2.1.2.2.1, x.2.2.1.2.2.2.1, x.2.2.1.2.2.2.2) = l' := ⟨_, rfl⟩
          obtain ⟨d', hd'⟩ : ∃ d', mdel d (x.2.2.1.1, x.2.2.1.2.1, x.2.2.1.2.2.1, x.2.2.1.2.2.2.1, x.2.2.1.2.2.2.2) = d' := ⟨_, rfl⟩
          obtain ⟨E, hE⟩ : ∃ E, (mget l (x.2.2.1.1, x.2.2.1.2.1, x.2.2.1.2.2.1, x.2.2.1.2.2.2.1, x.2.2.1.2.2.2.2)).isSome = E := ⟨_, rfl⟩
          have hEd := (del_less hA.out (x.2.2.1.1, x.2.2.1.2.1, x.2.2.1.2.2.1, x.2.2.1.2.2.2.1, x.2.2.1.2.2.2.2)).trans hE
          have hAc := hA.out.del (x.2.2.1.1, x.2.2.1.2.1, x.2.2.1.2.2.1, x.2.2.1.2.2.2.1, x.2.2.1.2.2.2.2)
          rw [hl', hd'] at hAc
          rw [hl'] at hLe
          have hd9 : d.length ≤ 1000 - 1 := by omega
          have hl9 : l'.length ≤ i + 1 := by omega
          replace hl' := Lib.hid hl'
          replace hd' := Lib.hid hd'
          replace hE := Lib.hid hE
          replace hEd := Lib.hid hEd
          replace hAc := Lib.hid hAc
          clear hLe hlen
          go_wp2_with (fail)
          refine (rdel_at A d d' c _ hra.out hA.out.okd hd9 x.2.2.1.1 x.2.2.1.2.1 x.2.2.1.2.2.1 x.2.2.1.2.2.2.1 x.2.2.1.2.2.2.2 E hnet hd'.out hEd.out).mono ?_; rintro e wa ⟨B, cB, rfl, hrB, hB1⟩
          have hTb := hTa.out.below hB1
          have hBb := bl_then hBa.out hB1
          clear z0 z1 z2 z3 z4 z5 z6 z7 z8 z9 z10
          obtain ⟨z0, z1, z2, z3, z4, z5, z6, z7, z8, z9, z10⟩ := hold11 (bk_below hB1 hxb)
          replace hTb := Lib.hid hTb
          replace hrB := Lib.hid hrB
          clear hTa hra hBa hB1
          go_wp2_with (fail)
          refine (del_at hTb.out hnet hl'.out hE.out).mono ?_; rintro e wb ⟨rfl, hTc, hK9⟩
          have hrC := hrB.out.kept hK9 (tb_map hTb.out)
          have hBc := Kept.bl hBb hK9 (fun j e => by subst e; exact hbw)
          replace hTc := Lib.hid hTc
          replace hrC := Lib.hid hrC
          replace hBc := Lib.hid hBc
          clear hTb hrB hK9 hBb z0 z1 z2 z3 z4 z5 z6 z7 z8 z9 z10
          go_wp2_with (fail)
          go_meet
          exact ⟨g, b, cB, l', d', B, rfl, rfl, hl9, hgw, hbw, hTc.out, hrC.out, hAc.out, hBc.out⟩
        by_cases hk2 : x.1 = 2
        · have e0 : (x.1 == 0) = false := by simp [hk2]
          have e1 : (x.1 == 1) = false := by simp [hk2]
          have e2 : (x.1 == 2) = true := by simp [hk2]
          replace hk0 := Lib.hid hk0
          replace hk1 := Lib.hid hk1
          replace hk2 := Lib.hid hk2
          have hn := Mp.nodup hTa.out.2
          have hlen := hA.out.len hn
          have hd9 : d.length ≤ 1000 := by omega
          have hfo := fR_ok hA.out.ok x.2.2.2.1 x.2.2.2.2.1 x.2.2.2.2.2.1 x.2.2.2.2.2.2
          have hf1 := fun (w' : World) (h : Tb w' g b l) => find_rt h hadr
          have hf2 := fun (w' : World) (h : RtAt w' A d) => rfind_at A l d c w' h hA.out hn hd9 x.2.2.2.1 x.2.2.2.2.1 x.2.2.2.2.2.1 x.2.2.2.2.2.2 hadr
          obtain ⟨R, hR⟩ : ∃ R, fR l x.2.2.2.1 x.2.2.2.2.1 x.2.2.2.2.2.1 x.2.2.2.2.2.2 = R := ⟨_, rfl⟩
          obtain ⟨F, hF⟩ : ∃ F, (findL l x.2.2.2.1 x.2.2.2.2.1 x.2.2.2.2.2.1 x.2.2.2.2.2.2).isSome = F := ⟨_, rfl⟩
          simp only [hR, hF] at hf1 hf2 hfo
          have hfo2 : RtOk ((R.1.1, R.1.2.1, R.1.2.2.1, R.1.2.2.2.1, R.1.2.2.2.2), R.2) := hfo
          have hself : eqR ((R.1.1, R.1.2.1, R.1.2.2.1, R.1.2.2.2.1, R.1.2.2.2.2), R.2) ((R.1.1, R.1.2.1, R.1.2.2.1, R.1.2.2.2.1, R.1.2.2.2.2), R.2) = true := eqR_iff.2 rfl
          replace hf1 := Lib.hid hf1
          replace hf2 := Lib.hid hf2
          clear hn hlen hd9 hfo hR hF
          go_wp2_with (fail)
          refine (hf1.out _ hTa.out).mono ?_; rintro e wa ⟨rfl, hB1⟩
          have hTb := (hTa.out.below hB1).alloc (.cells #[.int .u8 R.1.1, .int .u8 R.1.2.1, .int .u8 R.1.2.2.1, .int .u8 R.1.2.2.2.1, .int .i64 R.1.2.2.2.2, .int .i64 R.2] 35)
          have hBb := bl_alloc (bl_then hBa.out hB1) (.cells #[.int .u8 R.1.1, .int .u8 R.1.2.1, .int .u8 R.1.2.2.1, .int .u8 R.1.2.2.2.1, .int .i64 R.1.2.2.2.2, .int .i64 R.2] 35)
          have hrb := (hra.out.below hB1).below (bl_alloc (Below.refl _ wa) (.cells #[.int .u8 R.1.1, .int .u8 R.1.2.1, .int .u8 R.1.2.2.1, .int .u8 R.1.2.2.2.1, .int .i64 R.1.2.2.2.2, .int .i64 R.2] 35))
          have hxc := bk_alloc (bk_below hB1 hxb) (.cells #[.int .u8 R.1.1, .int .u8 R.1.2.1, .int .u8 R.1.2.2.1, .int .u8 R.1.2.2.2.1, .int .i64 R.1.2.2.2.2, .int .i64 R.2] 35)
          have hb1 := bk_new wa #[.int .u8 R.1.1, .int .u8 R.1.2.1, .int .u8 R.1.2.2.1, .int .u8 R.1.2.2.2.1, .int .i64 R.1.2.2.2.2, .int .i64 R.2] 35
          clear z0 z1 z2 z3 z4 z5 z6 z7 z8 z9 z10
          obtain ⟨z0, z1, z2, z3, z4, z5, z6, z7, z8, z9, z10⟩ := hold11 hxc
          replace hTb := Lib.hid hTb
          replace hrb := Lib.hid hrb
          replace hBb := Lib.hid hBb
          replace hb1 := Lib.hid hb1
          clear hTa hra hBa hB1 hxb hxc
          go_wp2_with (fail)
          refine (hf2.out _ hrb.out).mono ?_; rintro e wb ⟨rfl, hB2⟩
          have hTc := Lib.hid ((hTb.out.below hB2).alloc (.cells #[.int .u8 R.1.1, .int .u8 R.1.2.1, .int .u8 R.1.2.2.1, .int .u8 R.1.2.2.2.1, .int .i64 R.1.2.2.2.2, .int .i64 R.2] 35))
          have hBc := Lib.hid (bl_alloc (bl_then hBb.out hB2) (.cells #[.int .u8 R.1.1, .int .u8 R.1.2.1, .int .u8 R.1.2.2.1, .int .u8 R.1.2.2.2.1, .int .i64 R.1.2.2.2.2, .int .i64 R.2] 35))
          have hrc := Lib.hid ((hrb.out.below hB2).below (bl_alloc (Below.refl _ wb) (.cells #[.int .u8 R.1.1, .int .u8 R.1.2.1, .int .u8 R.1.2.2.1, .int .u8 R.1.2.2.2.1, .int .i64 R.1.2.2.2.2, .int .i64 R.2] 35)))
          obtain ⟨y0, y1, y2, y3, y4, y5, _⟩ := hold6 (bk_alloc (bk_below hB2 hb1.out) (.cells #[.int .u8 R.1.1, .int .u8 R.1.2.1, .int .u8 R.1.2.2.1, .int .u8 R.1.2.2.2.1, .int .i64 R.1.2.2.2.2, .int .i64 R.2] 35))
          obtain ⟨v0, v1, v2, v3, v4, v5, _⟩ := hold6 (bk_new wb #[.int .u8 R.1.1, .int .u8 R.1.2.1, .int .u8 R.1.2.2.1, .int .u8 R.1.2.2.2.1, .int .i64 R.1.2.2.2.2, .int .i64 R.2] 35)
          clear z0 z1 z2 z3 z4 z5 z6 z7 z8 z9 z10
          clear hTb hrb hBb hb1 hB2
          go_wp2_with (fail)
          go_meet
          exact ⟨g, b, c, l, d, A, rfl, rfl, by omega, hgw, hbw, hTc.out, hrc.out, hA.out, hBc.out⟩
        by_cases hk3 : x.1 = 3
        · have e0 : (x.1 == 0) = false := by simp [hk3]
          have e1 : (x.1 == 1) = false := by simp [hk3]
          have e2 : (x.1 == 2) = false := by simp [hk3]
          have e3 : (x.1 == 3) = true := by simp [hk3]
          replace hk0 := Lib.hid hk0
          replace hk1 := Lib.hid hk1
          replace hk2 := Lib.hid hk2
          replace hk3 := Lib.hid hk3
          have hn := Mp.nodup hTa.out.2
          have hlen := hA.out.len hn
          have hl9 : l.length ≤ 1000 := by omega
          have hl8 : l.length ≤ i + 1 := by omega
          clear hn hlen
          clear z0 z1 z2 z3 z4 z5 z6 z7 z8 z9 z10
          go_wp2_with (fail)
          refine (tclone_any hTa.out).mono ?_; rintro e wa ⟨g', b', rfl, hTn, hg', hb', hB1⟩
          have hTo := hTa.out.below hB1
          have hrb := hra.out.below hB1
          have hBb := bl_then hBa.out hB1
          have hgw' : w.heap.size ≤ g' := by have := hBa.out.size; omega
          have hbw' : w.heap.size ≤ b' := by have := hBa.out.size; omega
          have hgb1 : g' ≠ b := by have := Mp.lt hTa.out.2; omega
          have hbb1 : b' ≠ b := by have := Mp.lt hTa.out.2; omega
          clear hTa hra hBa hB1 hg' hb' hxb
          replace hTn := Lib.hid hTn
          replace hTo := Lib.hid hTo
          replace hrb := Lib.hid hrb
          replace hBb := Lib.hid hBb
          go_wp2_with (fail)
          refine (tlist_at hTo.out hA.out hl9).mono ?_; rintro e wb ⟨A2, c2, rfl, hr2, hB2⟩
          have hTo2 := hTo.out.below hB2
          have hTn2 := hTn.out.below hB2
          have hrc := hrb.out.below hB2
          have hBc := bl_then hBb.out hB2
          obtain ⟨D, hD⟩ : ∃ D, d.length = D := ⟨_, rfl⟩
          rw [hD]
          have hD9 : D ≤ 1000 := by rw [← hD, hA.out.len (Mp.nodup hTo2.2)]; exact hl9
          clear hTn hTo hrb hBb hB2
          replace hD := Lib.hid hD
          replace hTn2 := Lib.hid hTn2
          replace hTo2 := Lib.hid hTo2
          replace hr2 := Lib.hid hr2
          replace hrc := Lib.hid hrc
          replace hBc := Lib.hid hBc
          go_wp2_with (fail)
          go_loopw [101] (fun v wr => ∃ (j : Nat) (m : Routes), v = .int .i64 j ∧ j ≤ D ∧ Tb wr g b m ∧ Tb wr g' b' l ∧ RtAt wr A d ∧ RtAt wr A2 d ∧ Below w.heap.size w wr) (fun v _ => D - (intOf v).toNat)
          case atStart => exact ⟨0, l, rfl, Nat.zero_le _, hTo2.out, hTn2.out, hrc.out, hr2.out, hBc.out⟩
          case round =>
            obtain ⟨j, m, rfl, hj, hTm, hTn3, hrd, hr3, hBd⟩ := hrel
            by_cases hjl : j < D
            · have hjl2 : decide ((j : Int) < (D : Int)) = true := decide_eq_true (by omega)
              obtain ⟨ad2, rfl, hrow⟩ := hr3 j (by rw [hD.out]; exact hjl)
              have hyo := hA.out.okd (d.getD j zeroRt) (getD_mem d j zeroRt (by rw [hD.out]; exact hjl))
              obtain ⟨y, hy⟩ : ∃ y, d.getD j zeroRt = y := ⟨_, rfl⟩
              rw [hy] at hyo hrow
              obtain ⟨y0, y1, y2, y3, y4, y5⟩ := rt_cellsAt hrow
              have hyn : NtOk y.1.1 y.1.2.1 y.1.2.2.1 y.1.2.2.2.1 y.1.2.2.2.2 := hyo.1
              have hTm1 := hTm.alloc (.cells #[.int .u8 y.1.1, .int .u8 y.1.2.1, .int .u8 y.1.2.2.1, .int .u8 y.1.2.2.2.1, .int .i64 y.1.2.2.2.2, .int .i64 y.2] 35)
              have hTn4 := hTn3.alloc (.cells #[.int .u8 y.1.1, .int .u8 y.1.2.1, .int .u8 y.1.2.2.1, .int .u8 y.1.2.2.2.1, .int .i64 y.1.2.2.2.2, .int .i64 y.2] 35)
              have hrd4 := hrd.below (bl_alloc (Below.refl _ wr) (.cells #[.int .u8 y.1.1, .int .u8 y.1.2.1, .int .u8 y.1.2.2.1, .int .u8 y.1.2.2.2.1, .int .i64 y.1.2.2.2.2, .int .i64 y.2] 35))
              have hr4 := hr3.below (bl_alloc (Below.refl _ wr) (.cells #[.int .u8 y.1.1, .int .u8 y.1.2.1, .int .u8 y.1.2.2.1, .int .u8 y.1.2.2.2.1, .int .i64 y.1.2.2.2.2, .int .i64 y.2] 35))
              have hBd1 := bl_alloc hBd (.cells #[.int .u8 y.1.1, .int .u8 y.1.2.1, .int .u8 y.1.2.2.1, .int .u8 y.1.2.2.2.1, .int .i64 y.1.2.2.2.2, .int .i64 y.2] 35)
              obtain ⟨v0, v1, v2, v3, v4, v5, _⟩ := hold6 (bk_new wr #[.int .u8 y.1.1, .int .u8 y.1.2.1, .int .u8 y.1.2.2.1, .int .u8 y.1.2.2.2.1, .int .i64 y.1.2.2.2.2, .int .i64 y.2] 35)
              replace hTm1 := Lib.hid hTm1
              replace hTn4 := Lib.hid hTn4
              replace hrd4 := Lib.hid hrd4
              replace hr4 := Lib.hid hr4
              replace hBd1 := Lib.hid hBd1
              clear hTm hTn3 hrd hr3 hBd hrow hy hyo
              go_wp2_with (fail)
              refine (del_at hTm1.out hyn rfl rfl).mono ?_; rintro e wc ⟨rfl, hTm2, hK9⟩
              have hTn5 := Lib.hid (hTn4.out.kept hK9 hgb1 hbb1)
              have hrd5 := Lib.hid (hrd4.out.kept hK9 (tb_map hTm1.out))
              have hr5 := Lib.hid (hr4.out.kept hK9 (tb_map hTm1.out))
              have hBd2 := Lib.hid (Kept.bl hBd1.out hK9 (fun j e => by subst e; exact hbw))
              replace hTm2 := Lib.hid hTm2
              clear hTm1 hTn4 hrd4 hr4 hBd1 hK9 v0 v1 v2 v3 v4 v5 y0 y1 y2 y3 y4 y5
              go_wp2
              exact ⟨⟨j + 1, _, by first | rfl | (congr 1; omega), by omega, hTm2.out, hTn5.out, hrd5.out, hr5.out, hBd2.out⟩, by simp [intOf]; omega⟩
            · have hjl2 : decide ((j : Int) < (D : Int)) = false := decide_eq_false (by omega)
              replace hTm := Lib.hid hTm
              replace hTn3 := Lib.hid hTn3
              replace hrd := Lib.hid hrd
              replace hr3 := Lib.hid hr3
              replace hBd := Lib.hid hBd
              go_wp2_with (fail)
              go_meet
              exact ⟨g', b', c, l, d, A, rfl, by rw [hD.out], hl8, hgw', hbw', hTn3.out, hrd.out, hA.out, hBd.out⟩
        have e0 : (x.1 == 0) = false := by simpa using hk0
        have e1 : (x.1 == 1) = false := by simpa using hk1
        have e2 : (x.1 == 2) = false := by simpa using hk2
        have e3 : (x.1 == 3) = false := by simpa using hk3
        replace hk0 := Lib.hid hk0
        replace hk1 := Lib.hid hk1
        replace hk2 := Lib.hid hk2
        replace hk3 := Lib.hid hk3
        go_wp2_with (fail)
        go_meet
        exact ⟨g, b, c, l, d, A, rfl, rfl, by omega, hgw, hbw, hTa.out, hra.out, hA.out, hBa.out⟩
      case rest =>
        clear hTa hra hBa hA hgw hbw hxb hnb z0 z1 z2 z3 z4 z5 z6 z7 z8 z9 z10 c0 c1 c2 c3 c4 c5 c6 c7 c8 c9 c10 hwho hnet hadr hll
        obtain ⟨g, b, c, l, d, A, rfl, rfl, hll, hgw, hbw, hT, hr, hA, hBr⟩ := hcut
        have hn := Mp.nodup hT.2
        have hl9 := (hA.perm hn).length_eq
        obtain ⟨L, hL⟩ : ∃ L, l.length = L := ⟨_, rfl⟩
        have hD : d.length = L := by omega
        have hle9 : l.length ≤ 1000 := by omega
        have hle8 : d.length ≤ 1000 := by omega
        have hLi : L ≤ i + 1 := by omega
        clear hll hl9 hn
        replace hL := Lib.hid hL
        replace hD := Lib.hid hD
        replace hT := Lib.hid hT
        replace hr := Lib.hid hr
        replace hA := Lib.hid hA
        replace hBr := Lib.hid hBr
        replace hle9 := Lib.hid hle9
        replace hle8 := Lib.hid hle8
        rw [hD.out]
        go_wp2_with (fail)
        refine (tlen_any hT.out).mono ?_; rintro e w91 ⟨rfl, rfl⟩
        rw [hL.out]
        go_wp2_with (fail)
        refine (tlist_at hT.out hA.out hle9.out).mono ?_; rintro e w92 ⟨B9, c9, rfl, hr9, hB9⟩
        have hT92 := Lib.hid (hT.out.below hB9)
        have hr92 := Lib.hid (hr.out.below hB9)
        have hB92 := Lib.hid (bl_then hBr.out hB9)
        replace hr9 := Lib.hid hr9
        clear hT hr hBr hB9
        have hsame := same_at B9 A c9 c d d _ rfl hr9.out hr92.out hA.out.okd hle8.out
        rw [hD.out] at hsame ⊢
        replace hsame := Lib.hid hsame
        go_wp2_with (fail)
        refine hsame.out.mono ?_
        rintro e w93 ⟨rfl, hB93⟩
        have hT93 := Lib.hid (hT92.out.below hB93)
        have hr93 := Lib.hid (hr92.out.below hB93)
        have hB94 := Lib.hid (bl_then hB92.out hB93)
        clear hT92 hr92 hB92 hB93 hsame hr9
        go_wp2
        exact ⟨⟨i + 1, g, b, c, l, d, A, by first | rfl | (congr 1; omega), rfl, by rw [hD.out], by omega, by rw [hL.out]; exact hLi, hgw, hbw, hT93.out, hr93.out, hA.out, hB94.out⟩, by simp [intOf]; omega⟩
    · have hil2 : decide ((i : Int) < (N : Int)) = false := decide_eq_false (by omega)
      go_wp2
      go_ret
      exact ⟨rfl, hBr⟩
set_option maxHeartbeats 1600000 in
theorem routeRuns_walk (A : Option Addr) (len cap : Nat) {w : World} (hz : IsFlat [.i .i64, .i .i64, .i .u8, .i .u8, .i .u8, .i .u8, .i .i64, .i .u8, .i .u8, .i .u8, .i .u8] w A len cap) :
    Calls Try.prog 7 #[.slice A len cap] w fun e w' => e = .returned (.bool true) ∧ Below w.heap.size w w' := by
  have hlc : len ≤ cap := by rcases hz with ⟨_, rfl, h⟩ | ⟨x, rfl, hl, hm, hx⟩ <;> omega
  obtain ⟨ns, rfl, hns⟩ := acts_of hz
  clear hz
  by_cases h200 : 200 < ns.length
  · have q2 : decide ((200 : Int) < (ns.length : Int)) = true := decide_eq_true (by omega)
    replace hns := Lib.hid hns
    go_enter Try.func7, Try.ntmps7
    go_wp2_with (go_at_call 10; (with_reducible refine (routeAlive_any _).mono ?_); rintro e w0 ⟨rfl, hB1⟩)
    go_ret
    exact ⟨rfl, hB1⟩
  exact runs_any A ns cap hns (by omega)
end Go.Proofs.Ytebeknnjjoobnaa
