/- The walk of RouteBack. -/
import Derived.Test.YtebeknnjjoobnaaRouteO
import Derived.Test.YtebeknnjjoobnaaRouteD
set_option linter.unusedVariables false
set_option linter.unusedSimpArgs false
set_option maxRecDepth 100000
namespace Go.Proofs.Ytebeknnjjoobnaa
open Go.RowKit Go.Proofs.YtebeknnjjoobnaaW.PrintWords
attribute [local go_sem] max2_int min2_int max_two min_two
attribute [local go_sem ↓] eql_nt neq_nt eql_ad net_addr net_bits eql_rt neq_rt

theorem cl_ne_map {w : World} {a : Addr} {v : Value} {t : Nat} {es : Array MapEntry} {c : Nat} (h : w.cell? a = some v) (hb : w.heap[t]? = some (.map es c)) : a.block ≠ t := by
  intro e
  subst e
  unfold World.cell? at h
  rw [hb] at h
  simp at h
theorem RtAt.kept {w w1 : World} {A : Option Addr} {l : List Rt} {t : Nat} (h : RtAt w A l) (hk : Kept (· = t) w w1) (hm : ∃ es c, w.heap[t]? = some (.map es c)) : RtAt w1 A l := fun i hi => by
  obtain ⟨x, h2, h3⟩ := h i hi
  refine ⟨x, h2, fun j hj => ?_⟩
  have h1 := h3 j hj
  obtain ⟨es, c, hm⟩ := hm
  rw [List.getElem?_eq_getElem hj] at h1 ⊢
  rw [hk.cell (cl_lt h1) (cl_ne_map h1 hm)]
  exact h1
theorem tb_map {w : World} {g t : Nat} {l : Routes} (h : Tb w g t l) : ∃ es c, w.heap[t]? = some (.map es c) := by
  obtain ⟨_, hm⟩ := h
  obtain ⟨es, c, hb, _⟩ := hm
  exact ⟨es, c, hb⟩
theorem mdel_none {l : Routes} {x : Nt} (hx : mget l x = none) : mdel l x = l := by
  unfold mdel
  rw [List.filter_eq_self]
  intro p hp
  simpa using mget_none.1 hx p hp
theorem back_tables {l : Routes} {x : Nt} (hx : mget l x = none) (hl : l.length < 64) : mdel (setL l x 999) x = l ∧ ((mget (setL l x 999) x).isSome == (setE l x 999 == 0)) = true := by
  have hok : setOk l x 999 = rightT x := setOk_right l x 999 hl
  unfold setL setE
  rw [hok]
  cases hr : rightT x with
  | true =>
    rw [if_pos rfl, if_pos rfl]
    refine ⟨?_, ?_⟩
    · unfold mput
      rw [hx]
      simp only [Option.isSome_none, Bool.false_eq_true, if_false]
      have h1 := mdel_none hx
      unfold mdel at h1 ⊢
      rw [List.filter_append, h1]
      simp
    · rw [mget_put, if_pos rfl]
      rfl
  | false =>
    simp only [Bool.false_eq_true, if_false]
    refine ⟨mdel_none hx, ?_⟩
    rw [hx]
    rfl
theorem sets_miss {ns : List Nt} {x : Nt} (hl : ns.length ≤ 64) (h : ∀ j, j < ns.length → ns.getD j zeroN ≠ x) : mget (setsL ns ns.length) x = none := by
  cases hg : mget (setsL ns ns.length) x with
  | none => rfl
  | some v =>
    obtain ⟨j, _, h2, h3, _⟩ := sets_some ns x v ns.length hl hg
    exact absurd h3 (h j h2)
theorem setsL_ok {w : World} {A : Option Addr} {ns : List Nt} (hns : NtsAt w A ns) (hl : ns.length ≤ 60) (hn : ((setsL ns ns.length).map Prod.fst).Nodup) : ∀ p ∈ setsL ns ns.length, RtOk p := fun p hp => by
  obtain ⟨j, h1, h2, h3, _⟩ := sets_some ns p.1 p.2 ns.length (by omega) (mget_of_mem hn hp)
  have h4 := (hns j h2).1
  rw [h3] at h4
  exact ⟨h4, by omega, by omega⟩
def fR (l : Routes) (p q r s : Int) : Rt := (findL l p q r s).getD zeroRt
theorem find_rt {w : World} {g t : Nat} {l : Routes} (h : Tb w g t l) {p q r s : Int} (hp : AdOk p q r s) :
    Calls Try.prog 13 #[.pointer (some ⟨g, 0, none⟩), .agg #[.int .u8 p, .int .u8 q, .int .u8 r, .int .u8 s]] w fun e w' => e = .returned (.tuple #[.agg #[.int .u8 (fR l p q r s).1.1, .int .u8 (fR l p q r s).1.2.1, .int .u8 (fR l p q r s).1.2.2.1, .int .u8 (fR l p q r s).1.2.2.2.1, .int .i64 (fR l p q r s).1.2.2.2.2, .int .i64 (fR l p q r s).2], .bool (findL l p q r s).isSome]) ∧ Below w.heap.size w w' :=
  (tfind_any h p q r s hp).mono fun e w' ⟨h1, h2⟩ => ⟨by
    rw [h1]
    unfold fR
    cases findL l p q r s with
    | none => rfl
    | some y => rfl, h2⟩
theorem fR_ok {l : Routes} (h : ∀ p ∈ l, RtOk p) (p q r s : Int) : RtOk (fR l p q r s) := by
  unfold fR
  cases hf : findL l p q r s with
  | none => exact ⟨by show NtOkT zeroRt.1; unfold NtOkT NtOk AdOk zeroRt; simp, by show _ ≤ zeroRt.2; unfold zeroRt; omega, by show zeroRt.2 ≤ _; unfold zeroRt; omega⟩
  | some y =>
    obtain ⟨x, v⟩ := y
    obtain ⟨_, _, _, h3, _⟩ := find_some 32 hf
    exact h _ (mget_some_mem h3)
/-- A table and the two boxes beside it. -/
structure St (w : World) (g t bx : Nat) (l : Routes) (a b c d n p q r s : Int) : Prop where
  tb : Tb w g t l
  x : Bk w bx #[.int .u8 a, .int .u8 b, .int .u8 c, .int .u8 d, .int .i64 n] 29
  y : Bk w (bx + 1) #[.int .u8 p, .int .u8 q, .int .u8 r, .int .u8 s] 27
  n1 : bx ≠ t
  n2 : bx + 1 ≠ t
theorem St.below {w w' : World} {g t bx : Nat} {l : Routes} {a b c d n p q r s : Int} (h : St w g t bx l a b c d n p q r s) (hB : Below w.heap.size w w') : St w' g t bx l a b c d n p q r s := ⟨h.tb.below hB, bk_below hB h.x, bk_below hB h.y, h.n1, h.n2⟩
theorem St.alloc {w : World} {g t bx : Nat} {l : Routes} {a b c d n p q r s : Int} (h : St w g t bx l a b c d n p q r s) (o : Obj) : St (w.alloc o) g t bx l a b c d n p q r s := ⟨h.tb.alloc o, bk_alloc h.x o, bk_alloc h.y o, h.n1, h.n2⟩
theorem St.to {w w' : World} {g t bx : Nat} {l l' : Routes} {a b c d n p q r s : Int} (h : St w g t bx l a b c d n p q r s) (hb : Tb w' g t l') (hk : Kept (· = t) w w') : St w' g t bx l' a b c d n p q r s := ⟨hb, bk_kept hk h.x h.n1, bk_kept hk h.y h.n2, h.n1, h.n2⟩

set_option maxHeartbeats 3200000 in
theorem back_any (A : Option Addr) (ns : List Nt) (cap : Nat) {w : World} (hns : NtsAt w A ns) (h60 : ns.length ≤ 60) (a b c d n p q r s : Int) (hone : NtOk a b c d n) (hp : AdOk p q r s) :
    Calls Try.prog 6 #[.slice A ns.length cap, .agg #[.int .u8 a, .int .u8 b, .int .u8 c, .int .u8 d, .int .i64 n], .agg #[.int .u8 p, .int .u8 q, .int .u8 r, .int .u8 s]] w fun e w' => e = .returned (.bool true) ∧ Below w.heap.size w w' := by
  replace hns := Lib.hid hns
  have q2 : decide ((60 : Int) < (ns.length : Int)) = false := decide_eq_false (by omega)
  have hx0 := bk_alloc (bk_new w #[.int .u8 a, .int .u8 b, .int .u8 c, .int .u8 d, .int .i64 n] 29) (.cells #[.int .u8 p, .int .u8 q, .int .u8 r, .int .u8 s] 27)
  have hy0 := bk_at (w := w.alloc (.cells #[.int .u8 a, .int .u8 b, .int .u8 c, .int .u8 d, .int .i64 n] 29)) (g := w.heap.size + 1) (cs := #[.int .u8 p, .int .u8 q, .int .u8 r, .int .u8 s]) (t := 27) (by simp)
  have hB0 := bl_alloc (bl_alloc (Below.refl _ w) (.cells #[.int .u8 a, .int .u8 b, .int .u8 c, .int .u8 d, .int .i64 n] 29)) (.cells #[.int .u8 p, .int .u8 q, .int .u8 r, .int .u8 s] 27)
  have hsz0 : ((w.alloc (.cells #[.int .u8 a, .int .u8 b, .int .u8 c, .int .u8 d, .int .i64 n] 29)).alloc (.cells #[.int .u8 p, .int .u8 q, .int .u8 r, .int .u8 s] 27)).heap.size = w.heap.size + 2 := by simp
  replace hx0 := Lib.hid hx0
  replace hy0 := Lib.hid hy0
  replace hB0 := Lib.hid hB0
  replace hsz0 := Lib.hid hsz0
  go_enter Try.func6, Try.ntmps6
  go_wp2_with (fail)
  generalize (w.alloc (.cells #[.int .u8 a, .int .u8 b, .int .u8 c, .int .u8 d, .int .i64 n] 29)).alloc (.cells #[.int .u8 p, .int .u8 q, .int .u8 r, .int .u8 s] 27) = W0 at *
  refine (routeAlive_any _).mono ?_; rintro e w1 ⟨rfl, hB1⟩
  go_wp2_with (fail)
  refine (tnew_any _).mono ?_; rintro e w2 ⟨g, t, rfl, k1, hg1, ht1, hB2⟩
  have hBw := bl_then (bl_then hB0.out hB1) hB2
  have hS0 : St w2 g t w.heap.size (setsL ns 0) a b c d n p q r s := ⟨k1, bk_below hB2 (bk_below hB1 hx0.out), bk_below hB2 (bk_below hB1 hy0.out), by have := hB1.size; have := hsz0.out; omega, by have := hB1.size; have := hsz0.out; omega⟩
  have htw : w.heap.size ≤ t := by have := hB1.size; have := hsz0.out; omega
  clear k1 hg1 ht1 hB1 hB2
  replace hBw := Lib.hid hBw
  replace hS0 := Lib.hid hS0
  go_wp2_with (fail)
  go_loopw [25] (fun v wr => ∃ i : Nat, v = .int .i64 i ∧ i ≤ ns.length ∧ St wr g t w.heap.size (setsL ns i) a b c d n p q r s ∧ (∀ j, j < i → ns.getD j zeroN ≠ (a, b, c, d, n)) ∧ Below w.heap.size w wr) (fun v _ => ns.length - (intOf v).toNat)
  case atStart => exact ⟨0, rfl, Nat.zero_le _, hS0.out, fun j hj => absurd hj (by omega), hBw.out⟩
  case round =>
    obtain ⟨i, rfl, hi, hS, hg, hBr⟩ := hrel
    replace hg := Lib.hid hg
    by_cases hil : i < ns.length
    · have hil2 : decide ((i : Int) < (ns.length : Int)) = true := decide_eq_true (by omega)
      obtain ⟨hok, ad, rfl, hrow⟩ := hns.out i hil
      obtain ⟨x, hx⟩ : ∃ x, ns.getD i zeroN = x := ⟨_, rfl⟩
      rw [hx] at hok hrow
      have hS1 : setL (setsL ns i) (x.1, x.2.1, x.2.2.1, x.2.2.2.1, x.2.2.2.2) (i : Int) = setsL ns (i + 1) := by rw [← hx]; rfl
      replace hx := Lib.hid hx
      replace hS1 := Lib.hid hS1
      obtain ⟨c0, c1, c2, c3, c4⟩ := nt_cellsAt (hrow.far hBr)
      have hSa := hS.alloc (.cells #[.int .u8 x.1, .int .u8 x.2.1, .int .u8 x.2.2.1, .int .u8 x.2.2.2.1, .int .i64 x.2.2.2.2] 29)
      have hBa := bl_alloc hBr (.cells #[.int .u8 x.1, .int .u8 x.2.1, .int .u8 x.2.2.1, .int .u8 x.2.2.2.1, .int .i64 x.2.2.2.2] 29)
      obtain ⟨z0, z1, z2, z3, z4, _⟩ := hold5 hSa.x
      replace hSa := Lib.hid hSa
      replace hBa := Lib.hid hBa
      clear hS
      obtain ⟨bb, hb⟩ : ∃ bb, eqN (x.1, x.2.1, x.2.2.1, x.2.2.2.1, x.2.2.2.2) (a, b, c, d, n) = bb := ⟨_, rfl⟩
      cases bb with
      | true =>
        go_wp2
        go_ret
        exact ⟨rfl, hBa.out⟩
      | false =>
        have hne : ns.getD i zeroN ≠ (a, b, c, d, n) := fun e => by
          rw [hx.out] at e
          rw [eqN_iff.2 e] at hb
          cases hb
        replace hne := Lib.hid hne
        go_wp2_with (fail)
        refine (set_at (a := x.1) (b := x.2.1) (c := x.2.2.1) (d := x.2.2.2.1) (n := x.2.2.2.2) hSa.out.tb hok ⟨hS1.out, rfl⟩).mono ?_; rintro e w3 ⟨rfl, k3, hK9⟩
        have hS3 := hSa.out.to k3 hK9
        have hBb := Kept.bl hBa.out hK9 (fun j e => by subst e; exact htw)
        replace hS3 := Lib.hid hS3
        clear k3 hK9
        go_wp2
        refine ⟨⟨i + 1, by first | rfl | (congr 1; omega), by omega, hS3.out, fun j hj => ?_, hBb⟩, by simp [intOf]; omega⟩
        rcases Nat.lt_or_ge j i with h | h
        · exact hg.out j h
        · obtain rfl : j = i := by omega
          exact hne.out
    · have hil2 : decide ((i : Int) < (ns.length : Int)) = false := decide_eq_false (by omega)
      obtain rfl : i = ns.length := by omega
      have hn1 := Mp.nodup hS.tb.2
      have hmiss := sets_miss (by omega) hg.out
      have hlen := setsL_len ns ns.length
      have hbt := back_tables hmiss (by omega)
      have hro := setsL_ok hns.out h60 hn1
      obtain ⟨L, hL⟩ : ∃ L, setsL ns ns.length = L := ⟨_, rfl⟩
      rw [hL] at hS hn1 hmiss hlen hbt hro
      clear hL
      have hl1 : L.length ≤ 1000 := by omega
      obtain ⟨hdel, hEG⟩ := hbt
      obtain ⟨E, hE⟩ : ∃ E, setE L (a, b, c, d, n) 999 = E := ⟨_, rfl⟩
      obtain ⟨G, hG⟩ : ∃ G, (mget (setL L (a, b, c, d, n) 999) (a, b, c, d, n)).isSome = G := ⟨_, rfl⟩
      rw [hE, hG] at hEG
      have hfo := fR_ok hro p q r s
      obtain ⟨R, hR⟩ : ∃ R, fR L p q r s = R := ⟨_, rfl⟩
      obtain ⟨F, hF⟩ : ∃ F, (findL L p q r s).isSome = F := ⟨_, rfl⟩
      rw [hR] at hfo
      have hfo2 : RtOk ((R.1.1, R.1.2.1, R.1.2.2.1, R.1.2.2.2.1, R.1.2.2.2.2), R.2) := hfo
      have hself : eqR ((R.1.1, R.1.2.1, R.1.2.2.1, R.1.2.2.2.1, R.1.2.2.2.2), R.2) ((R.1.1, R.1.2.1, R.1.2.2.1, R.1.2.2.2.1, R.1.2.2.2.2), R.2) = true := eqR_iff.2 rfl
      have hfind : ∀ (w' : World), Tb w' g t L → Calls Try.prog 13 #[.pointer (some ⟨g, 0, none⟩), .agg #[.int .u8 p, .int .u8 q, .int .u8 r, .int .u8 s]] w' fun e w'' => e = .returned (.tuple #[.agg #[.int .u8 R.1.1, .int .u8 R.1.2.1, .int .u8 R.1.2.2.1, .int .u8 R.1.2.2.2.1, .int .i64 R.1.2.2.2.2, .int .i64 R.2], .bool F]) ∧ Below w'.heap.size w' w'' := fun w' hT => by
        have := find_rt hT hp
        rw [hR, hF] at this
        exact this
      replace hfind := Lib.hid hfind
      replace hE := Lib.hid hE
      replace hG := Lib.hid hG
      replace hR := Lib.hid hR
      replace hF := Lib.hid hF
      replace hdel := Lib.hid hdel
      replace hro := Lib.hid hro
      replace hS := Lib.hid hS
      clear hfo hmiss hg
      go_wp2_with (fail)
      refine (tlist_any hS.out.tb (fun x hx => (hro.out x hx).1) hl1).mono ?_; rintro e w3 ⟨B1, c1, d1, rfl, hr1, hd1, hp1, hB3⟩
      have hS3 := hS.out.below hB3
      have hBa := bl_then hBr hB3
      have hda : ∀ x ∈ d1, RtOk x := fun x hx => hro.out x (hp1.mem_iff.1 hx)
      obtain ⟨y0, y1, y2, y3, _⟩ := hold4 hS3.y
      replace hr1 := Lib.hid hr1
      replace hda := Lib.hid hda
      replace hS3 := Lib.hid hS3
      clear hS hB3
      go_wp2_with (fail)
      refine (hfind.out _ hS3.out.tb).mono ?_; rintro e w4 ⟨rfl, hB4⟩
      have hS4 := (hS3.out.below hB4).alloc (.cells #[.int .u8 R.1.1, .int .u8 R.1.2.1, .int .u8 R.1.2.2.1, .int .u8 R.1.2.2.2.1, .int .i64 R.1.2.2.2.2, .int .i64 R.2] 35)
      have hBb := bl_alloc (bl_then hBa hB4) (.cells #[.int .u8 R.1.1, .int .u8 R.1.2.1, .int .u8 R.1.2.2.1, .int .u8 R.1.2.2.2.1, .int .i64 R.1.2.2.2.2, .int .i64 R.2] 35)
      have hr4 := (hr1.out.below hB4).below (bl_alloc (Below.refl _ w4) (.cells #[.int .u8 R.1.1, .int .u8 R.1.2.1, .int .u8 R.1.2.2.1, .int .u8 R.1.2.2.2.1, .int .i64 R.1.2.2.2.2, .int .i64 R.2] 35))
      have hb4 := bk_new w4 #[.int .u8 R.1.1, .int .u8 R.1.2.1, .int .u8 R.1.2.2.1, .int .u8 R.1.2.2.2.1, .int .i64 R.1.2.2.2.2, .int .i64 R.2] 35
      have hne4 := mp_ne_bk hS4.tb.2 hb4
      obtain ⟨z0, z1, z2, z3, z4, _⟩ := hold5 hS4.x
      replace hS4 := Lib.hid hS4
      replace hr4 := Lib.hid hr4
      replace hb4 := Lib.hid hb4
      clear hS3 hr1 hB4 hBa y0 y1 y2 y3
      go_wp2_with (fail)
      refine (set_at (who := 999) hS4.out.tb hone ⟨rfl, hE.out⟩).mono ?_; rintro e w5 ⟨rfl, k5, hK5⟩
      have hS5 := hS4.out.to k5 hK5
      have hBc := Kept.bl hBb hK5 (fun j e => by subst e; exact htw)
      have hr5 := hr4.out.kept hK5 (tb_map hS4.out.tb)
      have hb5 := bk_kept hK5 hb4.out hne4
      obtain ⟨z0, z1, z2, z3, z4, _⟩ := hold5 hS5.x
      replace hS5 := Lib.hid hS5
      replace hr5 := Lib.hid hr5
      replace hb5 := Lib.hid hb5
      clear hS4 hr4 hb4 k5 hK5 hBb
      go_wp2_with (fail)
      refine (tdel_any hS5.out.tb a b c d n hone).mono ?_
      rw [hG.out, hdel.out]
      rintro e w6 ⟨rfl, k6, hK6⟩
      have hS6 := hS5.out.to k6 hK6
      have hBd := Kept.bl hBc hK6 (fun j e => by subst e; exact htw)
      have hr6 := hr5.out.kept hK6 (tb_map hS5.out.tb)
      have hb6 := bk_kept hK6 hb5.out hne4
      obtain ⟨y0, y1, y2, y3, _⟩ := hold4 hS6.y
      replace hS6 := Lib.hid hS6
      replace hr6 := Lib.hid hr6
      replace hb6 := Lib.hid hb6
      clear hS5 hr5 hb5 k6 hK6 hBc
      go_wp2_with (fail)
      refine (hfind.out _ hS6.out.tb).mono ?_; rintro e w7 ⟨rfl, hB7⟩
      have hS7 := (hS6.out.below hB7).alloc (.cells #[.int .u8 R.1.1, .int .u8 R.1.2.1, .int .u8 R.1.2.2.1, .int .u8 R.1.2.2.2.1, .int .i64 R.1.2.2.2.2, .int .i64 R.2] 35)
      have hBe := bl_alloc (bl_then hBd hB7) (.cells #[.int .u8 R.1.1, .int .u8 R.1.2.1, .int .u8 R.1.2.2.1, .int .u8 R.1.2.2.2.1, .int .i64 R.1.2.2.2.2, .int .i64 R.2] 35)
      have hr7 := (hr6.out.below hB7).below (bl_alloc (Below.refl _ w7) (.cells #[.int .u8 R.1.1, .int .u8 R.1.2.1, .int .u8 R.1.2.2.1, .int .u8 R.1.2.2.2.1, .int .i64 R.1.2.2.2.2, .int .i64 R.2] 35))
      have hb7 := bk_alloc (bk_below hB7 hb6.out) (.cells #[.int .u8 R.1.1, .int .u8 R.1.2.1, .int .u8 R.1.2.2.1, .int .u8 R.1.2.2.2.1, .int .i64 R.1.2.2.2.2, .int .i64 R.2] 35)
      have hn7 := bk_new w7 #[.int .u8 R.1.1, .int .u8 R.1.2.1, .int .u8 R.1.2.2.1, .int .u8 R.1.2.2.2.1, .int .i64 R.1.2.2.2.2, .int .i64 R.2] 35
      replace hS7 := Lib.hid hS7
      replace hr7 := Lib.hid hr7
      replace hb7 := Lib.hid hb7
      replace hn7 := Lib.hid hn7
      clear hS6 hr6 hb6 hB7 hBd y0 y1 y2 y3
      go_wp2_with (fail)
      refine (tlist_any hS7.out.tb (fun x hx => (hro.out x hx).1) hl1).mono ?_; rintro e w8 ⟨B2, c2, d2, rfl, hr8, hd2, hp2, hB8⟩
      have hBf := bl_then hBe hB8
      have hdb : ∀ x ∈ d2, RtOk x := fun x hx => hro.out x (hp2.mem_iff.1 hx)
      have hld : d2.length ≤ 1000 := by rw [hp2.length_eq]; exact hl1
      have hr9 := hr7.out.below hB8
      have hb8 := bk_below hB8 hb7.out
      have hn8 := bk_below hB8 hn7.out
      have heq : d2 = d1 := ordered_eq d2 d1 hd2 hd1 (fun x => by rw [hp1.mem_iff, hp2.mem_iff])
      replace hr8 := Lib.hid hr8
      replace hr9 := Lib.hid hr9
      replace hdb := Lib.hid hdb
      replace heq := Lib.hid heq
      replace hb8 := Lib.hid hb8
      replace hn8 := Lib.hid hn8
      clear hS7 hr7 hb7 hn7 hB8 hBe
      go_wp2_with (fail)
      refine (same_any B2 B1 c2 c1 d2 d1 _ hr8.out hr9.out hdb.out hda.out hld).mono ?_
      rw [decide_eq_true heq.out]
      rintro e w9 ⟨rfl, hB9⟩
      obtain ⟨u0, u1, u2, u3, u4, u5, _⟩ := hold6 (bk_below hB9 hb8.out)
      obtain ⟨v0, v1, v2, v3, v4, v5, _⟩ := hold6 (bk_below hB9 hn8.out)
      replace hBf := Lib.hid (bl_then hBf hB9)
      go_wp2
      go_ret
      exact ⟨rfl, hBf.out⟩
set_option maxHeartbeats 1600000 in
theorem routeBack_walk (A : Option Addr) (len cap : Nat) {w : World} (hz : IsFlat [.i .u8, .i .u8, .i .u8, .i .u8, .i .i64] w A len cap) (a b c d n : Int) (hone : (0 ≤ a ∧ a ≤ 255) ∧ (0 ≤ b ∧ b ≤ 255) ∧ (0 ≤ c ∧ c ≤ 255) ∧ (0 ≤ d ∧ d ≤ 255) ∧ -9223372036854775808 ≤ n ∧ n ≤ 9223372036854775807) (p q r s : Int) (hp : AdOk p q r s) :
    Calls Try.prog 6 #[.slice A len cap, .agg #[.int .u8 a, .int .u8 b, .int .u8 c, .int .u8 d, .int .i64 n], .agg #[.int .u8 p, .int .u8 q, .int .u8 r, .int .u8 s]] w fun e w' => e = .returned (.bool true) ∧ Below w.heap.size w w' := by
  have hlc : len ≤ cap := by rcases hz with ⟨_, rfl, h⟩ | ⟨x, rfl, hl, hm, hx⟩ <;> omega
  obtain ⟨ns, rfl, hns⟩ := nts_of hz
  clear hz
  obtain ⟨h1, h2, h3, h4, h5⟩ := hone
  have hone : NtOk a b c d n := ⟨⟨h1, h2, h3, h4⟩, h5⟩
  by_cases h60 : 60 < ns.length
  · have q2 : decide ((60 : Int) < (ns.length : Int)) = true := decide_eq_true (by omega)
    have hB0 := bl_alloc (bl_alloc (Below.refl _ w) (.cells #[.int .u8 a, .int .u8 b, .int .u8 c, .int .u8 d, .int .i64 n] 29)) (.cells #[.int .u8 p, .int .u8 q, .int .u8 r, .int .u8 s] 27)
    replace hns := Lib.hid hns
    go_enter Try.func6, Try.ntmps6
    go_wp2_with (go_at_call 10; (with_reducible refine (routeAlive_any _).mono ?_); rintro e w0 ⟨rfl, hB1⟩)
    go_ret
    exact ⟨rfl, bl_then hB0 hB1⟩
  exact back_any A ns cap hns (by omega) a b c d n p q r s hone hp
end Go.Proofs.Ytebeknnjjoobnaa
