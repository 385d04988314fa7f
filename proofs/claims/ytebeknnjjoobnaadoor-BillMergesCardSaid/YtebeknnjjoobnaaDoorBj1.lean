/- Contract: two lists of rows as one, by the document (floodgateref26.Merge). -/
import Derived.Test.YtebeknnjjoobnaaDoorBi6
set_option linter.unusedVariables false
set_option linter.unusedSimpArgs false
set_option maxRecDepth 100000
namespace Go.Proofs.YtebeknnjjoobnaaDoor
open Go.RowKit Go.Sort Go.Lib Go.Shelf Go.Proofs Go.Proofs.YtebeknnjjoobnaaDoorW.PrintWords
attribute [local go_sem] max2_int min2_int max_two min_two
attribute [local go_sem ↓] eql_rw neq_rw

def nzB (x : Rw) : Bool := decide (x.2 ≠ zeroV)
theorem filt_mg {P rows : List Rw} (h : PutS P rows) (hl : P.length ≤ rows.length) : Mg (P.filter nzB) rows := by
  refine ⟨List.Pairwise.filter _ h.ord, fun x => ?_, fun x hx => h.ok x (List.mem_filter.1 hx).1, Nat.le_trans (List.length_filter_le _ _) hl⟩
  rw [List.mem_filter, h.mem]
  unfold nzB
  rw [decide_eq_true_iff]
  constructor
  · rintro ⟨⟨_, h1⟩, h2⟩; exact ⟨h1, h2⟩
  · rintro ⟨h1, h2⟩
    refine ⟨⟨?_, h1⟩, h2⟩
    by_cases e : ∃ r ∈ rows, r.1 = x.1
    · exact e
    · rw [tot_none fun r hr c => e ⟨r, hr, c⟩] at h1
      exact absurd h1 h2
theorem nz_cases {x : Rw} (h : RwOk x) : (nzB x = true ∧ (0 < x.2.1 ∨ 0 < x.2.2.1 ∨ 0 < x.2.2.2.1 ∨ 0 < x.2.2.2.2)) ∨ (nzB x = false ∧ x.2.1 = 0 ∧ x.2.2.1 = 0 ∧ x.2.2.2.1 = 0 ∧ x.2.2.2.2 = 0) := by
  obtain ⟨_, ⟨a1, _⟩, ⟨a2, _⟩, ⟨a3, _⟩, a4, _⟩ := h
  unfold nzB
  by_cases e : x.2 = zeroV
  · right
    rw [e]
    exact ⟨by simp, rfl, rfl, rfl, rfl⟩
  · left
    refine ⟨by simp [e], ?_⟩
    by_cases h1 : 0 < x.2.1
    · exact .inl h1
    by_cases h2 : 0 < x.2.2.1
    · exact .inr (.inl h2)
    by_cases h3 : 0 < x.2.2.2.1
    · exact .inr (.inr (.inl h3))
    by_cases h4 : 0 < x.2.2.2.2
    · exact .inr (.inr (.inr h4))
    exact absurd (show x.2 = zeroV from Prod.ext (show x.2.1 = 0 by omega) (Prod.ext (show x.2.2.1 = 0 by omega) (Prod.ext (show x.2.2.2.1 = 0 by omega) (show x.2.2.2.2 = 0 by omega)))) e
set_option maxHeartbeats 6400000 in
theorem rmerge_any (A B : Option Addr) (ca cb : Nat) (a b : List Rw) (w : World) (hA : RwAt w A a) (hB : RwAt w B b) (hao : AllOk a) (hbo : AllOk b) (ha : a.length ≤ 150) (hb : b.length ≤ 150) :
    Calls Tryd.prog 14 #[.slice A a.length ca, .slice B b.length cb] w fun e w' => ∃ (D : Option Addr) (c : Nat) (d : List Rw), e = .returned (.slice D d.length c) ∧ RwAt w' D d ∧ Mg d (a ++ b) ∧ Below w.heap.size w w' := by
  obtain ⟨na, hna⟩ : ∃ n, a.length = n := ⟨_, rfl⟩
  obtain ⟨nb, hnb⟩ : ∃ n, b.length = n := ⟨_, rfl⟩
  rw [hna] at ha ⊢
  rw [hnb] at hb ⊢
  have hA1 := hA.below (bl_alloc (Below.refl _ w) (.cells #[] 32))
  have hB1 := hB.below (bl_alloc (Below.refl _ w) (.cells #[] 32))
  have hW1 := bl_alloc (Below.refl _ w) (.cells #[] 32)
  have hg0 : w.heap.size < (w.alloc (.cells #[] 32)).heap.size := by simp
  replace hA1 := Lib.hid hA1
  replace hB1 := Lib.hid hB1
  replace hW1 := Lib.hid hW1
  replace hna := Lib.hid hna
  replace hnb := Lib.hid hnb
  replace hao := Lib.hid hao
  replace hbo := Lib.hid hbo
  clear hA hB
  go_enter Tryd.func14, Tryd.ntmps14
  go_upto_region 2 with (fail)
  generalize w.alloc (.cells #[] 32) = W1 at *
  have hown := own_none W1 W1.heap.size (Nat.le_refl _)
  have hBf := bl_alloc (Below.refl _ W1) (.cells #[] 32)
  have hA2 := hA1.out.below hBf

  replace hown := Lib.hid hown
  replace hBf := Lib.hid hBf
  replace hA2 := Lib.hid hA2

  clear hA1
  go_wp2_with (at_builtin; first | (refine append_rws W1.heap.size rfl (.tmp 12) (.tmp 13) rfl _ [] a A _ _ rfl rfl hna.out.symm hown.out hA2.out hBf.out hBf.out.size (by simp; omega) ?_; intro v1 w7 ho7 hB7; rw [List.nil_append] at ho7; have hA7 := hB1.out.below hB7) | (refine append_rws W1.heap.size rfl (.tmp 14) (.tmp 15) rfl _ a b B _ _ rfl rfl hnb.out.symm ho7 hA7 hB7 hB7.size (by rw [hna.out]; omega) ?_; intro v2 w8 ho8 hB8; obtain ⟨E, cE, rfl, hE, _, _⟩ := rws_own ho8; obtain ⟨N, hN⟩ : ∃ n, (a ++ b).length = n := ⟨_, rfl⟩; rw [hN]))
  have hBw := bl_then hW1.out hB8
  have hEo := hao.out.app hbo.out
  have hEl : (a ++ b).length = na + nb := by rw [List.length_append, hna.out, hnb.out]
  obtain ⟨R, hR⟩ : ∃ l, a ++ b = l := ⟨_, rfl⟩
  have hNl : N ≤ 300 := by omega
  rw [hR] at hE hEo hEl hN
  replace hR := Lib.hid hR
  replace hN := Lib.hid hN
  replace hE := Lib.hid hE
  replace hEo := Lib.hid hEo
  replace hBw := Lib.hid hBw
  clear hown hBf hA2 hB1 ho7 ho8 hA7 hB7 hB8 hEl hna hnb hao hbo hW1 hg0 ha hb
  go_loopw [5, 18] (fun v5 v18 wr => ∃ (i : Nat) (P : List Rw) (D : Addr) (c : Nat), v18 = .int .i64 i ∧ i ≤ N ∧ v5 = .slice (some D) P.length c ∧ PutS P (R.take i) ∧ RwAt wr (some D) P ∧ P.length ≤ c ∧ c ≤ 9223372036854775807 ∧ P.length ≤ i ∧ Below w8.heap.size w8 wr) (fun _ v _ => N - (intOf v).toNat)
  case atStart => exact ⟨0, [], _, 0, rfl, Nat.zero_le _, rfl, PutS.nil, rw_nil _ _ [] rfl, Nat.le_refl _, by omega, Nat.le_refl _, Below.refl _ _⟩
  case round =>
    obtain ⟨i, P, D, c, rfl, hi, rfl, hP, hD, hPc, hcm, hPi, hBr⟩ := hrel
    by_cases hil : i < N
    · have hil2 : decide ((i : Int) < (N : Int)) = true := decide_eq_true (by omega)
      obtain ⟨ad, hAd, hrow⟩ := (hE.out.below hBr) i (by rw [hN.out]; exact hil)
      have hxo := hEo.out _ (getD_mem R i zeroRw (by rw [hN.out]; exact hil))
      have hsn := take_snoc R i (by rw [hN.out]; exact hil)
      have hto : AllOk (R.take i) := fun y hy => hEo.out y (List.mem_of_mem_take hy)
      obtain ⟨x, hx⟩ : ∃ x, R.getD i zeroRw = x := ⟨_, rfl⟩
      rw [hx] at hrow hxo hsn
      subst hAd
      obtain ⟨c0, c1, c2, c3, c4, c5⟩ := rw_cellsAt hrow
      have hbx := bk_new wr #[.int .i64 x.1.1, .int .u64 x.1.2, .int .u64 x.2.1, .int .u64 x.2.2.1, .int .u64 x.2.2.2.1, .int .u64 x.2.2.2.2] 32
      have hBa := bl_alloc hBr (.cells #[.int .i64 x.1.1, .int .u64 x.1.2, .int .u64 x.2.1, .int .u64 x.2.2.1, .int .u64 x.2.2.2.1, .int .u64 x.2.2.2.2] 32)
      have hDa := hD.below (bl_alloc (Below.refl _ wr) (.cells #[.int .i64 x.1.1, .int .u64 x.1.2, .int .u64 x.2.1, .int .u64 x.2.2.1, .int .u64 x.2.2.2.1, .int .u64 x.2.2.2.2] 32))
      obtain ⟨z0, z1, z2, z3, z4, z5, _⟩ := hold6 hbx
      have hkq := put_any D P c x _ hDa hP.ok hxo (by omega) hPc hcm
      have hPs : PutS (putR x P) (R.take (i + 1)) := by rw [hsn]; exact hP.step hto hxo
      replace hkq := Lib.hid hkq
      replace hPs := Lib.hid hPs
      replace hBa := Lib.hid hBa
      replace hP := Lib.hid hP
      clear hx hsn hto hrow hxo hbx hDa hD hBr
      go_wp2_with (fail)
      refine hkq.out.mono ?_; rintro e w9 ⟨A9, c9, rfl, r9, l9, m9, hB9⟩
      have hpl := put_len x P
      have hBv := bl_then hBa.out hB9
      obtain ⟨Q, hQ⟩ : ∃ Q, putR x P = Q := ⟨_, rfl⟩
      rw [hQ] at r9 l9 hpl hPs ⊢
      replace r9 := Lib.hid r9
      replace hBv := Lib.hid hBv
      clear hQ hkq hB9
      go_wp2
      exact ⟨⟨i + 1, Q, A9, c9, by first | rfl | (congr 1; omega), by omega, rfl, hPs.out, r9.out, l9, m9, by omega, hBv.out⟩, by simp [intOf]; omega⟩
    · have hil2 : decide ((i : Int) < (N : Int)) = false := decide_eq_false (by omega)
      obtain rfl : i = N := by omega
      rw [show R.take i = R by rw [← hN.out]; exact List.take_length] at hP
      obtain ⟨W0, rfl⟩ : ∃ W0, W0 = wr := ⟨_, rfl⟩
      have hBx := bl_then hBw.out hBr
      have hmg := filt_mg hP (by rw [hN.out]; exact hPi)
      have hPo := hP.ok
      obtain ⟨M, hM⟩ : ∃ n, P.length = n := ⟨_, rfl⟩
      rw [hM] at hPc hPi ⊢
      have hown := own_none W0 W0.heap.size (Nat.le_refl _)
      have hBf := bl_alloc (Below.refl _ W0) (.cells #[] 32)
      replace hM := Lib.hid hM
      replace hmg := Lib.hid hmg
      replace hPo := Lib.hid hPo
      replace hBx := Lib.hid hBx
      replace hown := Lib.hid hown
      replace hBf := Lib.hid hBf
      replace hD := Lib.hid hD
      clear hP hBr hE hEo hBw
      go_wp2_with (fail)
      go_loopw [8, 29] (fun v8 v29 wz => ∃ j : Nat, v29 = .int .i64 j ∧ j ≤ M ∧ OwnW wz W0.heap.size v8 ((P.take j).filter nzB) ∧ Below W0.heap.size W0 wz) (fun _ v _ => M - (intOf v).toNat)
      case atStart => exact ⟨0, rfl, Nat.zero_le _, hown.out, hBf.out⟩
      case round =>
        obtain ⟨j, rfl, hj, ho, hBz⟩ := hrel
        by_cases hjl : j < M
        · have hjl2 : decide ((j : Int) < (M : Int)) = true := decide_eq_true (by omega)
          obtain ⟨ad, hAd, hrow⟩ := (hD.out.below hBz) j (by rw [hM.out]; exact hjl)
          have hxo := hPo.out _ (getD_mem P j zeroRw (by rw [hM.out]; exact hjl))
          have hsn := take_snoc P j (by rw [hM.out]; exact hjl)
          have hfl : ((P.take j).filter nzB).length ≤ j := Nat.le_trans (List.length_filter_le _ _) (by rw [List.length_take]; omega)
          obtain ⟨x, hx⟩ : ∃ x, P.getD j zeroRw = x := ⟨_, rfl⟩
          rw [hx] at hrow hxo hsn
          obtain ⟨F, hF⟩ : ∃ l, (P.take j).filter nzB = l := ⟨_, rfl⟩
          have hfn : (P.take (j + 1)).filter nzB = F ++ (if nzB x = true then [x] else []) := by
            rw [hsn, List.filter_append, hF]
            congr 1
            by_cases e : nzB x = true
            · rw [if_pos e, List.filter_cons_of_pos e]; rfl
            · rw [if_neg e, List.filter_cons_of_neg e]; rfl
          rw [hF] at ho hfl
          obtain rfl : D = ad := Option.some.inj hAd
          obtain ⟨c0, c1, c2, c3, c4, c5⟩ := rw_cellsAt hrow
          have hbx := bk_new wr #[.int .i64 x.1.1, .int .u64 x.1.2, .int .u64 x.2.1, .int .u64 x.2.2.1, .int .u64 x.2.2.2.1, .int .u64 x.2.2.2.2] 32
          have hBa := bl_alloc hBz (.cells #[.int .i64 x.1.1, .int .u64 x.1.2, .int .u64 x.2.1, .int .u64 x.2.2.1, .int .u64 x.2.2.2.1, .int .u64 x.2.2.2.2] 32)
          have hoa := pw_own_below ho (bl_alloc (Below.refl _ wr) (.cells #[.int .i64 x.1.1, .int .u64 x.1.2, .int .u64 x.2.1, .int .u64 x.2.2.1, .int .u64 x.2.2.2.1, .int .u64 x.2.2.2.2] 32))
          obtain ⟨z0, z1, z2, z3, z4, z5, _⟩ := hold6 hbx
          have hnz := nz_cases hxo
          obtain ⟨⟨_, _⟩, ⟨p1, _⟩, ⟨p2, _⟩, ⟨p3, _⟩, p4, _⟩ := hxo
          replace hbx := Lib.hid hbx
          replace hBa := Lib.hid hBa
          replace hoa := Lib.hid hoa
          replace hfn := Lib.hid hfn
          replace hnz := Lib.hid hnz
          clear hx hsn hrow hAd ho hBz hF
          go_upto_region 11 with (fail)
          generalize wr.alloc (.cells #[.int .i64 x.1.1, .int .u64 x.1.2, .int .u64 x.2.1, .int .u64 x.2.2.1, .int .u64 x.2.2.2.1, .int .u64 x.2.2.2.2] 32) = W at *
          go_cut [50] from 33 to 50 (fun v wx => v = .bool (nzB x) ∧ wx = W)
          case first =>
            rcases hnz.out with ⟨hz, h⟩ | ⟨hz, h1, h2, h3, h4⟩
            · replace hz := Lib.hid hz
              clear hfn hnz
              by_cases h1 : 0 < x.2.1
              · have e1 : decide (0 < x.2.1) = true := decide_eq_true h1
                go_wp2_with (fail)
                go_meet
                exact ⟨by rw [hz.out], rfl⟩
              · have e1 : decide (0 < x.2.1) = false := decide_eq_false h1
                by_cases h2 : 0 < x.2.2.1
                · have e2 : decide (0 < x.2.2.1) = true := decide_eq_true h2
                  go_wp2_with (fail)
                  go_meet
                  exact ⟨by rw [hz.out], rfl⟩
                · have e2 : decide (0 < x.2.2.1) = false := decide_eq_false h2
                  by_cases h3 : 0 < x.2.2.2.1
                  · have e3 : decide (0 < x.2.2.2.1) = true := decide_eq_true h3
                    go_wp2_with (fail)
                    go_meet
                    exact ⟨by rw [hz.out], rfl⟩
                  · have e3 : decide (0 < x.2.2.2.1) = false := decide_eq_false h3
                    have e4 : decide (0 < x.2.2.2.2) = true := decide_eq_true (by omega)
                    go_wp2_with (fail)
                    go_meet
                    exact ⟨by rw [hz.out], rfl⟩
            · replace hz := Lib.hid hz
              have e1 : decide (0 < x.2.1) = false := decide_eq_false (by omega)
              have e2 : decide (0 < x.2.2.1) = false := decide_eq_false (by omega)
              have e3 : decide (0 < x.2.2.2.1) = false := decide_eq_false (by omega)
              have e4 : decide (0 < x.2.2.2.2) = false := decide_eq_false (by omega)
              clear hfn hnz h1 h2 h3 h4
              go_wp2_with (fail)
              go_meet
              exact ⟨by rw [hz.out], rfl⟩
          case rest =>
            obtain ⟨rfl, rfl⟩ := hcut
            clear hnz p1 p2 p3 p4
            by_cases hz : nzB x = true
            · rw [hz]
              have hfn2 := hfn.out
              rw [if_pos hz] at hfn2
              have hlx := rw_lit (W := wc) rfl x
              have hob := pw_own_below hoa.out (bl_alloc (Below.refl _ wc) (.cells #[.int .i64 x.1.1, .int .u64 x.1.2, .int .u64 x.2.1, .int .u64 x.2.2.1, .int .u64 x.2.2.2.1, .int .u64 x.2.2.2.2] 32))
              have hBb := bl_alloc hBa.out (.cells #[.int .i64 x.1.1, .int .u64 x.1.2, .int .u64 x.2.1, .int .u64 x.2.2.1, .int .u64 x.2.2.2.1, .int .u64 x.2.2.2.2] 32)
              replace hfn2 := Lib.hid hfn2
              replace hlx := Lib.hid hlx
              replace hob := Lib.hid hob
              replace hBb := Lib.hid hBb
              clear hz hfn hoa hBa
              go_wp2_with (at_builtin; refine append_rws W0.heap.size rfl (.tmp 51) (.tmp 53) rfl _ F [x] _ 1 1 rfl rfl rfl hob.out hlx.out hBb.out hBb.out.size (by omega) ?_; intro v1 w7 ho7 hB7; rw [← hfn2.out] at ho7)
              exact ⟨⟨j + 1, by first | rfl | (congr 1; omega), by omega, ho7, hB7⟩, by simp [intOf]; omega⟩
            · have hz' : nzB x = false := by simpa using hz
              rw [hz']
              have hfn2 := hfn.out
              rw [if_neg hz, List.append_nil] at hfn2
              replace hfn2 := Lib.hid hfn2
              clear hz hz' hfn
              go_wp2
              exact ⟨⟨j + 1, by first | rfl | (congr 1; omega), by omega, by rw [hfn2.out]; exact hoa.out, hBa.out⟩, by simp [intOf]; omega⟩
        · have hjl2 : decide ((j : Int) < (M : Int)) = false := decide_eq_false (by omega)
          obtain rfl : j = M := by omega
          rw [show P.take j = P by rw [← hM.out]; exact List.take_length] at ho
          obtain ⟨A7, c7, rfl, hr7, _, _⟩ := rws_own ho
          have hBe := bl_then hBx.out hBz
          replace hBe := Lib.hid hBe
          replace hr7 := Lib.hid hr7
          clear ho hBz
          go_wp2
          go_ret
          exact ⟨A7, c7, P.filter nzB, rfl, hr7.out, by rw [hR.out]; exact hmg.out, hBe.out⟩
end Go.Proofs.YtebeknnjjoobnaaDoor
