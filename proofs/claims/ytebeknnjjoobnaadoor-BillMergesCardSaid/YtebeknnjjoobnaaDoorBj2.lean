/- The walk of BillMerges. -/
import Derived.Test.YtebeknnjjoobnaaDoorBj1
import Derived.Test.YtebeknnjjoobnaaDoorBi9
import Derived.Test.YtebeknnjjoobnaaDoorBiW
set_option linter.unusedVariables false
set_option linter.unusedSimpArgs false
set_option maxRecDepth 100000
namespace Go.Proofs.YtebeknnjjoobnaaDoor
open Go.RowKit Go.Sort Go.Lib Go.Shelf Go.Proofs Go.Proofs.YtebeknnjjoobnaaDoorW.PrintWords
attribute [local go_sem] max2_int min2_int max_two min_two
attribute [local go_sem ↓] eql_rw neq_rw

theorem text_at (A : Option Addr) (rows : List Rw) (cap : Nat) (w : World) (hA : RwAt w A rows) (hok : AllOk rows) (hl : rows.length ≤ 1000) (ht : PowTab w) :
    Calls Tryd.prog 15 #[.slice A rows.length cap] w fun e w' => e = .returned (.string ⟨(headL ++ linesL bI bU rows).toArray⟩) ∧ Below w.heap.size w w' := by
  refine text_any bI bU bI_len bU_len A rows cap w hA hl (fun x hx W hB => ?_) (fun x hx n hn W hB => ?_)
  · exact itoa_any x.1.1 (hok x hx).1.1.1 (hok x hx).1.1.2 W (powTab_below ht hB)
  · have hnk : 0 ≤ n ∧ n ≤ 18446744073709551615 := by
      obtain ⟨⟨_, k1⟩, k2, k3, k4, k5⟩ := hok x hx
      unfold numsL at hn
      simp only [List.mem_cons, List.not_mem_nil, or_false] at hn
      rcases hn with rfl | rfl | rfl | rfl | rfl
      · exact k1
      · exact k2
      · exact k3
      · exact k4
      · exact k5
    obtain ⟨u, rfl⟩ : ∃ u : Nat, n = u := ⟨n.toNat, by omega⟩
    exact fmt_any u (by omega) W (powTab_below ht hB)
set_option maxHeartbeats 6400000 in
theorem merges_any (A B : Option Addr) (ca cb : Nat) (a b : List Rw) (w : World) (hA : RwAt w A a) (hB : RwAt w B b) (hao : AllOk a) (hbo : AllOk b) (ha : a.length ≤ 60) (hb : b.length ≤ 60) (ht : PowTab w) :
    Calls Tryd.prog 4 #[.slice A a.length ca, .slice B b.length cb] w fun e w' => e = .returned (.bool true) ∧ Below w.heap.size w w' := by
  have q1 : decide ((60 : Int) < (a.length : Int)) = false := decide_eq_false (by omega)
  have q2 : decide ((60 : Int) < (b.length : Int)) = false := decide_eq_false (by omega)
  replace hA := Lib.hid hA
  replace hB := Lib.hid hB
  replace hao := Lib.hid hao
  replace hbo := Lib.hid hbo
  replace ha := Lib.hid ha
  replace hb := Lib.hid hb
  replace ht := Lib.hid ht
  go_enter Tryd.func4, Tryd.ntmps4
  go_wp2_with (fail)
  refine (billAlive_any _).mono ?_; rintro e w6 ⟨rfl, hBe⟩
  have hown := own_none w6 w6.heap.size (Nat.le_refl _)
  have hBf := bl_alloc (Below.refl _ w6) (.cells #[] 32)
  have hB60 := hB.out.below hBe
  have hA60 := hA.out.below hBe
  have hA6 := hA60.below hBf
  have ht6 := powTab_below ht.out hBe
  replace hA6 := Lib.hid hA6
  replace hA60 := Lib.hid hA60
  replace hB60 := Lib.hid hB60
  replace hown := Lib.hid hown
  replace hBf := Lib.hid hBf
  replace hBe := Lib.hid hBe
  replace ht6 := Lib.hid ht6
  clear ht hA hB
  go_wp2_with (at_builtin; first | (refine append_rws w6.heap.size rfl (.tmp 18) (.tmp 19) rfl _ [] a A _ _ rfl rfl rfl hown.out hA6.out hBf.out hBf.out.size (by have := ha.out; simp; omega) ?_; intro v1 w7 ho7 hB7; rw [List.nil_append] at ho7; have hown2 := own_none w7 w7.heap.size (Nat.le_refl _); have hBg := bl_alloc (Below.refl _ w7) (.cells #[] 32); have hB8 := (hB60.out.below hB7).below hBg; replace hown2 := Lib.hid hown2; replace hBg := Lib.hid hBg; replace hB8 := Lib.hid hB8; replace ho7 := Lib.hid ho7; replace hB7 := Lib.hid hB7) | (refine append_rws w7.heap.size rfl (.tmp 21) (.tmp 22) rfl _ [] b B _ _ rfl rfl rfl hown2.out hB8.out hBg.out hBg.out.size (by have := hb.out; simp; omega) ?_; intro v2 w9 ho9 hB9; rw [List.nil_append] at ho9; obtain ⟨X, cx, rfl, hX0, _, _⟩ := rws_own (pw_own_below ho7.out hB9); obtain ⟨Y, cy, rfl, hY0, _, _⟩ := rws_own ho9))
  have hBh := bl_then hB7.out hB9
  have hA9 := hA60.out.below hBh
  have hB9' := hB60.out.below hBh
  have ht9 := powTab_below ht6.out hBh
  have hBi := bl_then hBe.out hBh
  replace hA9 := Lib.hid hA9
  replace hB9' := Lib.hid hB9'
  replace ht9 := Lib.hid ht9
  replace hBi := Lib.hid hBi
  replace hX0 := Lib.hid hX0
  replace hY0 := Lib.hid hY0
  clear hown hBf hA6 hA60 hB60 hBe ht6 hown2 hBg hB8 ho7 hB7 ho9 hB9 hBh
  refine (merge_mg X Y cx cy a b _ hX0.out hY0.out hao.out hbo.out (by have := ha.out; omega) (by have := hb.out; omega)).mono ?_; rintro e w10 ⟨D, cd, l, rfl, rl, ml, hBj⟩
  have hA10 := hA9.out.below hBj
  have hB10 := hB9'.out.below hBj
  have hX1 := hX0.out.below hBj
  have hY1 := hY0.out.below hBj
  have ht10 := powTab_below ht9.out hBj
  have hBk := bl_then hBi.out hBj
  replace hA10 := Lib.hid hA10
  replace hB10 := Lib.hid hB10
  replace ht10 := Lib.hid ht10
  replace hBk := Lib.hid hBk
  replace hX1 := Lib.hid hX1
  replace hY1 := Lib.hid hY1
  replace rl := Lib.hid rl
  replace ml := Lib.hid ml
  clear hA9 hB9' hX0 hY0 ht9 hBi hBj
  have hk := rmerge_any A B ca cb a b w10 hA10.out hB10.out hao.out hbo.out (by have := ha.out; omega) (by have := hb.out; omega)
  replace hk := Lib.hid hk
  go_wp2_with (fail)
  refine hk.out.mono ?_; rintro e w11 ⟨D2, cd2, d, rfl, rd, md, hBl⟩
  have hA11 := hA10.out.below hBl
  have hB11 := hB10.out.below hBl
  have hX2 := hX1.out.below hBl
  have hY2 := hY1.out.below hBl
  have ht11 := powTab_below ht10.out hBl
  have hBm := bl_then hBk.out hBl
  have rl2 := rl.out.below hBl
  have hlen := md.len
  rw [List.length_append] at hlen
  have hk2 := same_at D D2 cd cd2 l d w11 (ml.out.same md fun k => rfl) rl2 rd md.ok (by have := ha.out; have := hb.out; omega)
  replace hA11 := Lib.hid hA11
  replace hB11 := Lib.hid hB11
  replace ht11 := Lib.hid ht11
  replace hBm := Lib.hid hBm
  replace hX2 := Lib.hid hX2
  replace hY2 := Lib.hid hY2
  replace hk2 := Lib.hid hk2
  clear hk hA10 hB10 hX1 hY1 ht10 hBk rl ml hBl rd md rl2 hlen
  go_wp2_with (fail)
  refine hk2.out.mono ?_; rintro e w12 ⟨rfl, hBn⟩
  have hA12 := hA11.out.below hBn
  have hB12 := hB11.out.below hBn
  have hX3 := hX2.out.below hBn
  have hY3 := hY2.out.below hBn
  have ht12 := powTab_below ht11.out hBn
  have hBo := bl_then hBm.out hBn
  have hk3 := text_at X a cx w12 hX3 hao.out (by have := ha.out; omega) ht12
  replace hA12 := Lib.hid hA12
  replace hB12 := Lib.hid hB12
  replace ht12 := Lib.hid ht12
  replace hBo := Lib.hid hBo
  replace hX3 := Lib.hid hX3
  replace hY3 := Lib.hid hY3
  obtain ⟨T, hT⟩ : ∃ t : ByteArray, (⟨(headL ++ linesL bI bU a).toArray⟩ : ByteArray) = t := ⟨_, rfl⟩
  rw [hT] at hk3
  replace hT := Lib.hid hT
  replace hk3 := Lib.hid hk3
  clear hk2 hA11 hB11 hX2 hY2 ht11 hBm hBn
  go_wp2_with (fail)
  refine hk3.out.mono ?_; rintro e w13 ⟨rfl, hBp⟩
  have hA13 := hA12.out.below hBp
  have hB13 := hB12.out.below hBp
  have hX4 := hX3.out.below hBp
  have hY4 := hY3.out.below hBp
  have hBq := bl_then hBo.out hBp
  have hk4 := rtext_any A a ca w13 hA13 hao.out (by have := ha.out; omega)
  rw [hT.out] at hk4
  replace hA13 := Lib.hid hA13
  replace hB13 := Lib.hid hB13
  replace hBq := Lib.hid hBq
  replace hX4 := Lib.hid hX4
  replace hY4 := Lib.hid hY4
  replace hk4 := Lib.hid hk4
  clear hk3 hA12 hB12 hX3 hY3 ht12 hBo hBp
  go_wp2_with (fail)
  refine hk4.out.mono ?_; rintro e w14 ⟨rfl, hBr⟩
  have hB14 := hB13.out.below hBr
  have hY5 := hY4.out.below hBr
  have hBs := bl_then hBq.out hBr
  have hk5 := same_at X A cx ca a a w14 rfl (hX4.out.below hBr) (hA13.out.below hBr) hao.out (by have := ha.out; omega)
  replace hB14 := Lib.hid hB14
  replace hBs := Lib.hid hBs
  replace hY5 := Lib.hid hY5
  replace hk5 := Lib.hid hk5
  clear hk4 hA13 hB13 hX4 hY4 hBq hBr
  go_wp2_with (fail)
  refine hk5.out.mono ?_; rintro e w15 ⟨rfl, hBt⟩
  have hk6 := same_at Y B cy cb b b w15 rfl (hY5.out.below hBt) (hB14.out.below hBt) hbo.out (by have := hb.out; omega)
  have hBu := bl_then hBs.out hBt
  replace hk6 := Lib.hid hk6
  replace hBu := Lib.hid hBu
  clear hk5 hB14 hY5 hBs hBt
  go_wp2_with (fail)
  refine hk6.out.mono ?_; rintro e w16 ⟨rfl, hBv⟩
  have hBw := bl_then hBu.out hBv
  replace hBw := Lib.hid hBw
  go_wp2
  go_ret
  exact ⟨rfl, hBw.out⟩
theorem billMerges_walk (A : Option Addr) (na ca : Nat) {w : World} (ha : IsFlat rwLeaves w A na ca) (B : Option Addr) (nb cb : Nat) (hb : IsFlat rwLeaves w B nb cb) (ht : PowTab w) :
    Calls Tryd.prog 4 #[.slice A na ca, .slice B nb cb] w fun e w' => e = .returned (.bool true) ∧ Below w.heap.size w w' := by
  obtain ⟨a, rfl, hA, hao⟩ := rws_of ha
  obtain ⟨b, rfl, hB, hbo⟩ := rws_of hb
  clear ha hb
  by_cases h1 : 60 < a.length
  · have q1 : decide ((60 : Int) < (a.length : Int)) = true := decide_eq_true (by omega)
    clear hA hB hao hbo ht
    go_enter Tryd.func4, Tryd.ntmps4
    go_wp2_with (go_at_call 8; (with_reducible refine (billAlive_any _).mono ?_); rintro e w0 ⟨rfl, hB1⟩)
    go_ret
    exact ⟨rfl, hB1⟩
  by_cases h2 : 60 < b.length
  · have q1 : decide ((60 : Int) < (a.length : Int)) = false := decide_eq_false (by omega)
    have q2 : decide ((60 : Int) < (b.length : Int)) = true := decide_eq_true (by omega)
    clear hA hB hao hbo ht
    go_enter Tryd.func4, Tryd.ntmps4
    go_wp2_with (go_at_call 8; (with_reducible refine (billAlive_any _).mono ?_); rintro e w0 ⟨rfl, hB1⟩)
    go_ret
    exact ⟨rfl, hB1⟩
  exact merges_any A B ca cb a b w hA hB hao hbo (by omega) (by omega) ht
theorem laid_tail {P : Program} {x : String × DataW Unit} {r : List (String × DataW Unit)} {w : World} (h : laidMet P (x :: r) w) : laidMet P r w := by
  obtain ⟨ps, hv, hn, hc⟩ := h
  obtain ⟨n, d⟩ := x
  obtain ⟨g, t, cs, fuel, p, q, _, _, _, _, hq, rfl⟩ := hv
  exact ⟨q, hq, (List.nodup_append.1 hn).2.1, fun b off hm => hc b off (List.mem_append_right _ hm)⟩
/-- The table, third of those that the row lists. -/
theorem powTab_of {W : World} {x y : String × DataW Unit} {r : List (String × DataW Unit)} (h : laidMet Tryd.prog (x :: y :: ("internal/strconv.uint64pow10", Lib.tabData .u64 Lib.pow10Tab) :: r) W) : PowTab W :=
  Lib.tabIs_of_head (g := 0) (t := 130) (e := 30) (n := 20) (by kernel_rfl) (by kernel_rfl) Tryd.underlying130 Tryd.underlying30 (by kernel_rfl) (by kernel_rfl) (laid_tail (laid_tail h))
end Go.Proofs.YtebeknnjjoobnaaDoor
