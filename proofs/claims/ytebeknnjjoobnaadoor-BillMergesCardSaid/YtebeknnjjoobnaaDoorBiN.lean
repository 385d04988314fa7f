/- Contract: two lists of rows as one (bill.Merge). -/
import Derived.Test.YtebeknnjjoobnaaDoorBiM
import Derived.Deep.LoopGhost
set_option linter.unusedVariables false
set_option linter.unusedSimpArgs false
set_option maxRecDepth 100000
namespace Go.Proofs.YtebeknnjjoobnaaDoor
open Go.RowKit Go.Sort Go.Lib Go.Shelf Go.Proofs Go.Proofs.YtebeknnjjoobnaaDoorW.PrintWords
attribute [local go_sem] max2_int min2_int max_two min_two
attribute [local go_sem ↓] eql_rw neq_rw

abbrev Ts (w : World) (b : Nat) (l : Sums) : Prop := Mp Tryd.prog 64 kyV rwV w b l
abbrev RgS (w : World) (b r : Nat) (l left : Sums) : Prop := Rg Tryd.prog 64 kyV rwV w b r l left
theorem zero_rw (w : World) : (zeroValue 32).run Tryd.prog w = .ok (rwV zeroRw) w := by kernel_rfl
theorem ts_look {w : World} {b : Nat} {l : Sums} (h : Ts w b l) {a c : Int} (hok : KyOk a c) :
    (Instr.lookup 61 (.map (some b)) (.agg #[.int .i64 a, .int .u64 c]) false).run Tryd.prog w = .ok (rwV (getS l (a, c))) w := by
  unfold getS
  cases hg : mget l (a, c) with
  | none => exact Mp.look_none ky_kv Tryd.underlying61 h (a := (a, c)) hok (zero_rw w) hg false
  | some v => exact Mp.look_some ky_kv Tryd.underlying61 h (a := (a, c)) hok hg false
theorem ts_store {w : World} {b : Nat} {l : Sums} (h : Ts w b l) {a c : Int} (hok : KyOk a c) (v : Rw) :
    ∃ w', (Instr.mapUpdate 61 (.map (some b)) (.agg #[.int .i64 a, .int .u64 c]) (rwV v)).run Tryd.prog w = .ok () w' ∧ Ts w' b (mput l (a, c) v) ∧ Kept (· = b) w w' ∧ w'.heap.size = w.heap.size :=
  Mp.store ky_kv Tryd.underlying61 h (a := (a, c)) hok v
theorem radd_from (a b s t : Int) (v : Bv) (hv : BvOk v) (w : World) :
    Calls Tryd.prog 23 #[.agg #[.int .i64 a, .int .u64 b, .int .u64 0, .int .u64 0, .int .u64 0, .int .u64 0], .agg #[.int .i64 s, .int .u64 t, .int .u64 v.1, .int .u64 v.2.1, .int .u64 v.2.2.1, .int .u64 v.2.2.2]] w fun e w' => e = .returned (.agg #[.int .i64 a, .int .u64 b, .int .u64 (addV zeroV v).1, .int .u64 (addV zeroV v).2.1, .int .u64 (addV zeroV v).2.2.1, .int .u64 (addV zeroV v).2.2.2]) ∧ Below w.heap.size w w' :=
  badd_any ((a, b), zeroV) ((s, t), v) zeroV_ok hv w
theorem cl_ne_map {w : World} {a : Addr} {v : Value} {t : Nat} {es : Array MapEntry} {c : Nat} (h : w.cell? a = some v) (hb : w.heap[t]? = some (.map es c)) : a.block ≠ t := by
  intro e
  subst e
  unfold World.cell? at h
  rw [hb] at h
  simp at h
theorem RwAt.kept {w w1 : World} {A : Option Addr} {l : List Rw} {t : Nat} (h : RwAt w A l) (hk : Kept (· = t) w w1) (hm : ∃ es c, w.heap[t]? = some (.map es c)) : RwAt w1 A l := fun i hi => by
  obtain ⟨x, h2, h3⟩ := h i hi
  refine ⟨x, h2, fun j hj => ?_⟩
  have h1 := h3 j hj
  obtain ⟨es, c, hm⟩ := hm
  rw [List.getElem?_eq_getElem hj] at h1 ⊢
  rw [hk.cell (cl_lt h1) (cl_ne_map h1 hm)]
  exact h1
theorem ts_map {w : World} {b : Nat} {l : Sums} (h : Ts w b l) : ∃ es c, w.heap[b]? = some (.map es c) := by
  obtain ⟨es, c, hb, _⟩ := h
  exact ⟨es, c, hb⟩
/-- What Merge answers. -/
def MergePost (rows : List Rw) (w : World) (e : Ending) (w' : World) : Prop := ∃ (A : Option Addr) (c : Nat) (d : List Rw), e = .returned (.slice A d.length c) ∧ RwAt w' A d ∧ Ordered d ∧ (∀ x, x ∈ d ↔ x.2 = tot rows x.1 ∧ x.2 ≠ zeroV) ∧ (∀ x ∈ d, RwOk x) ∧ d.length ≤ rows.length ∧ Below w.heap.size w w'
theorem rg_objs {w : World} {b r : Nat} {l left : Sums} (h : RgS w b r l left) : (∃ es c, w.heap[b]? = some (.map es c)) ∧ ∃ a s x c, w.heap[r]? = some (.mapIter a s x c) := by
  obtain ⟨es, clock, since, seen, c0, hb, hs, hk, he, hr, _⟩ := h
  exact ⟨⟨es, clock, hb⟩, ⟨_, since, seen, c0, hr⟩⟩
theorem own_not {w : World} {base n size : Nat} {e : TypeId} {v : Value} {xs : List Value} (h : w.ownsRow base e size v n xs) {k : Nat} {o : Obj} (hk : w.heap[k]? = some o) (ho : ∀ c e z, o ≠ .cells c e z) : some k ≠ v.ownBlock := by
  rcases h.2 with ⟨rfl, _⟩ | ⟨g, cap, cur, rfl, _, hh, _⟩
  · simp [Value.ownBlock]
  · intro he
    have : k = g := by simpa [Value.ownBlock] using he
    subst this
    rw [hk] at hh
    cases hh
    exact ho _ _ _ rfl
theorem own_iter {w w' : World} {b r base n size : Nat} {l left : Sums} {e : TypeId} {v : Value} {xs : List Value} (h : w.ownsRow base e size v n xs) (hR : RgS w b r l left) (hK : Kept (· = r) w w') : w'.ownsRow base e size v n xs := by
  obtain ⟨_, a, s, x, c, hr⟩ := rg_objs hR
  have hg : w.grownBy w' (some r) := ⟨hK.1, hK.2.1, hK.2.2.1, hK.size, fun k hk hne => hK.block hk (fun e => hne (by rw [e]))⟩
  exact own_other h hg (.inr (Ne.symm (own_not h hr (fun _ _ _ => Obj.noConfusion))))
theorem rg_grown {w w' : World} {b r base n size : Nat} {l left : Sums} {e : TypeId} {v : Value} {xs : List Value} (hR : RgS w b r l left) (h : w.ownsRow base e size v n xs) (hg : w.grownBy w' v.ownBlock) : RgS w' b r l left := by
  obtain ⟨⟨es, c, hb⟩, a, s, x, c', hr⟩ := rg_objs hR
  exact hR.same (hg.block b (blk_lt hb) (own_not h hb (fun _ _ _ => Obj.noConfusion))) (hg.block r (blk_lt hr) (own_not h hr (fun _ _ _ => Obj.noConfusion)))
theorem own_succ {W : World} {base : Nat} {e : TypeId} {size : Nat} {v : Value} {k : Nat} {xs : List Value} (h : W.ownsRow base e size v (k + 1) xs) : ∃ g cap, v = .slice (some ⟨g, 0, none⟩) (k + 1) cap := by
  rcases h.2 with ⟨_, h0⟩ | ⟨g, cap, _, rfl, _⟩
  · omega
  · exact ⟨g, cap, rfl⟩
theorem perm_step {d pre post : Sums} {p : Ky × Rw} {l : Sums} (h : (d ++ (pre ++ p :: post)).Perm l) : ((d ++ [p]) ++ (pre ++ post)).Perm l := by
  refine List.Perm.trans ?_ h
  rw [List.append_assoc]
  exact List.Perm.append_left d (show (p :: (pre ++ post)).Perm (pre ++ p :: post) from List.perm_middle.symm)
theorem getD_mem {α : Type} (l : List α) (j : Nat) (z : α) (h : j < l.length) : l.getD j z ∈ l := by
  rw [List.getD_eq_getElem?_getD, List.getElem?_eq_getElem h]
  exact List.getElem_mem h
set_option maxHeartbeats 6400000 in
theorem merge_any (A B : Option Addr) (ca cb : Nat) (a b : List Rw) (w : World) (hA : RwAt w A a) (hB : RwAt w B b) (hao : ∀ x ∈ a, RwOk x) (hbo : ∀ x ∈ b, RwOk x) (ha : a.length ≤ 400) (hb : b.length ≤ 400) :
    Calls Tryd.prog 13 #[.slice A a.length ca, .slice B b.length cb] w (MergePost (a ++ b) w) := by
  have hmm := @run_makeMap Tryd.prog
  have hro : ∀ x ∈ a ++ b, RwOk x := fun x hx => (List.mem_append.1 hx).elim (hao x) (hbo x)
  have hrl : (a ++ b).length ≤ 800 := by rw [List.length_append]; omega
  have hA2 := hA.below (bl_alloc (bl_alloc (Below.refl _ w) (.map #[] 0)) (.cells #[.slice A a.length ca, .slice B b.length cb] 26))
  have hB2 := hB.below (bl_alloc (bl_alloc (Below.refl _ w) (.map #[] 0)) (.cells #[.slice A a.length ca, .slice B b.length cb] 26))
  have hT := (Mp.made (P := Tryd.prog) (k := 64) (kv := kyV) (vv := rwV) w).alloc (.cells #[.slice A a.length ca, .slice B b.length cb] 26)
  have hBl := bl_alloc (bl_alloc (Below.refl _ w) (.map #[] 0)) (.cells #[.slice A a.length ca, .slice B b.length cb] 26)
  have hbk := bk_at (w := w.alloc (.map #[] 0)) (g := w.heap.size + 1) (cs := #[.slice A a.length ca, .slice B b.length cb]) (t := 26) (by simp)
  have hcon := concat_any (w.heap.size + 1) ca cb A B a b _ hA2 hB2 ha hb ((bk_cell hbk 0).trans rfl) ((bk_cell hbk 1).trans rfl)
  obtain ⟨rows, hrows⟩ : ∃ r, a ++ b = r := ⟨_, rfl⟩
  rw [hrows] at hro hrl hcon ⊢
  replace hcon := Lib.hid hcon
  replace hro := Lib.hid hro
  replace hT := Lib.hid hT
  replace hBl := Lib.hid hBl
  clear hA2 hB2 hbk hA hB hao hbo ha hb hrows
  go_enter Tryd.func13, Tryd.ntmps13
  go_wp2_with (fail)
  refine hcon.out.mono ?_; rintro e w1 ⟨v, rfl, ho, hB1⟩
  have hT1 := hT.out.below hB1
  have hBw := bl_then hBl.out hB1
  obtain ⟨R, cR, rfl, hR, hRc, hRm⟩ := rws_own ho
  obtain ⟨N, hN⟩ : ∃ N, rows.length = N := ⟨_, rfl⟩
  rw [hN] at hrl ⊢
  clear hcon hT hBl hB1 ho hRc hRm
  replace hN := Lib.hid hN
  replace hT1 := Lib.hid hT1
  replace hBw := Lib.hid hBw
  replace hR := Lib.hid hR
  clear hmm
  go_wp2_with (fail)
  go_loopw [18] (fun v wr => ∃ i : Nat, v = .int .i64 i ∧ i ≤ N ∧ Ts wr w.heap.size (sumsL (rows.take i)) ∧ RwAt wr R rows ∧ Below w.heap.size w wr) (fun v _ => N - (intOf v).toNat)
  case atStart => exact ⟨0, rfl, Nat.zero_le _, hT1.out, hR.out, hBw.out⟩
  case round =>
    obtain ⟨i, rfl, hi, hTr, hRr, hBr⟩ := hrel
    by_cases hil : i < N
    · have hil2 : decide ((i : Int) < (N : Int)) = true := decide_eq_true (by omega)
      obtain ⟨ad, rfl, hrow⟩ := hRr i (by rw [hN.out]; exact hil)
      have hxo := hro.out (rows.getD i zeroRw) (getD_mem rows i zeroRw (by rw [hN.out]; exact hil))
      have hstep : stepS (sumsL (rows.take i)) (rows.getD i zeroRw) = sumsL (rows.take (i + 1)) := by rw [take_snoc rows i (by rw [hN.out]; exact hil), sumsL_snoc]
      have hLo := tot_ok (rows := rows.take i) (rows.getD i zeroRw).1 (fun y hy => hro.out y (List.mem_of_mem_take hy))
      have hgs : BvOk (getS (sumsL (rows.take i)) (rows.getD i zeroRw).1).2 := by
        have hs := sums_get (rows := rows.take i) (fun y hy => hro.out y (List.mem_of_mem_take hy)) (rows.getD i zeroRw).1
        unfold getS
        by_cases e : ∃ y ∈ rows.take i, y.1 = (rows.getD i zeroRw).1
        · rw [hs.1 e]; exact hLo
        · rw [hs.2 fun y hy c => e ⟨y, hy, c⟩]; exact zeroV_ok
      obtain ⟨x, hx⟩ : ∃ x, rows.getD i zeroRw = x := ⟨_, rfl⟩
      rw [hx] at hxo hrow hstep hgs
      obtain ⟨c0, c1, c2, c3, c4, c5⟩ := rw_cellsAt hrow
      obtain ⟨L, hL⟩ : ∃ L, sumsL (rows.take i) = L := ⟨_, rfl⟩
      rw [hL] at hTr hstep hgs
      have hxk : KyOk x.1.1 x.1.2 := hxo.1
      have hTa := (hTr.alloc (.cells #[.int .i64 x.1.1, .int .u64 x.1.2, .int .u64 x.2.1, .int .u64 x.2.2.1, .int .u64 x.2.2.2.1, .int .u64 x.2.2.2.2] 32)).alloc (.cells #[.int .i64 x.1.1, .int .u64 x.1.2] 64)
      have hRa := (hRr.below (bl_alloc (Below.refl _ wr) (.cells #[.int .i64 x.1.1, .int .u64 x.1.2, .int .u64 x.2.1, .int .u64 x.2.2.1, .int .u64 x.2.2.2.1, .int .u64 x.2.2.2.2] 32))).below (bl_alloc (Below.refl _ _) (.cells #[.int .i64 x.1.1, .int .u64 x.1.2] 64))
      have hBa := bl_alloc (bl_alloc hBr (.cells #[.int .i64 x.1.1, .int .u64 x.1.2, .int .u64 x.2.1, .int .u64 x.2.2.1, .int .u64 x.2.2.2.1, .int .u64 x.2.2.2.2] 32)) (.cells #[.int .i64 x.1.1, .int .u64 x.1.2] 64)
      have hb0 := bk_new wr #[.int .i64 x.1.1, .int .u64 x.1.2, .int .u64 x.2.1, .int .u64 x.2.2.1, .int .u64 x.2.2.2.1, .int .u64 x.2.2.2.2] 32
      have hb1 := bk_alloc hb0 (.cells #[.int .i64 x.1.1, .int .u64 x.1.2] 64)
      have hb2 := bk_at (w := wr.alloc (.cells #[.int .i64 x.1.1, .int .u64 x.1.2, .int .u64 x.2.1, .int .u64 x.2.2.1, .int .u64 x.2.2.2.1, .int .u64 x.2.2.2.2] 32)) (g := wr.heap.size + 1) (cs := #[.int .i64 x.1.1, .int .u64 x.1.2]) (t := 64) (by simp)
      have hnb1 : wr.heap.size ≠ w.heap.size := by have := Mp.lt hTr; omega
      have hnb2 : wr.heap.size + 1 ≠ w.heap.size := by have := Mp.lt hTr; omega
      have hlk := ts_look hTa.drew hxk
      obtain ⟨S, hS⟩ : ∃ S, getS L x.1 = S := ⟨_, rfl⟩
      have hlk2 : (Instr.lookup 61 (.map (some w.heap.size)) (.agg #[.int .i64 x.1.1, .int .u64 x.1.2]) false).run Tryd.prog ((wr.alloc (.cells #[.int .i64 x.1.1, .int .u64 x.1.2, .int .u64 x.2.1, .int .u64 x.2.2.1, .int .u64 x.2.2.2.1, .int .u64 x.2.2.2.2] 32)).alloc (.cells #[.int .i64 x.1.1, .int .u64 x.1.2] 64)).drew = .ok (.agg #[.int .i64 S.1.1, .int .u64 S.1.2, .int .u64 S.2.1, .int .u64 S.2.2.1, .int .u64 S.2.2.2.1, .int .u64 S.2.2.2.2]) ((wr.alloc (.cells #[.int .i64 x.1.1, .int .u64 x.1.2, .int .u64 x.2.1, .int .u64 x.2.2.1, .int .u64 x.2.2.2.1, .int .u64 x.2.2.2.2] 32)).alloc (.cells #[.int .i64 x.1.1, .int .u64 x.1.2] 64)).drew := by rw [← hS]; exact hlk
      rw [hS] at hgs
      have hnew : newS L x = (x.1, addV zeroV (addV S.2 x.2)) := by unfold newS; rw [hS]
      have k1 := fun W => badd_any S x hgs hxo.2 W
      have hVo := addV_ok hgs hxo.2
      obtain ⟨V, hV⟩ : ∃ V, addV S.2 x.2 = V := ⟨_, rfl⟩
      simp only [hV] at k1 hnew hVo
      have k2 := fun W => radd_from x.1.1 x.1.2 S.1.1 S.1.2 V hVo W
      obtain ⟨U, hU⟩ : ∃ U, addV zeroV V = U := ⟨_, rfl⟩
      simp only [hU] at k2 hnew
      have hst : ∀ W, Ts W w.heap.size L → ∃ w', (Instr.mapUpdate 61 (.map (some w.heap.size)) (.agg #[.int .i64 x.1.1, .int .u64 x.1.2]) (.agg #[.int .i64 x.1.1, .int .u64 x.1.2, .int .u64 U.1, .int .u64 U.2.1, .int .u64 U.2.2.1, .int .u64 U.2.2.2])).run Tryd.prog W = .ok () w' ∧ Ts w' w.heap.size (sumsL (rows.take (i + 1))) ∧ Kept (· = w.heap.size) W w' ∧ w'.heap.size = W.heap.size := fun W hW => by
        obtain ⟨w', h1, h2, h3, h4⟩ := ts_store hW hxk (x.1, U)
        refine ⟨w', h1, ?_, h3, h4⟩
        rw [← hstep]
        unfold stepS
        rw [hnew]
        exact h2
      clear hlk hnew hV hU hS hVo hgs hLo hstep hx hL hTr hrow
      obtain ⟨z0, z1, z2, z3, z4, z5, _⟩ := hold6 hb0
      replace hst := Lib.hid hst
      replace k1 := Lib.hid k1
      replace k2 := Lib.hid k2
      replace hTa := Lib.hid hTa
      replace hRa := Lib.hid hRa
      replace hBa := Lib.hid hBa
      replace hb1 := Lib.hid hb1
      replace hb2 := Lib.hid hb2
      clear hb0 hRr hBr
      go_wp2_with (fail)
      clear c0 c1 c2 c3 c4 c5 z0 z1 z2 z3 z4 z5
      generalize (wr.alloc (.cells #[.int .i64 x.1.1, .int .u64 x.1.2, .int .u64 x.2.1, .int .u64 x.2.2.1, .int .u64 x.2.2.2.1, .int .u64 x.2.2.2.2] 32)).alloc (.cells #[.int .i64 x.1.1, .int .u64 x.1.2] 64) = W at *
      refine wp_region_noPanic ?_
      refine wp_region_held_drew (S := fun w' => Bk w' wr.heap.size #[.int .i64 x.1.1, .int .u64 x.1.2, .int .u64 x.2.1, .int .u64 x.2.2.1, .int .u64 x.2.2.2.1, .int .u64 x.2.2.2.2] 32 ∧ Bk w' (wr.heap.size + 1) #[.int .i64 x.1.1, .int .u64 x.1.2] 64) (by kernel_rfl) (⟨bk_drew hb1.out, bk_drew hb2.out⟩) (fun hHeld => ?_)
      refine wpAnyH_take (i := 0) (oi := { dst := some 27, op := Go.Op.move (Go.Operand.tmp 5), type := 61, pos := "bill.go:35", after := #[], guard := none }) (v := ?_) rfl (by kernel_rfl) (by kernel_rfl) (by kernel_rfl) (fun _ _ _ h => h) (Or.inl ⟨by rfl, ?_⟩) (by assumption) ?_
      rotate_left 1
      · intro w' hSw
        first | (go_simp; done) | (go_simp; with_reducible rfl)
      try simp only [Act.put, List.getElem_toArray, List.getElem_cons_succ, List.getElem_cons_zero, List.setIfInBounds_toArray, List.set_cons_zero, List.set_cons_succ]
      refine wpAnyH_take (i := 1) (oi := { dst := some 28, op := Go.Op.load 64 (Go.Operand.tmp 8), type := 64, pos := "bill.go:35", after := #[], guard := none }) (v := ?_) rfl (by kernel_rfl) (by kernel_rfl) (by kernel_rfl) (fun _ _ _ h => h) (Or.inl ⟨by rfl, ?_⟩) (by assumption) ?_
      rotate_left 1
      · intro w' hSw
        have y0 := (bk_cell hSw.2 0).trans rfl
        have y1 := (bk_cell hSw.2 1).trans rfl
        first | (go_simp; done) | (go_simp; with_reducible rfl)
      try simp only [Act.put, List.getElem_toArray, List.getElem_cons_succ, List.getElem_cons_zero, List.setIfInBounds_toArray, List.set_cons_zero, List.set_cons_succ]
      refine wpAnyH_take (i := 2) (oi := { dst := some 29, op := Go.Op.fieldAddr 32 (Go.Operand.tmp 7) 0, type := 0, pos := "bill.go:35", after := #[], guard := none }) (v := ?_) rfl (by kernel_rfl) (by kernel_rfl) (by kernel_rfl) (fun _ _ _ h => h) (Or.inl ⟨by rfl, ?_⟩) (by assumption) ?_
      rotate_left 1
      · intro w' hSw
        first | (go_simp; done) | (go_simp; with_reducible rfl)
      try simp only [Act.put, List.getElem_toArray, List.getElem_cons_succ, List.getElem_cons_zero, List.setIfInBounds_toArray, List.set_cons_zero, List.set_cons_succ]
      refine wpAnyH_take (i := 3) (oi := { dst := some 30, op := Go.Op.load 3 (Go.Operand.tmp 29), type := 3, pos := "bill.go:35", after := #[{ on := 2, ground := Go.Ground.data }], guard := none }) (v := ?_) rfl (by kernel_rfl) (by kernel_rfl) (by kernel_rfl) (fun _ _ _ h => h) (Or.inl ⟨by rfl, ?_⟩) (by assumption) ?_
      rotate_left 1
      · intro w' hSw
        obtain ⟨z0, z1, z2, z3, z4, z5, _⟩ := hold6 hSw.1
        first | (go_simp; done) | (go_simp; with_reducible rfl)
      try simp only [Act.put, List.getElem_toArray, List.getElem_cons_succ, List.getElem_cons_zero, List.setIfInBounds_toArray, List.set_cons_zero, List.set_cons_succ]
      refine wpAnyH_take (i := 4) (oi := { dst := some 31, op := Go.Op.fieldAddr 32 (Go.Operand.tmp 7) 1, type := 0, pos := "bill.go:35", after := #[], guard := none }) (v := ?_) rfl (by kernel_rfl) (by kernel_rfl) (by kernel_rfl) (fun _ _ _ h => h) (Or.inl ⟨by rfl, ?_⟩) (by assumption) ?_
      rotate_left 1
      · intro w' hSw
        first | (go_simp; done) | (go_simp; with_reducible rfl)
      try simp only [Act.put, List.getElem_toArray, List.getElem_cons_succ, List.getElem_cons_zero, List.setIfInBounds_toArray, List.set_cons_zero, List.set_cons_succ]
      refine wpAnyH_take (i := 5) (oi := { dst := some 32, op := Go.Op.load 30 (Go.Operand.tmp 31), type := 30, pos := "bill.go:35", after := #[{ on := 4, ground := Go.Ground.data }], guard := none }) (v := ?_) rfl (by kernel_rfl) (by kernel_rfl) (by kernel_rfl) (fun _ _ _ h => h) (Or.inl ⟨by rfl, ?_⟩) (by assumption) ?_
      rotate_left 1
      · intro w' hSw
        obtain ⟨z0, z1, z2, z3, z4, z5, _⟩ := hold6 hSw.1
        first | (go_simp; done) | (go_simp; with_reducible rfl)
      try simp only [Act.put, List.getElem_toArray, List.getElem_cons_succ, List.getElem_cons_zero, List.setIfInBounds_toArray, List.set_cons_zero, List.set_cons_succ]
      refine wpAnyH_take (i := 6) (oi := { dst := some 33, op := Go.Op.build 32 #[(0, Go.Operand.tmp 30), (1, Go.Operand.tmp 32)], type := 32, pos := "bill.go:35", after := #[{ on := 3, ground := Go.Ground.data }, { on := 5, ground := Go.Ground.data }], guard := none }) (v := ?_) rfl (by kernel_rfl) (by kernel_rfl) (by kernel_rfl) (fun _ _ _ h => h) (Or.inl ⟨by rfl, ?_⟩) (by assumption) ?_
      rotate_left 1
      · intro w' hSw
        first | (go_simp; done) | (go_simp; with_reducible rfl)
      try simp only [Act.put, List.getElem_toArray, List.getElem_cons_succ, List.getElem_cons_zero, List.setIfInBounds_toArray, List.set_cons_zero, List.set_cons_succ]
      refine wpAnyH_take (i := 7) (oi := { dst := some 34, op := Go.Op.move (Go.Operand.tmp 5), type := 61, pos := "bill.go:35", after := #[], guard := none }) (v := ?_) rfl (by kernel_rfl) (by kernel_rfl) (by kernel_rfl) (fun _ _ _ h => h) (Or.inl ⟨by rfl, ?_⟩) (by assumption) ?_
      rotate_left 1
      · intro w' hSw
        first | (go_simp; done) | (go_simp; with_reducible rfl)
      try simp only [Act.put, List.getElem_toArray, List.getElem_cons_succ, List.getElem_cons_zero, List.setIfInBounds_toArray, List.set_cons_zero, List.set_cons_succ]
      refine wpAnyH_take (i := 8) (oi := { dst := some 35, op := Go.Op.load 64 (Go.Operand.tmp 8), type := 64, pos := "bill.go:35", after := #[], guard := none }) (v := ?_) rfl (by kernel_rfl) (by kernel_rfl) (by kernel_rfl) (fun _ _ _ h => h) (Or.inl ⟨by rfl, ?_⟩) (by assumption) ?_
      rotate_left 1
      · intro w' hSw
        have y0 := (bk_cell hSw.2 0).trans rfl
        have y1 := (bk_cell hSw.2 1).trans rfl
        first | (go_simp; done) | (go_simp; with_reducible rfl)
      try simp only [Act.put, List.getElem_toArray, List.getElem_cons_succ, List.getElem_cons_zero, List.setIfInBounds_toArray, List.set_cons_zero, List.set_cons_succ]
      refine wpAnyH_take (i := 10) (oi := { dst := some 37, op := Go.Op.load 32 (Go.Operand.tmp 7), type := 32, pos := "bill.go:35", after := #[], guard := none }) (v := ?_) rfl (by kernel_rfl) (by kernel_rfl) (by kernel_rfl) (fun _ _ _ h => h) (Or.inl ⟨by rfl, ?_⟩) (by assumption) ?_
      rotate_left 1
      · intro w' hSw
        obtain ⟨z0, z1, z2, z3, z4, z5, _⟩ := hold6 hSw.1
        first | (go_simp; done) | (go_simp; with_reducible rfl)
      try simp only [Act.put, List.getElem_toArray, List.getElem_cons_succ, List.getElem_cons_zero, List.setIfInBounds_toArray, List.set_cons_zero, List.set_cons_succ]
      refine wpAnyH_ready (rs := [9]) (by kernel_rfl) (by simp) ?_
      refine (AllReadyH.cons (o := { dst := some 36, op := Go.Op.lookup 61 (Go.Operand.tmp 34) (Go.Operand.tmp 35) false, type := 32, pos := "bill.go:35", after := #[{ on := 7, ground := Go.Ground.data }, { on := 8, ground := Go.Ground.data }], guard := none }) rfl (fun K hK => ?_) AllReadyH.nil)
      go_simp
      skip
      refine hK.out _ _ ?_ (fun hHeld => ?_)
      · first | with_reducible exact hHeld | with_reducible exact hS3 | with_reducible exact hS2 | with_reducible exact hS1
      clear hK K
      try simp only [Act.put, List.getElem_toArray, List.getElem_cons_succ, List.getElem_cons_zero, List.setIfInBounds_toArray, List.set_cons_zero, List.set_cons_succ]
      refine wpAnyH_ready (rs := [11]) (by kernel_rfl) (by simp) ?_
      refine (AllReadyH.cons (o := { dst := some 38, op := Go.Op.call { callee := Go.Callee.value (Go.Operand.func 23), args := #[Go.Operand.tmp 36, Go.Operand.tmp 37], argTypes := #[32, 32] }, type := 32, pos := "bill.go:35", after := #[{ on := 9, ground := Go.Ground.data }, { on := 10, ground := Go.Ground.data }], guard := none }) rfl (fun K hK => ?_) AllReadyH.nil)
      go_simp
      go_at_call 23
      (with_reducible refine (k1.out _).mono ?_)
      rintro e wa ⟨rfl, hBx⟩
      have hS1 : Bk wa wr.heap.size #[.int .i64 x.1.1, .int .u64 x.1.2, .int .u64 x.2.1, .int .u64 x.2.2.1, .int .u64 x.2.2.2.1, .int .u64 x.2.2.2.2] 32 ∧ Bk wa (wr.heap.size + 1) #[.int .i64 x.1.1, .int .u64 x.1.2] 64 := ⟨bk_below hBx (bk_drew hb1.out), bk_below hBx (bk_drew hb2.out)⟩
      have hT2 : Ts wa w.heap.size L := hTa.out.drew.below hBx
      have hR2 := hRa.out.below (bl_then (bl_drew (Below.refl _ _)) hBx)
      have hB2 := bl_then (bl_drew hBa.out) hBx
      clear hlk2
      go_wp2_with (fail)
      refine hK.out _ _ ?_ (fun hHeld => ?_)
      · first | with_reducible exact hHeld | with_reducible exact hS3 | with_reducible exact hS2 | with_reducible exact hS1
      clear hK K
      try simp only [Act.put, List.getElem_toArray, List.getElem_cons_succ, List.getElem_cons_zero, List.setIfInBounds_toArray, List.set_cons_zero, List.set_cons_succ]
      refine wpAnyH_ready (rs := [12]) (by kernel_rfl) (by simp) ?_
      refine (AllReadyH.cons (o := { dst := some 39, op := Go.Op.call { callee := Go.Callee.value (Go.Operand.func 23), args := #[Go.Operand.tmp 33, Go.Operand.tmp 38], argTypes := #[32, 32] }, type := 32, pos := "bill.go:35", after := #[{ on := 6, ground := Go.Ground.data }, { on := 11, ground := Go.Ground.data }, { on := 11, ground := Go.Ground.chain }], guard := none }) rfl (fun K hK => ?_) AllReadyH.nil)
      go_simp
      go_at_call 23
      (with_reducible refine (k2.out _).mono ?_)
      rintro e wb ⟨rfl, hBy⟩
      have hS2 : Bk wb wr.heap.size #[.int .i64 x.1.1, .int .u64 x.1.2, .int .u64 x.2.1, .int .u64 x.2.2.1, .int .u64 x.2.2.2.1, .int .u64 x.2.2.2.2] 32 ∧ Bk wb (wr.heap.size + 1) #[.int .i64 x.1.1, .int .u64 x.1.2] 64 := ⟨bk_below hBy hS1.1, bk_below hBy hS1.2⟩
      obtain ⟨wc, hup, hT3, hK3, hs3⟩ := hst.out wb (hT2.below hBy)
      have hS3 : Bk wc wr.heap.size #[.int .i64 x.1.1, .int .u64 x.1.2, .int .u64 x.2.1, .int .u64 x.2.2.1, .int .u64 x.2.2.2.1, .int .u64 x.2.2.2.2] 32 ∧ Bk wc (wr.heap.size + 1) #[.int .i64 x.1.1, .int .u64 x.1.2] 64 := ⟨bk_kept hK3 hS2.1 hnb1, bk_kept hK3 hS2.2 hnb2⟩
      have hR3 := (hR2.below hBy).kept hK3 (ts_map (hT2.below hBy))
      have hB3 := Kept.bl (bl_then hB2 hBy) hK3 (fun j e => by subst e; exact Nat.le_refl _)
      go_wp2_with (fail)
      refine hK.out _ _ ?_ (fun hHeld => ?_)
      · first | with_reducible exact hHeld | with_reducible exact hS3 | with_reducible exact hS2 | with_reducible exact hS1
      clear hK K
      try simp only [Act.put, List.getElem_toArray, List.getElem_cons_succ, List.getElem_cons_zero, List.setIfInBounds_toArray, List.set_cons_zero, List.set_cons_succ]
      refine wpAnyH_ready (rs := [13]) (by kernel_rfl) (by simp) ?_
      refine (AllReadyH.cons (o := { dst := none, op := Go.Op.mapUpdate 61 (Go.Operand.tmp 27) (Go.Operand.tmp 28) (Go.Operand.tmp 39), type := 0, pos := "bill.go:35", after := #[{ on := 0, ground := Go.Ground.data }, { on := 1, ground := Go.Ground.data }, { on := 12, ground := Go.Ground.data }, { on := 12, ground := Go.Ground.chain }, { on := 0, ground := Go.Ground.phase }, { on := 1, ground := Go.Ground.phase }, { on := 2, ground := Go.Ground.phase }, { on := 3, ground := Go.Ground.phase }, { on := 4, ground := Go.Ground.phase }, { on := 5, ground := Go.Ground.phase }, { on := 6, ground := Go.Ground.phase }, { on := 7, ground := Go.Ground.phase }, { on := 8, ground := Go.Ground.phase }, { on := 9, ground := Go.Ground.phase }, { on := 10, ground := Go.Ground.phase }, { on := 11, ground := Go.Ground.phase }, { on := 12, ground := Go.Ground.phase }], guard := none }) rfl (fun K hK => ?_) AllReadyH.nil)
      go_simp
      skip
      refine hK.out _ _ ?_ (fun hHeld => ?_)
      · first | with_reducible exact hHeld | with_reducible exact hS3 | with_reducible exact hS2 | with_reducible exact hS1
      clear hK K
      try simp only [Act.put, List.getElem_toArray, List.getElem_cons_succ, List.getElem_cons_zero, List.setIfInBounds_toArray, List.set_cons_zero, List.set_cons_succ]
      refine wpAnyH_done (by kernel_rfl) ?_ _
      refine NoPanic.normal ?_
      go_wp2
      exact ⟨⟨i + 1, by first | rfl | (congr 1; omega), by omega, hT3, hR3, hB3⟩, by simp [intOf]; omega⟩
    · have hil2 : decide ((i : Int) < (N : Int)) = false := decide_eq_false (by omega)
      obtain rfl : i = N := by omega
      rw [show rows.take i = rows by rw [← hN.out]; exact List.take_length] at hTr
      have hnd := Mp.nodup hTr
      obtain ⟨wq, hrange, hRg, hBq, hsz⟩ := Mp.range Tryd.underlying61 hTr
      have hvm := vals_mem hro.out hnd
      have hvk := vals_keys hro.out hnd
      have hvo := vals_ok hro.out hnd
      have hvl := sums_len rows
      rw [hN.out] at hvl
      obtain ⟨L, hL⟩ : ∃ L, sumsL rows = L := ⟨_, rfl⟩
      rw [hL] at hRg hvm hvk hvo hvl
      have hBs := bl_then hBr hBq
      have hrw : w.heap.size ≤ wr.heap.size := hBr.size
      clear hTr hnd hBr hBq hL hsz hRr
      replace hvm := Lib.hid hvm
      replace hvk := Lib.hid hvk
      replace hvo := Lib.hid hvo
      replace hRg := Lib.hid hRg
      replace hBs := Lib.hid hBs
      go_wp2_with (fail)
      clear hrange
      go_loopg [9] L.length (fun k v9 wz => ∃ done left : Sums, left.length = k ∧ OwnW wz w.heap.size v9 (valsL done) ∧ RgS wz w.heap.size wr.heap.size L left ∧ (done ++ left).Perm L ∧ Below w.heap.size w wz)
      case atStart => exact ⟨[], L, rfl, own_nil _ _ _ _, hRg.out, List.Perm.refl _, hBs.out⟩
      case round =>
        obtain ⟨done, left, rfl, ho, hR, hp, hB⟩ := hrel
        have hlen : done.length + left.length = L.length := by have := hp.length_eq; rw [List.length_append] at this; exact this
        rcases hR.next 0 with ⟨rfl, hn⟩ | ⟨pre, p, post, w2, rfl, hn, hR2, hK, hs2, he⟩
        · rw [List.append_nil] at hp
          have hdp : (valsL done).Perm (valsL L) := (hp.map Prod.snd).filter _
          have hdm : ∀ x, x ∈ valsL done ↔ x.2 = tot rows x.1 ∧ x.2 ≠ zeroV := fun x => hdp.mem_iff.trans (hvm.out x)
          have hdk : ((valsL done).map Prod.fst).Nodup := (hdp.map _).nodup_iff.2 hvk.out
          have hdo : ∀ x ∈ valsL done, RwOk x := fun x hx => by
            obtain ⟨q, hq, rfl⟩ := List.mem_map.1 (List.mem_filter.1 hx).1
            exact hvo.out q (hp.mem_iff.1 hq)
          have hdl : (valsL done).length ≤ i := by have := vals_len done; simp only [List.length_nil] at hlen; omega
          obtain ⟨d, hd⟩ : ∃ d, valsL done = d := ⟨_, rfl⟩
          rw [hd] at hdm hdk hdo hdl ho
          clear hdp hp hd
          replace hdm := Lib.hid hdm
          replace hdk := Lib.hid hdk
          replace hdo := Lib.hid hdo
          rcases ho.2 with ⟨rfl, h0⟩ | ⟨gg, cap, cur, rfl, hbg, hg, hn', hm, hs, ht⟩
          · have hd : d = [] := List.length_eq_zero_iff.1 h0
            subst hd
            go_wp2_with (go_at_call 25; (with_reducible refine (sort_none _).mono ?_); rintro e w3 ⟨rfl, rfl⟩)
            go_ret
            exact ⟨none, 0, [], rfl, fun i hi => absurd hi (by simp), List.Pairwise.nil, hdm.out, hdo.out, Nat.zero_le _, hB⟩
          · obtain ⟨dS, hdS⟩ : ∃ dS : Array RwS, dS.toList.map (·.1) = d := ⟨(d.pmap (fun x hx => (⟨x, hx⟩ : RwS)) (fun _ _ => trivial)).toArray, by simp [List.map_pmap]⟩
            have hsz : d.length = dS.size := by rw [← hdS]; simp
            have hH : HoldsK encS 6 wr gg 0 dS := holdsS hg dS (by rw [← hsz, hdS]; exact ht)
            have hsort := sort_any gg cap dS wr hH (blk_lt hg) (by omega)
            rw [← hsz] at hsort
            replace hsort := Lib.hid hsort
            replace hdS := Lib.hid hdS
            replace hsz := Lib.hid hsz
            replace hH := Lib.hid hH
            replace ht := Lib.hid ht
            clear hs
            go_wp2_with (go_at_call 25; (with_reducible refine hsort.out.mono ?_); rintro e w3 ⟨rfl, d', nn, os, hperm, hsorted, rfl⟩)
            go_ret
            obtain ⟨hps, _, hpp⟩ := hperm
            have hsz' := hsz.out
            have hpm : (d'.toList.map (·.1)).Perm d := by
              rw [← hdS.out]
              refine List.Perm.map _ ?_
              have e1 : (d'.extract 0 d.length).toList = d'.toList := by rw [show d.length = d'.size by omega, Array.extract_size]
              have e2 : (dS.extract 0 d.length).toList = dS.toList := by rw [hsz', Array.extract_size]
              rw [e1, e2] at hpp
              exact hpp
            have hl' : (d'.toList.map (·.1)).length = d.length := hpm.length_eq
            refine ⟨some ⟨gg, 0, none⟩, cap, d'.toList.map (·.1), by rw [hl']; rfl, rw_of_holds (holdsK_sortWorldK_c encS 6 wr gg 0 dS d' nn os hH.out (blk_lt hg) (by omega)), ordered_of ?_ ?_, fun x => hpm.mem_iff.trans (hdm.out x), fun x hx => hdo.out x (hpm.mem_iff.1 hx), by rw [hl', hN.out]; exact hdl, hB.trans (below_sort hbg hB.size)⟩
            · rw [show d'.size = d.length by omega]; exact hsorted
            · exact (hpm.map _).nodup_iff.2 hdk.out
        · unfold kyV rwV at hn he
          have hB2 := Kept.bl hB hK (fun i e => by subst e; exact hrw)
          have ho2 := own_iter ho hR hK
          have hp2 := perm_step hp
          have hdl : (valsL done).length ≤ 1000 := by have := vals_len done; omega
          have hpo : RwOk p.2 := hvo.out p (hp.mem_iff.1 (by simp))
          have hvs := valsL_snoc done p
          have hlf : (pre ++ post).length < (pre ++ p :: post).length := by simp
          have hb3 := bk_new w2 #[.int .i64 p.2.1.1, .int .u64 p.2.1.2, .int .u64 p.2.2.1, .int .u64 p.2.2.2.1, .int .u64 p.2.2.2.2.1, .int .u64 p.2.2.2.2.2] 32
          have hB3 := bl_alloc hB2 (.cells #[.int .i64 p.2.1.1, .int .u64 p.2.1.2, .int .u64 p.2.2.1, .int .u64 p.2.2.2.1, .int .u64 p.2.2.2.2.1, .int .u64 p.2.2.2.2.2] 32)
          have hR3 := hR2.below (bl_alloc (Below.refl _ w2) (.cells #[.int .i64 p.2.1.1, .int .u64 p.2.1.2, .int .u64 p.2.2.1, .int .u64 p.2.2.2.1, .int .u64 p.2.2.2.2.1, .int .u64 p.2.2.2.2.2] 32))
          have ho3 := pw_own_below ho2 (bl_alloc (Below.refl _ w2) (.cells #[.int .i64 p.2.1.1, .int .u64 p.2.1.2, .int .u64 p.2.2.1, .int .u64 p.2.2.2.1, .int .u64 p.2.2.2.2.1, .int .u64 p.2.2.2.2.2] 32))
          clear hp hlen
          replace hp2 := Lib.hid hp2
          replace hB3 := Lib.hid hB3
          replace hR3 := Lib.hid hR3
          replace ho3 := Lib.hid ho3
          replace hb3 := Lib.hid hb3
          replace hlf := Lib.hid hlf
          obtain ⟨z0, z1, z2, z3, z4, z5, _⟩ := hold6 hb3.out
          cases hE : emptyV p.2.2 with
          | true =>
            rw [hE, if_pos rfl] at hvs
            have k1 := fun W => rempty_any p.2 hpo W
            simp only [hE] at k1
            replace k1 := Lib.hid k1
            replace hvs := Lib.hid hvs
            clear ho hR hR2 ho2 hB2 hB hE hK
            go_wp2_with (fail)
            refine (k1.out _).mono ?_; rintro e w3 ⟨rfl, hB4⟩
            go_wp2
            go_roundg (pre ++ post).length
            case measure => exact hlf.out
            case rel => exact ⟨done ++ [p], pre ++ post, rfl, by rw [hvs.out]; exact pw_own_below ho3.out hB4, hR3.out.below hB4, hp2.out, bl_then hB3.out hB4⟩
          | false =>
            rw [hE, if_neg Bool.false_ne_true] at hvs
            have k1 := fun W => rempty_any p.2 hpo W
            simp only [hE] at k1
            have hvl2 : (valsL (done ++ [p])).length = (valsL done).length + 1 := by rw [hvs, List.length_append]; rfl
            have hvr : wrows (valsL (done ++ [p])) = wrows (valsL done) ++ rwRow p.2 := by rw [hvs, wrows_snoc]
            obtain ⟨D, hD⟩ : ∃ D, valsL done = D := ⟨_, rfl⟩
            rw [hD] at ho3 hvl2 hvr hdl
            replace k1 := Lib.hid k1
            replace hvl2 := Lib.hid hvl2
            replace hvr := Lib.hid hvr
            clear ho hR hR2 ho2 hB2 hB hE hK hvs hD
            go_wp2_with (fail)
            refine (k1.out _).mono ?_; rintro e w3 ⟨rfl, hB4⟩
            have hb4 : Bk w3 wr.heap.size #[.int .i64 p.2.1.1, .int .u64 p.2.1.2, .int .u64 p.2.2.1, .int .u64 p.2.2.2.1, .int .u64 p.2.2.2.2.1, .int .u64 p.2.2.2.2.2] 32 := by rw [← hs2]; exact bk_below hB4 hb3.out
            obtain ⟨y0, y1, y2, y3, y4, y5, _⟩ := hold6 hb4
            have ho4 := pw_own_below (pw_own_below ho3.out hB4) (bl_alloc (Below.refl _ _) (.cells #[.int .i64 p.2.1.1, .int .u64 p.2.1.2, .int .u64 p.2.2.1, .int .u64 p.2.2.2.1, .int .u64 p.2.2.2.2.1, .int .u64 p.2.2.2.2.2] 32))
            have hR4 := (hR3.out.below hB4).below (bl_alloc (Below.refl _ _) (.cells #[.int .i64 p.2.1.1, .int .u64 p.2.1.2, .int .u64 p.2.2.1, .int .u64 p.2.2.2.1, .int .u64 p.2.2.2.2.1, .int .u64 p.2.2.2.2.2] 32))
            have hB5 := bl_alloc (bl_then hB3.out hB4) (.cells #[.int .i64 p.2.1.1, .int .u64 p.2.1.2, .int .u64 p.2.2.1, .int .u64 p.2.2.2.1, .int .u64 p.2.2.2.2.1, .int .u64 p.2.2.2.2.2] 32)
            replace ho4 := Lib.hid ho4
            replace hR4 := Lib.hid hR4
            replace hB5 := Lib.hid hB5
            go_wp2_with (at_builtin; refine append_rw1 w.heap.size rfl (.tmp 50) (.tmp 52) rfl _ D p.2 _ rfl rfl ho4.out (rw_news rfl p.2) hdl hB5.out.size ?_; intro v' w4 hown hgrow)
            go_roundg (pre ++ post).length
            case measure => exact hlf.out
            case rel => exact ⟨done ++ [p], pre ++ post, rfl, by rw [OwnW, hvl2.out, hvr.out]; exact hown, rg_grown hR4.out ho4.out hgrow, hp2.out, hB5.out.grown hgrow hB5.out.size (own_base ho4.out)⟩
end Go.Proofs.YtebeknnjjoobnaaDoor
