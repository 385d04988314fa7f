/- Contracts: the row of a packet, the rows of a history (bill.row, bill.Rows). -/
import Derived.Test.YtebeknnjjoobnaaDoorBiO
import Derived.Deep.MidRow
import Derived.Deep.CutRange
set_option linter.unusedVariables false
set_option linter.unusedSimpArgs false
set_option maxRecDepth 100000
namespace Go.Proofs.YtebeknnjjoobnaaDoor
open Go.RowKit Go.Sort Go.Lib Go.Shelf Go.Proofs Go.Proofs.YtebeknnjjoobnaaDoorW.PrintWords
attribute [local go_sem] max2_int min2_int max_two min_two
attribute [local go_sem ↓] eql_rw neq_rw

/-- What a bill reads of a moment. -/
structure Mo where
  kind : Int
  err : Int
  sub : Int
  tier : Int
  nb : Nat
  per : Option Int
def zeroMo : Mo := ⟨0, 0, 0, 0, 0, none⟩
def rowV (tier : Int) (nb : Nat) : Bv := if tier = 1 then (1, nb, 0, 0) else (0, 0, 1, nb)
def sentB (m : Mo) : Bool := decide (m.kind = 2) && decide (m.err = 0)
def rowOf (m : Mo) (per : Int) : Rw := ((m.sub, per), rowV m.tier m.nb)
def rowsStep (s : List Rw × Int) (m : Mo) : List Rw × Int := (if sentB m then s.1 ++ [rowOf m s.2] else s.1, m.per.getD s.2)
def rowsL (ms : List Mo) : List Rw × Int := ms.foldl rowsStep ([], 1)
theorem rowsL_snoc (ms : List Mo) (m : Mo) : rowsL (ms ++ [m]) = rowsStep (rowsL ms) m := by unfold rowsL; rw [List.foldl_append]; rfl
theorem rowV_cases (tier : Int) (nb : Nat) : (tier = 1 ∧ rowV tier nb = (1, (nb : Int), 0, 0)) ∨ (tier ≠ 1 ∧ rowV tier nb = (0, 0, 1, (nb : Int))) := by
  unfold rowV
  by_cases h : tier = 1
  · exact .inl ⟨h, if_pos h⟩
  · exact .inr ⟨h, if_neg h⟩
set_option maxHeartbeats 800000 in
theorem row_any (sub tier per : Int) (f : Bool) (Ab : Option Addr) (nb cb : Nat) (hnb : nb ≤ 1000000) (w : World) :
    Calls Tryd.prog 19 #[.agg #[.int .i64 sub, .int .i64 tier, .bool f, .slice Ab nb cb], .int .u64 per] w fun e w' => e = .returned (.agg #[.int .i64 sub, .int .u64 per, .int .u64 (rowV tier nb).1, .int .u64 (rowV tier nb).2.1, .int .u64 (rowV tier nb).2.2.1, .int .u64 (rowV tier nb).2.2.2]) ∧ Below w.heap.size w w' := by
  have hb0 := bk_alloc (bk_new w #[.int .i64 sub, .int .i64 tier, .bool f, .slice Ab nb cb] 48) (.cells #[.int .i64 0, .int .u64 0, .int .u64 0, .int .u64 0, .int .u64 0, .int .u64 0] 32)
  have hb1 := bk_at (w := w.alloc (.cells #[.int .i64 sub, .int .i64 tier, .bool f, .slice Ab nb cb] 48)) (g := w.heap.size + 1) (cs := #[.int .i64 0, .int .u64 0, .int .u64 0, .int .u64 0, .int .u64 0, .int .u64 0]) (t := 32) (by simp)
  have hB0 := bl_alloc (bl_alloc (Below.refl _ w) (.cells #[.int .i64 sub, .int .i64 tier, .bool f, .slice Ab nb cb] 48)) (.cells #[.int .i64 0, .int .u64 0, .int .u64 0, .int .u64 0, .int .u64 0, .int .u64 0] 32)
  have x0 := (bk_cell hb0 0).trans rfl
  have x1 := (bk_cell hb0 1).trans rfl
  have x2 := (bk_cell hb0 2).trans rfl
  have x3 := (bk_cell hb0 3).trans rfl
  obtain ⟨u0, u1, u2, u3, u4, u5, w0, w1, w2, w3, w4, w5⟩ := hold6 hb1
  have hwr : IntKind.u64.wrap (nb : Int) = nb := by rw [IntKind.wrap_u64]; omega
  replace hb0 := Lib.hid hb0
  replace hb1 := Lib.hid hb1
  replace hB0 := Lib.hid hB0
  rcases rowV_cases tier nb with ⟨h, hV⟩ | ⟨h, hV⟩
  · rw [hV]
    have e1 : (tier == 1) = true := by simp [h]
    clear h hV
    go_enter Tryd.func19, Tryd.ntmps19
    go_wp2
    exact ⟨rfl, _, end_rw rfl _ rfl (bk_at (w := w.alloc (.cells #[.int .i64 sub, .int .i64 tier, .bool f, .slice Ab nb cb] 48)) (g := w.heap.size + 1) (by simp)), rfl, bl_alloc (bl_alloc (Below.refl _ w) _) _⟩
  · rw [hV]
    have e1 : (tier == 1) = false := by simp [h]
    clear h hV
    go_enter Tryd.func19, Tryd.ntmps19
    go_wp2
    exact ⟨rfl, _, end_rw rfl _ rfl (bk_at (w := w.alloc (.cells #[.int .i64 sub, .int .i64 tier, .bool f, .slice Ab nb cb] 48)) (g := w.heap.size + 1) (by simp)), rfl, bl_alloc (bl_alloc (Below.refl _ w) _) _⟩
def MoOk (m : Mo) : Prop := I64 m.sub ∧ m.nb ≤ 1000000 ∧ ∀ p, m.per = some p → U64 p
/-- A moment at an address. -/
def MoIs (w : World) (x : Addr) (m : Mo) : Prop := ∃ (cs : List Value) (f : Bool) (Ab Ai : Option Addr) (cb ni ci : Nat), cs.length = 49 ∧ RowAt w x cs ∧ (∀ u ∈ cs, u.oneCell' = true) ∧ cs[0]? = some (.int .i64 m.kind) ∧ cs[19]? = some (.int .i64 m.err) ∧ cs[22]? = some (.int .i64 m.sub) ∧ cs[23]? = some (.int .i64 m.tier) ∧ cs[24]? = some (.bool f) ∧ cs[25]? = some (.slice Ab m.nb cb) ∧ cs[48]? = some (.slice Ai ni ci) ∧ ((m.per = none ∧ ni = 0) ∨ ∃ p ai, m.per = some p ∧ 0 < ni ∧ Ai = some ai ∧ w.cell? ai = some (.int .u64 p))
def MomAt (w : World) (A : Option Addr) (ms : List Mo) : Prop := ∀ i, i < ms.length → MoOk (ms.getD i zeroMo) ∧ ∃ x, A = some x ∧ MoIs w (x.add (i * 49)) (ms.getD i zeroMo)
theorem mo_size : (Tryd.prog.info? 55).map (·.size) = some 49 := by kernel_rfl
section
variable {P : Program}
theorem run_loadVar_at (w : World) (x : Addr) (ty : TypeId) (cs : List Value) (d : TypeDesc) (hc : RowAt w x cs) (hu : P.underlying ty = some d) (hd : d.isRow = true) (hi : (P.info? ty).map (·.size) = some cs.length) :
    (loadVar ty x).run P w = .ok (.agg cs.toArray) w := by
  have hl : (loadCells x cs.length).run P w = .ok cs.toArray w := run_loadCells_list (P := P) w x cs (fun j v hv => by
    have hj := (List.getElem?_eq_some_iff.1 hv).1
    rw [hc j hj]; exact hv)
  cases hq : P.info? ty with
  | none => simp [hq] at hi
  | some i =>
    have hs : i.size = cs.length := by simpa [hq] using hi
    have hagg : (isAgg ty).run P w = .ok true w := by
      unfold isAgg
      rw [Sem.run_bind, run_underlying hu w]
      cases d <;> simp_all
    simp [loadVar, Sem.run_bind, hagg, sizeOf, typeInfo, hq, hs, hl]
theorem wpList_load_at {ops : Array Oper} {rest : List Oper} {op : Oper} {a : Act} {w : World} {Q : Exit → Act → World → Prop} (hgd : op.guard = none) (ty : TypeId) (x : Operand) (ho : op.op = .load ty x)
    (ad : Addr) (hx : a.eval x = .pointer (some ad)) (cs : List Value) (d : TypeDesc) (hc : RowAt w ad cs) (hu : P.underlying ty = some d) (hd : d.isRow = true) (hi : (P.info? ty).map (·.size) = some cs.length)
    (h : wpList P ops Q rest (a.put op.dst (.agg cs.toArray)) w) : wpList P ops Q (op :: rest) a w :=
  wpList_plain hgd fun _ hK => by
    unfold Oper.wp execOp
    simp only [ho, hx, Instr.loadAt, Instr.sureAddr, Sem.run_bind, Sem.run_pure, Result.andThen_ok, run_loadVar_at w ad ty cs d hc hu hd hi]
    exact hK _ _ h
end
theorem bk_setRow {w : World} {g : Nat} {old cs : Array Value} {t : TypeId} (h : Bk w g old t) : Bk (w.setRow g cs) g cs t := by
  unfold Bk at *
  simp [World.setRow, Array.getElem?_modify, h]
theorem bl_setRow {B : Nat} {w W : World} {g : Nat} {cs : Array Value} (h : Below B w W) (hg : B ≤ g) : Below B w (W.setRow g cs) :=
  ⟨h.os, h.tape, h.output, by simp [World.setRow]; exact h.size, fun k hk => by
    show (W.heap.modify g _)[k]? = _
    rw [Array.getElem?_modify, if_neg (by omega)]; exact h.block k hk⟩
theorem rows_ok {ms : List Mo} : (∀ m ∈ ms, MoOk m) → (∀ x ∈ (rowsL ms).1, RwOk x) ∧ U64 (rowsL ms).2 := by
  refine rev_ind (p := fun ms => (∀ m ∈ ms, MoOk m) → (∀ x ∈ (rowsL ms).1, RwOk x) ∧ U64 (rowsL ms).2) (fun _ => ⟨fun x hx => absurd hx (by simp [rowsL]), ⟨by decide, by decide⟩⟩) (fun l m ih h => ?_) ms
  obtain ⟨h1, h2⟩ := ih fun y hy => h y (by simp [hy])
  obtain ⟨m1, m2, m3⟩ := h m (by simp)
  rw [rowsL_snoc]
  unfold rowsStep
  constructor
  · intro x hx
    dsimp only at hx
    split at hx
    · rcases List.mem_append.1 hx with c | c
      · exact h1 x c
      · obtain rfl : x = rowOf m (rowsL l).2 := by simpa using c
        refine ⟨⟨m1, h2⟩, ?_⟩
        show BvOk (rowV m.tier m.nb)
        rcases rowV_cases m.tier m.nb with ⟨_, e⟩ | ⟨_, e⟩ <;> rw [e] <;> refine ⟨⟨?_, ?_⟩, ⟨?_, ?_⟩, ⟨?_, ?_⟩, ?_, ?_⟩ <;> dsimp only <;> omega
    · exact h1 x hx
  · dsimp only
    cases hp : m.per with
    | none => exact h2
    | some p => exact m3 p hp
theorem rows_len (ms : List Mo) : (rowsL ms).1.length ≤ ms.length := by
  refine rev_ind (p := fun ms => (rowsL ms).1.length ≤ ms.length) (Nat.zero_le _) (fun l m ih => ?_) ms
  rw [rowsL_snoc, List.length_append]
  unfold rowsStep
  dsimp only
  split
  · rw [List.length_append]; simp; omega
  · simp; omega
theorem take_snoc' {α : Type} (z : α) (d : List α) (i : Nat) (hi : i < d.length) : d.take (i + 1) = d.take i ++ [d.getD i z] := by
  rw [List.take_add_one, List.getD_eq_getElem?_getD, List.getElem?_eq_getElem hi]; rfl
theorem own_lt {W : World} {base n size : Nat} {e : TypeId} {v : Value} {xs : List Value} (HO : W.ownsRow base e size v n xs) : some W.heap.size ≠ v.ownBlock := by
  rcases HO.2 with ⟨rfl, _⟩ | ⟨k, cap, cur, rfl, _, hh, _⟩
  · simp [Value.ownBlock]
  · intro he
    have : W.heap.size = k := by simpa [Value.ownBlock] using he
    have := blk_lt hh
    omega
theorem cl_grown {W w1 : World} {g o : Nat} {u : Value} {v : Value} (h : W.cell? ⟨g, o, none⟩ = some u) (hlt : g < W.heap.size) (hne : some g ≠ v.ownBlock) (hg : W.grownBy w1 v.ownBlock) : w1.cell? ⟨g, o, none⟩ = some u :=
  (World.cell?_of_block (w := W) (hg.block g hlt hne)).trans h
set_option maxHeartbeats 12800000 in
theorem rows_any (A : Option Addr) (ms : List Mo) (cap : Nat) (w : World) (hA : MomAt w A ms) (hl : ms.length ≤ 300) :
    Calls Tryd.prog 11 #[.slice A ms.length cap] w (MergePost (rowsL ms).1 w) := by
  have hmo : ∀ m ∈ ms, MoOk m := fun m hm => by
    obtain ⟨i, hi, rfl⟩ := List.mem_iff_getElem.1 hm
    have := (hA i hi).1
    rwa [List.getD_eq_getElem?_getD, List.getElem?_eq_getElem hi] at this
  have hlr := rows_len ms
  have hrok := (rows_ok hmo).1
  obtain ⟨N, hN⟩ : ∃ N, ms.length = N := ⟨_, rfl⟩
  rw [hN] at hl hlr ⊢
  obtain ⟨OUT, hO⟩ : ∃ o, (rowsL ms).1 = o := ⟨_, rfl⟩
  rw [hO] at hlr hrok ⊢
  replace hO := Lib.hid hO
  replace hN := Lib.hid hN
  replace hA := Lib.hid hA
  replace hmo := Lib.hid hmo
  replace hrok := Lib.hid hrok
  go_enter Tryd.func11, Tryd.ntmps11
  go_wp2_with (fail)
  go_loopw [3, 4, 9] (fun v3 v4 v9 wr => ∃ i : Nat, v9 = .int .i64 i ∧ i ≤ N ∧ v3 = .int .u64 (rowsL (ms.take i)).2 ∧ OwnW wr w.heap.size v4 (rowsL (ms.take i)).1 ∧ Below w.heap.size w wr) (fun _ _ v _ => N - (intOf v).toNat)
  case atStart => exact ⟨0, rfl, Nat.zero_le _, rfl, own_nil _ _ _ _, Below.refl _ _⟩
  case round =>
    obtain ⟨i, rfl, hi, rfl, ho, hBr⟩ := hrel
    by_cases hil : i < N
    · have hil2 : decide ((i : Int) < (N : Int)) = true := decide_eq_true (by omega)
      obtain ⟨hmok, ad, hAd, hmi⟩ := hA.out i (by rw [hN.out]; exact hil)
      have hstep := rowsL_snoc (ms.take i) (ms.getD i zeroMo)
      rw [← take_snoc' zeroMo ms i (by rw [hN.out]; exact hil)] at hstep
      have hol := rows_len (ms.take i)
      rw [List.length_take] at hol
      obtain ⟨m, hm⟩ : ∃ m, ms.getD i zeroMo = m := ⟨_, rfl⟩
      rw [hm] at hmok hmi hstep
      obtain ⟨⟨O, P⟩, hOP⟩ : ∃ s, rowsL (ms.take i) = s := ⟨_, rfl⟩
      rw [hOP] at ho hol hstep ⊢
      have hol2 : O.length ≤ 1000 := by dsimp only at hol; omega
      unfold rowsStep at hstep
      dsimp only at hstep ho ⊢
      obtain ⟨cs, f, Ab, Ai, cb, ni, ci, hlen, hrow, hone, p0, p19, p22, p23, p24, p25, p48, hper⟩ := hmi
      have hrow := hrow.far hBr
      subst hAd
      have hnb : m.nb ≤ 1000000 := hmok.2.1
      have hno : some wr.heap.size ≠ u4.ownBlock := own_lt ho
      replace hstep := Lib.hid hstep
      replace ho := Lib.hid ho
      replace hBr := Lib.hid hBr
      clear hol hm hOP hmok
      replace hrow := Lib.hid hrow
      replace hone := Lib.hid hone
      replace hlen := Lib.hid hlen
      go_upto_region 5 with (fail)
      go_cut [6] from 10 to 40 (fun v6 wx => v6 = .pointer (some ⟨wr.heap.size, 0, none⟩) ∧ wx.cell? ⟨wr.heap.size, 0, none⟩ = some (.int .i64 m.kind) ∧ wx.cell? ⟨wr.heap.size, 19, none⟩ = some (.int .i64 m.err) ∧ wx.cell? ⟨wr.heap.size, 22, none⟩ = some (.int .i64 m.sub) ∧ wx.cell? ⟨wr.heap.size, 23, none⟩ = some (.int .i64 m.tier) ∧ wx.cell? ⟨wr.heap.size, 24, none⟩ = some (.bool f) ∧ wx.cell? ⟨wr.heap.size, 25, none⟩ = some (.slice Ab m.nb cb) ∧ wx.cell? ⟨wr.heap.size, 48, none⟩ = some (.slice Ai ni ci) ∧ wr.heap.size < wx.heap.size ∧ Below wr.heap.size wr wx)
      case first =>
        refine wp_region_lit ?_
        refine wpList_plain rfl (fun K hK => ?_)
        go_simp
        refine hK _ _ ?_
        clear hK K
        try simp only [Act.put, List.getElem_toArray, List.getElem_cons_succ, List.getElem_cons_zero, List.setIfInBounds_toArray, List.set_cons_zero, List.set_cons_succ]
        refine wpList_load_at rfl 55 (.tmp 11) rfl (ad.add (i * 49)) rfl cs _ hrow.out Tryd.underlying55 rfl (by rw [hlen.out]; exact mo_size) ?_
        refine wpList_plain rfl (fun K hK => ?_)
        go_simp
        refine hK _ _ ?_
        clear hK K
        try simp only [Act.put, List.getElem_toArray, List.getElem_cons_succ, List.getElem_cons_zero, List.setIfInBounds_toArray, List.set_cons_zero, List.set_cons_succ]
        refine wpList_store_row rfl 55 (.tmp 6) (.tmp 12) rfl wr.heap.size cs.toArray rfl rfl 55 _ (heap_alloc_new wr _) (by rw [List.size_toArray, hlen.out]; exact mo_size) (by show 49 = cs.toArray.size; rw [List.size_toArray, hlen.out]) (by rw [Array.all_eq_true_iff_forall_mem]; intro u hu; exact hone.out u (by simpa using hu)) ?_
        go_wp2_with (fail)
        go_meet
        have hbx := bk_setRow (cs := cs.toArray) (bk_new wr #[.int .i64 0, .int .i64 0, .int .i64 0, .int .u64 0, .slice none 0 0, .int .i64 0, .int .u8 0, .int .u8 0, .int .u8 0, .int .u8 0, .int .i64 0, .int .u64 0, .int .u64 0, .int .u64 0, .int .u64 0, .int .u64 0, .int .u64 0, .int .u64 0, .slice none 0 0, .int .i64 0, .int .i64 0, .bool false, .int .i64 0, .int .i64 0, .bool false, .slice none 0 0, .int .u64 0, .int .i64 0, .bool false, .int .i64 0, .int .u8 0, .int .u8 0, .int .u8 0, .int .u8 0, .int .i64 0, .int .u64 0, .int .u64 0, .int .u64 0, .int .u64 0, .int .u64 0, .int .u64 0, .int .u64 0, .int .u64 0, .int .u64 0, .int .i64 0, .int .u64 0, .int .u64 0, .bool false, .slice none 0 0] 55)
        exact ⟨rfl, (bk_cell hbx 0).trans (by rw [List.getElem?_toArray]; exact p0), (bk_cell hbx 19).trans (by rw [List.getElem?_toArray]; exact p19), (bk_cell hbx 22).trans (by rw [List.getElem?_toArray]; exact p22), (bk_cell hbx 23).trans (by rw [List.getElem?_toArray]; exact p23), (bk_cell hbx 24).trans (by rw [List.getElem?_toArray]; exact p24), (bk_cell hbx 25).trans (by rw [List.getElem?_toArray]; exact p25), (bk_cell hbx 48).trans (by rw [List.getElem?_toArray]; exact p48), bk_lt hbx, bl_setRow (bl_alloc (Below.refl _ _) _) (Nat.le_refl _)⟩
      case rest =>
       obtain ⟨rfl, z0, z19, z22, z23, z24, z25, z48, hlt, hBx⟩ := hcut
       clear p0 p19 p22 p23 p24 p25 p48 hlen hrow hone
       have hoa := pw_own_below ho.out hBx
       have hBa := bl_then hBr.out hBx
       replace hoa := Lib.hid hoa
       replace hBa := Lib.hid hBa
       clear ho hBr hBx
       rcases hper with ⟨hp, rfl⟩ | ⟨p, ai, hp, hni, rfl, hai⟩
       · have hpp := Lib.hid hp
         clear hp
         by_cases hk : m.kind = 2
         · have e1 : (m.kind == 2) = true := by simp [hk]
           by_cases he : m.err = 0
           · have e2 : (m.err == 0) = true := by simp [he]
             have hsb : sentB m = true := by unfold sentB; simp [hk, he]
             have hstep2 := hstep.out
             rw [hsb, if_pos rfl] at hstep2
             clear hstep
             replace hk := Lib.hid hk
             replace he := Lib.hid he
             have hrlen : (O ++ [rowOf m P]).length = O.length + 1 := by rw [List.length_append]; rfl
             have hrrow := wrows_snoc O (rowOf m P)
             replace hstep2 := Lib.hid hstep2
             replace hrlen := Lib.hid hrlen
             replace hrrow := Lib.hid hrrow
             go_wp2_with (fail)
             refine (row_any m.sub m.tier P f Ab m.nb cb hnb _).mono ?_; rintro e w3 ⟨rfl, hB4⟩
             have ho4 := pw_own_below (pw_own_below hoa.out hB4) (bl_alloc (Below.refl _ _) (.cells #[.int .i64 m.sub, .int .u64 P, .int .u64 (rowV m.tier m.nb).1, .int .u64 (rowV m.tier m.nb).2.1, .int .u64 (rowV m.tier m.nb).2.2.1, .int .u64 (rowV m.tier m.nb).2.2.2] 32))
             have hB5 := bl_alloc (bl_then hBa.out hB4) (.cells #[.int .i64 m.sub, .int .u64 P, .int .u64 (rowV m.tier m.nb).1, .int .u64 (rowV m.tier m.nb).2.1, .int .u64 (rowV m.tier m.nb).2.2.1, .int .u64 (rowV m.tier m.nb).2.2.2] 32)
             have hb5 := cl_far (bl_alloc (Below.refl _ _) (.cells #[.int .i64 m.sub, .int .u64 P, .int .u64 (rowV m.tier m.nb).1, .int .u64 (rowV m.tier m.nb).2.1, .int .u64 (rowV m.tier m.nb).2.2.1, .int .u64 (rowV m.tier m.nb).2.2.2] 32)) (cl_far hB4 z48)
             have hlt5 := Nat.lt_of_lt_of_le hlt (bl_then hB4 (bl_alloc (Below.refl _ _) (.cells #[.int .i64 m.sub, .int .u64 P, .int .u64 (rowV m.tier m.nb).1, .int .u64 (rowV m.tier m.nb).2.1, .int .u64 (rowV m.tier m.nb).2.2.1, .int .u64 (rowV m.tier m.nb).2.2.2] 32))).size
             replace ho4 := Lib.hid ho4
             replace hB5 := Lib.hid hB5
             replace hb5 := Lib.hid hb5
             replace hlt5 := Lib.hid hlt5
             clear hoa hBa hB4
             go_wp2_with (at_builtin; refine append_rw1 w.heap.size rfl (.tmp 23) (.tmp 29) rfl _ O (rowOf m P) _ rfl rfl ho4.out (rw_news rfl (rowOf m P)) hol2 hB5.out.size ?_; intro v' w4 hown hgrow; have hB7 := hB5.out.grown hgrow hB5.out.size (own_base ho4.out); have y48 := cl_grown hb5.out hlt5.out hno hgrow)
             exact ⟨⟨i + 1, by first | rfl | (congr 1; omega), by omega, by rw [hstep2.out, hpp.out]; rfl, by rw [hstep2.out, OwnW, hrlen.out, hrrow.out]; exact hown, hB7⟩, by simp [intOf]; omega⟩
           · have e2 : (m.err == 0) = false := by simp [he]
             have hsb : sentB m = false := by unfold sentB; simp [he]
             have hstep2 := hstep.out
             replace hk := Lib.hid hk
             replace he := Lib.hid he
             rw [hsb, if_neg Bool.false_ne_true] at hstep2
             clear hstep
             replace hstep2 := Lib.hid hstep2
             go_wp2
             exact ⟨⟨i + 1, by first | rfl | (congr 1; omega), by omega, by rw [hstep2.out, hpp.out]; rfl, by rw [hstep2.out]; exact hoa.out, hBa.out⟩, by simp [intOf]; omega⟩
         · have e1 : (m.kind == 2) = false := by simp [hk]
           have hsb : sentB m = false := by unfold sentB; simp [hk]
           have hstep2 := hstep.out
           replace hk := Lib.hid hk
           rw [hsb, if_neg Bool.false_ne_true] at hstep2
           clear hstep
           replace hstep2 := Lib.hid hstep2
           go_wp2
           exact ⟨⟨i + 1, by first | rfl | (congr 1; omega), by omega, by rw [hstep2.out, hpp.out]; rfl, by rw [hstep2.out]; exact hoa.out, hBa.out⟩, by simp [intOf]; omega⟩
       · have hpp := Lib.hid hp
         clear hp
         have hni2 : decide ((0 : Int) < (ni : Int)) = true := decide_eq_true (by omega)
         by_cases hk : m.kind = 2
         · have e1 : (m.kind == 2) = true := by simp [hk]
           by_cases he : m.err = 0
           · have e2 : (m.err == 0) = true := by simp [he]
             have hsb : sentB m = true := by unfold sentB; simp [hk, he]
             have hstep2 := hstep.out
             rw [hsb, if_pos rfl] at hstep2
             clear hstep
             replace hk := Lib.hid hk
             replace he := Lib.hid he
             have hrlen : (O ++ [rowOf m P]).length = O.length + 1 := by rw [List.length_append]; rfl
             have hrrow := wrows_snoc O (rowOf m P)
             replace hstep2 := Lib.hid hstep2
             replace hrlen := Lib.hid hrlen
             replace hrrow := Lib.hid hrrow
             go_wp2_with (fail)
             refine (row_any m.sub m.tier P f Ab m.nb cb hnb _).mono ?_; rintro e w3 ⟨rfl, hB4⟩
             have ho4 := pw_own_below (pw_own_below hoa.out hB4) (bl_alloc (Below.refl _ _) (.cells #[.int .i64 m.sub, .int .u64 P, .int .u64 (rowV m.tier m.nb).1, .int .u64 (rowV m.tier m.nb).2.1, .int .u64 (rowV m.tier m.nb).2.2.1, .int .u64 (rowV m.tier m.nb).2.2.2] 32))
             have hB5 := bl_alloc (bl_then hBa.out hB4) (.cells #[.int .i64 m.sub, .int .u64 P, .int .u64 (rowV m.tier m.nb).1, .int .u64 (rowV m.tier m.nb).2.1, .int .u64 (rowV m.tier m.nb).2.2.1, .int .u64 (rowV m.tier m.nb).2.2.2] 32)
             have hb5 := cl_far (bl_alloc (Below.refl _ _) (.cells #[.int .i64 m.sub, .int .u64 P, .int .u64 (rowV m.tier m.nb).1, .int .u64 (rowV m.tier m.nb).2.1, .int .u64 (rowV m.tier m.nb).2.2.1, .int .u64 (rowV m.tier m.nb).2.2.2] 32)) (cl_far hB4 z48)
             have hlt5 := Nat.lt_of_lt_of_le hlt (bl_then hB4 (bl_alloc (Below.refl _ _) (.cells #[.int .i64 m.sub, .int .u64 P, .int .u64 (rowV m.tier m.nb).1, .int .u64 (rowV m.tier m.nb).2.1, .int .u64 (rowV m.tier m.nb).2.2.1, .int .u64 (rowV m.tier m.nb).2.2.2] 32))).size
             replace ho4 := Lib.hid ho4
             replace hB5 := Lib.hid hB5
             replace hb5 := Lib.hid hb5
             replace hlt5 := Lib.hid hlt5
             clear hoa hBa hB4
             go_wp2_with (at_builtin; refine append_rw1 w.heap.size rfl (.tmp 23) (.tmp 29) rfl _ O (rowOf m P) _ rfl rfl ho4.out (rw_news rfl (rowOf m P)) hol2 hB5.out.size ?_; intro v' w4 hown hgrow; have hB7 := hB5.out.grown hgrow hB5.out.size (own_base ho4.out); have y48 := cl_grown hb5.out hlt5.out hno hgrow; have ha7 := cl_far hB7 hai)
             exact ⟨⟨i + 1, by first | rfl | (congr 1; omega), by omega, by rw [hstep2.out, hpp.out]; rfl, by rw [hstep2.out, OwnW, hrlen.out, hrrow.out]; exact hown, hB7⟩, by simp [intOf]; omega⟩
           · have e2 : (m.err == 0) = false := by simp [he]
             have hsb : sentB m = false := by unfold sentB; simp [he]
             have hstep2 := hstep.out
             replace hk := Lib.hid hk
             replace he := Lib.hid he
             rw [hsb, if_neg Bool.false_ne_true] at hstep2
             clear hstep
             replace hstep2 := Lib.hid hstep2
             have ha7 := cl_far hBa.out hai
             go_wp2
             exact ⟨⟨i + 1, by first | rfl | (congr 1; omega), by omega, by rw [hstep2.out, hpp.out]; rfl, by rw [hstep2.out]; exact hoa.out, hBa.out⟩, by simp [intOf]; omega⟩
         · have e1 : (m.kind == 2) = false := by simp [hk]
           have hsb : sentB m = false := by unfold sentB; simp [hk]
           have hstep2 := hstep.out
           replace hk := Lib.hid hk
           rw [hsb, if_neg Bool.false_ne_true] at hstep2
           clear hstep
           replace hstep2 := Lib.hid hstep2
           have ha7 := cl_far hBa.out hai
           go_wp2
           exact ⟨⟨i + 1, by first | rfl | (congr 1; omega), by omega, by rw [hstep2.out, hpp.out]; rfl, by rw [hstep2.out]; exact hoa.out, hBa.out⟩, by simp [intOf]; omega⟩
    · have hil2 : decide ((i : Int) < (N : Int)) = false := decide_eq_false (by omega)
      obtain rfl : i = N := by omega
      rw [show ms.take i = ms by rw [← hN.out]; exact List.take_length] at ho ⊢
      rw [hO.out] at ho
      obtain ⟨D, cD, rfl, hD, _, _⟩ := rws_own ho
      have hmg := merge_any D none cD 0 OUT [] wr hD (rw_nil _ _ [] rfl) hrok.out (fun x hx => absurd hx (by simp)) (by omega) (Nat.zero_le _)
      rw [List.append_nil] at hmg
      replace hmg := Lib.hid hmg
      replace hBr := Lib.hid hBr
      clear ho hD
      go_wp2_with (fail)
      refine hmg.out.mono ?_; rintro e w3 ⟨A1, c1, d1, rfl, k1, k2, k3, k4, k5, hB9⟩
      go_wp2
      go_ret
      exact ⟨A1, c1, d1, rfl, k1, k2, k3, k4, k5, bl_then hBr.out hB9⟩
end Go.Proofs.YtebeknnjjoobnaaDoor
