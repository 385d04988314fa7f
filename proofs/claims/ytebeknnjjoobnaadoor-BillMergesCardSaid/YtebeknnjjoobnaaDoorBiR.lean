/- Contracts: strings.Builder; rows as text (bill.Text). -/
import Derived.Test.YtebeknnjjoobnaaDoorBiQ
set_option linter.unusedVariables false
set_option linter.unusedSimpArgs false
set_option maxRecDepth 100000
namespace Go.Proofs.YtebeknnjjoobnaaDoor
open Go.RowKit Go.Sort Go.Lib Go.Shelf Go.Proofs Go.Proofs.YtebeknnjjoobnaaDoorW.PrintWords
attribute [local go_sem] max2_int min2_int max_two min_two

abbrev IsB (w : World) (B b : Nat) (l : List UInt8) : Prop := Lib.IsBuilder 73 5 B b (Lib.byteCells l) w
theorem BAt.below {w w' : World} {T e : TypeId} {B b : Nat} {p : Value} {bs : List Value} (h : Lib.BuilderAt T e B b p bs w) (hB : Below w.heap.size w w') : Lib.BuilderAt T e B b p bs w' := by
  obtain ⟨h1, v, h2, h3, h4⟩ := h
  exact ⟨h1, v, (hB.block b (blk_lt h2)).trans h2, pw_own_below h3 hB, h4⟩
theorem IsB.below {w w' : World} {B b : Nat} {l : List UInt8} (h : IsB w B b l) (hB : Below w.heap.size w w') : IsB w' B b l :=
  h.elim (fun h => .inl (BAt.below h hB)) (fun h => .inr (BAt.below h hB))
theorem wstr_at (B b : Nat) (l s : List UInt8) (w : World) (h : IsB w B b l) (hlen : l.length + s.length ≤ 1000000) (hBw : B ≤ w.heap.size) :
    Calls Tryd.prog 30 #[.pointer (some ⟨b, 0, none⟩), .string ⟨s.toArray⟩] w fun e w' => e = .returned (.tuple #[.int .i64 s.length, .nilIface]) ∧ IsB w' B b (l ++ s) ∧ Below B w w' :=
  (Any.Builder_WriteString wstrB extraB B b (Lib.byteCells l) ⟨s.toArray⟩ w h (by rw [Lib.byteCells_length]; show l.length + s.length ≤ _; omega) hBw).mono fun e w' ⟨h1, h2, h3⟩ => ⟨h1, .inr (by rw [Lib.byteCells_append]; exact h2), h3⟩
theorem str_at (B b : Nat) (l : List UInt8) (w : World) (h : IsB w B b l) (h0 : l ≠ []) :
    Calls Tryd.prog 34 #[.pointer (some ⟨b, 0, none⟩)] w fun e w' => e = .returned (.string ⟨l.toArray⟩) ∧ Below B w w' :=
  Any.Builder_String strB extraB B b l w h h0

/-- A slice of strings of one's own. -/
abbrev OwnS (w : World) (base : Nat) (v : Value) (xs : List ByteArray) : Prop := w.ownsRow base 9 1 v xs.length (xs.map Value.string)
theorem inf_str : (Tryd.prog.info? 9).map (fun i => (i.zero, i.size, i.bytes)) = some (some (.string ⟨#[]⟩), 1, 16) := by kernel_rfl
theorem append_str1 {ops : Array Oper} {rest : List Oper} {o : Oper} {a : Act} {Q : Exit → Act → World → Prop} {W : World} (base : Nat) (hgd : o.guard = none) (s x : Operand)
    (ho : o.op = .call { callee := .builtin .append, args := #[s, x], argTypes := #[79, 79] })
    (v : Value) (l : List ByteArray) (p : ByteArray) (ad : Addr) (hs : a.eval s = v) (hx : a.eval x = .slice (some ad) 1 1)
    (HO : OwnS W base v l) (hc : W.cell? ad = some (.string p)) (hl : l.length ≤ 1000) (hbase : base ≤ W.heap.size)
    (h : ∀ v1 w1, OwnS w1 base v1 (l ++ [p]) → W.grownBy w1 v.ownBlock → wpList Tryd.prog ops Q rest (a.put o.dst v1) w1) :
    wpList Tryd.prog ops Q (o :: rest) a W := by
  obtain ⟨i0, hi, hzz⟩ := Option.map_eq_some_iff.1 inf_str
  simp only [Prod.mk.injEq] at hzz
  obtain ⟨hz0, hz1, hz2⟩ := hzz
  obtain ⟨v1, w1, hr, h1, h2, _⟩ := run_append_own (P := Tryd.prog) W base 79 o.type 9 i0 _ 1 16 Tryd.underlying79 hi hz0 hz1 hz2 rfl (by omega) v l.length (l.map Value.string) HO ad 1 1 [.string p] rfl (fun j u hu => by
    match j, hu with
    | 0, hu =>
      obtain rfl : Value.string p = u := by simpa using hu
      have : ad.add 0 = ad := by unfold Addr.add; rw [if_pos rfl]
      rw [this]; exact hc) (fun u hu => by
    obtain rfl : u = .string p := by simpa using hu
    rfl) (by simp only [maxLen]; omega) (by omega) hbase
  refine wpList_step fun K hK => ?_
  rw [if_pos (by simp [Region.wanted, hgd])]
  unfold Oper.wp execOp
  simp only [ho, resolve, invoke, builtin, Sem.run_bind, Sem.run_pure, Result.andThen_ok, List.map_toArray, List.map_cons, List.map_nil, hs, hx, hr]
  refine hK _ _ (h v1 w1 ?_ h2)
  show w1.ownsRow base 9 1 v1 (l ++ [p]).length ((l ++ [p]).map Value.string)
  rw [List.length_append, List.map_append]
  exact h1
theorem join_at {w : World} {base : Nat} {v : Value} {xs : List ByteArray} (h : OwnS w base v xs) (hn : xs ≠ []) (hl : xs.length ≤ 1000) (hj : (Lib.join (xs.map (·.data.toList)) [32]).length ≤ 1000000) :
    Calls Tryd.prog 33 #[v, .string ⟨#[32]⟩] w fun e w' => e = .returned (.string ⟨(Lib.join (xs.map (·.data.toList)) [32]).toArray⟩) ∧ Below w.heap.size w w' := by
  have hc := fun (g : Nat) (e : v.ownBlock = some g) => World.ownsRow.cells h e
  rcases h.2 with ⟨_, h0⟩ | ⟨g, cap, cur, rfl, _, hg, hcap, _, _, _⟩
  · exact absurd (List.length_eq_zero_iff.1 h0) hn
  · exact Any.strings_Join joinB extraB g 0 cap xs ⟨#[32]⟩ w (fun j x hx => by
      have := hc g rfl j (.string x) (by rw [List.getElem?_map, hx]; rfl)
      rw [add_lit0] at this
      rw [Nat.zero_add]; exact this) (blk_lt hg) (by omega) hcap (by show (Lib.join (xs.map (·.data.toList)) [32]).length ≤ _; omega)
theorem bk_grown {W w1 : World} {g base n size : Nat} {cs : Array Value} {t e : TypeId} {v : Value} {xs : List Value} (hb : Bk W g cs t) (HO : W.ownsRow base e size v n xs) (hne : t ≠ e) (hg : W.grownBy w1 v.ownBlock) : Bk w1 g cs t := by
  refine (hg.block g (bk_lt hb) ?_).trans hb
  rcases HO.2 with ⟨rfl, _⟩ | ⟨k, cap, cur, rfl, _, hh, _⟩
  · simp [Value.ownBlock]
  · intro he
    have : g = k := by simpa [Value.ownBlock] using he
    subst this
    unfold Bk at hb
    rw [hh] at hb
    simp only [Option.some.injEq, Obj.cells.injEq] at hb
    exact hne hb.2.1.symm
theorem isb_grown {W w1 : World} {B b base n size : Nat} {l : List UInt8} {v : Value} {xs : List Value} (h : IsB W B b l) (HO : W.ownsRow base 9 size v n xs) (hg : W.grownBy w1 v.ownBlock) : IsB w1 B b l := by
  have key : ∀ p, Lib.BuilderAt 73 5 B b p (Lib.byteCells l) W → Lib.BuilderAt 73 5 B b p (Lib.byteCells l) w1 := fun p hp => by
    obtain ⟨h1, u, h2, h3, h4⟩ := hp
    exact ⟨h1, u, bk_grown (e := 9) h2 HO (by decide) hg, own_other h3 hg (own_type_ne h3 HO (by decide)), h4⟩
  exact h.elim (fun h => .inl (key _ h)) (fun h => .inr (key _ h))
def headL : List UInt8 := [115, 117, 98, 32, 112, 101, 114, 105, 111, 100, 32, 112, 97, 99, 107, 101, 116, 115, 32, 98, 121, 116, 101, 115, 32, 115, 108, 111, 119, 45, 112, 97, 99, 107, 101, 116, 115, 32, 115, 108, 111, 119, 45, 98, 121, 116, 101, 115, 10]
def numsL (x : Rw) : List Int := [x.1.2, x.2.1, x.2.2.1, x.2.2.2.1, x.2.2.2.2]
def strsL (bI bU : Int → List UInt8) (x : Rw) : List ByteArray := ⟨(bI x.1.1).toArray⟩ :: (numsL x).map fun n => ⟨(bU n).toArray⟩
theorem nums_cell (x : Rw) (k : Nat) (h : k < 5) : (#[Value.int .u64 x.1.2, .int .u64 x.2.1, .int .u64 x.2.2.1, .int .u64 x.2.2.2.1, .int .u64 x.2.2.2.2] : Array Value)[k]? = some (.int .u64 ((numsL x).getD k 0)) := by
  obtain rfl | rfl | rfl | rfl | rfl : k = 0 ∨ k = 1 ∨ k = 2 ∨ k = 3 ∨ k = 4 := by omega
  all_goals rfl
theorem nums_mem (x : Rw) (k : Nat) (h : k < 5) : (numsL x).getD k 0 ∈ numsL x := getD_mem _ _ _ h
theorem strs_step (bI bU : Int → List UInt8) (x : Rw) (k : Nat) (h : k < 5) : (strsL bI bU x).take (k + 1 + 1) = (strsL bI bU x).take (k + 1) ++ [⟨(bU ((numsL x).getD k 0)).toArray⟩] := by
  obtain rfl | rfl | rfl | rfl | rfl : k = 0 ∨ k = 1 ∨ k = 2 ∨ k = 3 ∨ k = 4 := by omega
  all_goals rfl
theorem strs_len (bI bU : Int → List UInt8) (x : Rw) (k : Nat) (h : k ≤ 5) : ((strsL bI bU x).take (k + 1)).length = k + 1 := by
  rw [List.length_take]
  show min (k + 1) 6 = k + 1
  omega
def lineL (bI bU : Int → List UInt8) (x : Rw) : List UInt8 := Lib.join ((strsL bI bU x).map (·.data.toList)) [32] ++ [10]
def linesL (bI bU : Int → List UInt8) (l : List Rw) : List UInt8 := (l.map (lineL bI bU)).flatten
theorem linesL_snoc (bI bU : Int → List UInt8) (l : List Rw) (x : Rw) : linesL bI bU (l ++ [x]) = linesL bI bU l ++ lineL bI bU x := by
  unfold linesL
  rw [List.map_append, List.flatten_append]
  congr 1
  simp
theorem line_len (bI bU : Int → List UInt8) (hi : ∀ n, (bI n).length ≤ 30) (hu : ∀ n, (bU n).length ≤ 30) (x : Rw) : (lineL bI bU x).length ≤ 190 := by
  have h1 := hi x.1.1
  have h2 := hu x.1.2
  have h3 := hu x.2.1
  have h4 := hu x.2.2.1
  have h5 := hu x.2.2.2.1
  have h6 := hu x.2.2.2.2
  unfold lineL strsL numsL Lib.join
  simp [List.intercalate]
  omega
theorem lines_len (bI bU : Int → List UInt8) (hi : ∀ n, (bI n).length ≤ 30) (hu : ∀ n, (bU n).length ≤ 30) (l : List Rw) : (linesL bI bU l).length ≤ l.length * 190 := by
  refine rev_ind (p := fun l => (linesL bI bU l).length ≤ l.length * 190) (Nat.zero_le _) (fun l x ih => ?_) l
  rw [linesL_snoc, List.length_append, List.length_append]
  have := line_len bI bU hi hu x
  simp
  omega
set_option maxHeartbeats 6400000 in
theorem text_any (bI bU : Int → List UInt8) (hi : ∀ n, (bI n).length ≤ 30) (hu : ∀ n, (bU n).length ≤ 30) (A : Option Addr) (rows : List Rw) (cap : Nat) (w : World) (hA : RwAt w A rows) (hl : rows.length ≤ 1000)
    (hI : ∀ x ∈ rows, ∀ W, Below w.heap.size w W → Calls Tryd.prog 31 #[.int .i64 x.1.1] W fun e w' => e = .returned (.string ⟨(bI x.1.1).toArray⟩) ∧ Below W.heap.size W w')
    (hU : ∀ x ∈ rows, ∀ n ∈ numsL x, ∀ W, Below w.heap.size w W → Calls Tryd.prog 32 #[.int .u64 n, .int .i64 10] W fun e w' => e = .returned (.string ⟨(bU n).toArray⟩) ∧ Below W.heap.size W w') :
    Calls Tryd.prog 15 #[.slice A rows.length cap] w fun e w' => e = .returned (.string ⟨(headL ++ linesL bI bU rows).toArray⟩) ∧ Below w.heap.size w w' := by
  obtain ⟨N, hN⟩ : ∃ N, rows.length = N := ⟨_, rfl⟩
  rw [hN] at hl ⊢
  have hb0 : IsB (w.alloc (.cells #[.pointer none, .slice none 0 0] 73)) w.heap.size w.heap.size [] := Lib.fresh_isBuilder 73 5 w
  have hB0 := bl_alloc (Below.refl _ w) (.cells #[.pointer none, .slice none 0 0] 73)
  have hw0 := wstr_at w.heap.size w.heap.size [] headL _ hb0 (by decide) hB0.size
  rw [List.nil_append] at hw0
  replace hw0 := Lib.hid hw0
  replace hN := Lib.hid hN
  replace hA := Lib.hid hA
  replace hI := Lib.hid hI
  replace hU := Lib.hid hU
  replace hi := Lib.hid hi
  replace hu := Lib.hid hu
  replace hB0 := Lib.hid hB0
  clear hb0
  go_enter Tryd.func15, Tryd.ntmps15
  go_wp2_with (fail)
  refine hw0.out.mono ?_; rintro e w1 ⟨rfl, hb1, hB1⟩
  have hBw := hB0.out.trans hB1
  replace hb1 := Lib.hid hb1
  replace hBw := Lib.hid hBw
  clear hw0 hB0 hB1
  go_wp2_with (fail)
  go_loopw [12] (fun v wr => ∃ i : Nat, v = .int .i64 i ∧ i ≤ N ∧ IsB wr w.heap.size w.heap.size (headL ++ linesL bI bU (rows.take i)) ∧ Below w.heap.size w wr) (fun v _ => N - (intOf v).toNat)
  case atStart => exact ⟨0, rfl, Nat.zero_le _, by rw [List.take_zero]; exact hb1.out, hBw.out⟩
  case round =>
    obtain ⟨i, rfl, hii, hb, hBr⟩ := hrel
    by_cases hil : i < N
    · have hil2 : decide ((i : Int) < (N : Int)) = true := decide_eq_true (by omega)
      obtain ⟨ad, hAd, hrow⟩ := (hA.out.below hBr) i (by rw [hN.out]; exact hil)
      have hxm := getD_mem rows i zeroRw (by rw [hN.out]; exact hil)
      have hln := lines_len bI bU hi.out hu.out (rows.take i)
      have hsn := linesL_snoc bI bU (rows.take i) (rows.getD i zeroRw)
      rw [← take_snoc rows i (by rw [hN.out]; exact hil)] at hsn
      have hli := line_len bI bU hi.out hu.out (rows.getD i zeroRw)
      have hx1 := hI.out _ hxm
      have hx2 := hU.out _ hxm
      obtain ⟨x, hx⟩ : ∃ x, rows.getD i zeroRw = x := ⟨_, rfl⟩
      rw [hx] at hrow hsn hli hx1 hx2
      subst hAd
      obtain ⟨T0, hT0⟩ : ∃ t, linesL bI bU (rows.take i) = t := ⟨_, rfl⟩
      rw [hT0] at hln hsn hb
      have htl : (headL ++ T0).length + (lineL bI bU x).length ≤ 1000000 := by
        rw [List.length_append]
        rw [List.length_take] at hln
        have : headL.length = 49 := rfl
        omega
      obtain ⟨T1, hT1⟩ : ∃ t, headL ++ T0 = t := ⟨_, rfl⟩
      rw [hT1] at hb htl
      obtain ⟨c0, c1, c2, c3, c4, c5⟩ := rw_cellsAt hrow
      have hbx := bk_new wr #[.int .i64 x.1.1, .int .u64 x.1.2, .int .u64 x.2.1, .int .u64 x.2.2.1, .int .u64 x.2.2.2.1, .int .u64 x.2.2.2.2] 32
      have hba := hb.below (bl_alloc (Below.refl _ wr) (.cells #[.int .i64 x.1.1, .int .u64 x.1.2, .int .u64 x.2.1, .int .u64 x.2.2.1, .int .u64 x.2.2.2.1, .int .u64 x.2.2.2.2] 32))
      have hBa := bl_alloc hBr (.cells #[.int .i64 x.1.1, .int .u64 x.1.2, .int .u64 x.2.1, .int .u64 x.2.2.1, .int .u64 x.2.2.2.1, .int .u64 x.2.2.2.2] 32)
      obtain ⟨z0, z1, z2, z3, z4, z5, _⟩ := hold6 hbx
      replace hsn := Lib.hid hsn
      replace hT1 := Lib.hid hT1
      replace hx1 := Lib.hid hx1
      replace hx2 := Lib.hid hx2
      replace hbx := Lib.hid hbx
      replace hba := Lib.hid hba
      replace hBa := Lib.hid hBa
      clear hxm hln hx hT0 hli hrow hb hBr
      go_wp2_with (fail)
      refine (hx1.out _ hBa.out).mono ?_; rintro e w2 ⟨rfl, hB2⟩
      have hbx2 := bk_alloc (bk_below hB2 hbx.out) (.cells #[.string ⟨(bI x.1.1).toArray⟩] 9)
      have hba2 := (hba.out.below hB2).below (bl_alloc (Below.refl _ w2) (.cells #[.string ⟨(bI x.1.1).toArray⟩] 9))
      have hBa2 := bl_alloc (bl_then hBa.out hB2) (.cells #[.string ⟨(bI x.1.1).toArray⟩] 9)
      have hl0 : OwnS (w2.alloc (.cells #[.string ⟨(bI x.1.1).toArray⟩] 9)) w.heap.size (.slice (some ⟨w2.heap.size, 0, none⟩) 1 1) ((strsL bI bU x).take 1) := ⟨rfl, .inr ⟨w2.heap.size, 1, _, rfl, (bl_then hBa.out hB2).size, heap_alloc_new w2 _, Nat.le_refl _, by decide, rfl, rfl⟩⟩
      obtain ⟨y0, y1, y2, y3, y4, y5, _⟩ := hold6 hbx2
      have hl1 := pw_own_below hl0 (bl_alloc (Below.refl _ _) (.cells #[.int .u64 x.1.2, .int .u64 x.2.1, .int .u64 x.2.2.1, .int .u64 x.2.2.2.1, .int .u64 x.2.2.2.2] 30))
      have hba3 := hba2.below (bl_alloc (Below.refl _ _) (.cells #[.int .u64 x.1.2, .int .u64 x.2.1, .int .u64 x.2.2.1, .int .u64 x.2.2.2.1, .int .u64 x.2.2.2.2] 30))
      have hBa3 := bl_alloc hBa2 (.cells #[.int .u64 x.1.2, .int .u64 x.2.1, .int .u64 x.2.2.1, .int .u64 x.2.2.2.1, .int .u64 x.2.2.2.2] 30)
      have hbn := bk_at (w := w2.alloc (.cells #[.string ⟨(bI x.1.1).toArray⟩] 9)) (g := w2.heap.size + 1) (cs := #[.int .u64 x.1.2, .int .u64 x.2.1, .int .u64 x.2.2.1, .int .u64 x.2.2.2.1, .int .u64 x.2.2.2.2]) (t := 30) (by simp)
      replace hl1 := Lib.hid hl1
      replace hba3 := Lib.hid hba3
      replace hBa3 := Lib.hid hBa3
      replace hbn := Lib.hid hbn
      clear hl0 hba2 hBa2 hbx2 hbx hba hBa hB2 z0 z1 z2 z3 z4 z5 c0 c1 c2 c3 c4 c5
      go_wp2_with (fail)
      go_loopw [6, 32] (fun v6 v32 wz => ∃ k : Nat, v32 = .int .i64 k ∧ k ≤ 5 ∧ OwnS wz w.heap.size v6 ((strsL bI bU x).take (k + 1)) ∧ Bk wz (w2.heap.size + 1) #[.int .u64 x.1.2, .int .u64 x.2.1, .int .u64 x.2.2.1, .int .u64 x.2.2.2.1, .int .u64 x.2.2.2.2] 30 ∧ IsB wz w.heap.size w.heap.size T1 ∧ Below w.heap.size w wz) (fun _ v _ => 5 - (intOf v).toNat)
      case atStart => exact ⟨0, rfl, by omega, hl1.out, hbn.out, hba3.out, hBa3.out⟩
      case round =>
        obtain ⟨k, rfl, hk, ho, hbk, hbz, hBz⟩ := hrel
        by_cases hkl : k < 5
        · have hkl2 : decide ((k : Int) < 5) = true := decide_eq_true (by omega)
          have hk1 : decide ((k : Int) < 0) = false := decide_eq_false (by omega)
          have hcell := (bk_cell hbk k).trans (nums_cell x k hkl)
          have hnm := nums_mem x k hkl
          have hss := strs_step bI bU x k hkl
          have hsl := strs_len bI bU x k hk
          obtain ⟨n, hn⟩ : ∃ n, (numsL x).getD k 0 = n := ⟨_, rfl⟩
          rw [hn] at hcell hnm hss
          obtain ⟨XS, hXS⟩ : ∃ l, (strsL bI bU x).take (k + 1) = l := ⟨_, rfl⟩
          rw [hXS] at ho hss hsl
          have hkk := hx2.out n hnm _ hBz
          replace hss := Lib.hid hss
          replace hkk := Lib.hid hkk
          replace ho := Lib.hid ho
          replace hbk := Lib.hid hbk
          replace hbz := Lib.hid hbz
          replace hBz := Lib.hid hBz
          clear hnm hn hXS
          go_wp2_with (fail)
          refine hkk.out.mono ?_; rintro e w3 ⟨rfl, hB3⟩
          have ho3 := pw_own_below (pw_own_below ho.out hB3) (bl_alloc (Below.refl _ w3) (.cells #[.string ⟨(bU n).toArray⟩] 9))
          have hbk3 := bk_alloc (bk_below hB3 hbk.out) (.cells #[.string ⟨(bU n).toArray⟩] 9)
          have hbz3 := (hbz.out.below hB3).below (bl_alloc (Below.refl _ w3) (.cells #[.string ⟨(bU n).toArray⟩] 9))
          have hBz3 := bl_alloc (bl_then hBz.out hB3) (.cells #[.string ⟨(bU n).toArray⟩] 9)
          have hcs := (bk_cell (bk_new w3 #[.string ⟨(bU n).toArray⟩] 9) 0).trans rfl
          replace ho3 := Lib.hid ho3
          replace hbk3 := Lib.hid hbk3
          replace hbz3 := Lib.hid hbz3
          replace hBz3 := Lib.hid hBz3
          replace hcs := Lib.hid hcs
          clear ho hbk hbz hBz hB3 hkk
          go_wp2_with (at_builtin; refine append_str1 w.heap.size rfl (.tmp 36) (.tmp 39) rfl _ XS ⟨(bU n).toArray⟩ _ rfl rfl ho3.out hcs.out (by omega) hBz3.out.size ?_; intro v' w4 hown hgrow)
          have hbk4 := bk_grown hbk3.out ho3.out (by decide) hgrow
          have hB4 := hBz3.out.grown hgrow hBz3.out.size (own_base ho3.out)
          have hbz4 := isb_grown hbz3.out ho3.out hgrow
          exact ⟨⟨k + 1, by first | rfl | (congr 1; omega), by omega, by rw [hss.out]; exact hown, hbk4, hbz4, hB4⟩, by simp [intOf]; omega⟩
        · have hkl2 : decide ((k : Int) < 5) = false := decide_eq_false (by omega)
          obtain rfl : k = 5 := by omega
          rw [show (strsL bI bU x).take (5 + 1) = strsL bI bU x from rfl] at ho
          have hjl : (Lib.join ((strsL bI bU x).map (·.data.toList)) [32]).length ≤ 1000000 := by
            have : (lineL bI bU x).length = (Lib.join ((strsL bI bU x).map (·.data.toList)) [32]).length + 1 := by unfold lineL; simp
            omega
          have hj := join_at ho (by unfold strsL; simp) (by show 6 ≤ 1000; omega) hjl
          have hline : lineL bI bU x = Lib.join ((strsL bI bU x).map (·.data.toList)) [32] ++ [10] := rfl
          obtain ⟨J, hJ⟩ : ∃ j, Lib.join ((strsL bI bU x).map (·.data.toList)) [32] = j := ⟨_, rfl⟩
          rw [hJ] at hj hline
          rw [hline] at htl hsn
          have hws := fun (W : World) (h : IsB W w.heap.size w.heap.size T1) (h2 : w.heap.size ≤ W.heap.size) => wstr_at w.heap.size w.heap.size T1 (J ++ [10]) W h htl h2
          replace hj := Lib.hid hj
          replace hws := Lib.hid hws
          replace hbz := Lib.hid hbz
          replace hBz := Lib.hid hBz
          clear hJ hjl hline ho hbk
          go_wp2_with (fail)
          refine hj.out.mono ?_; rintro e w3 ⟨rfl, hB3⟩
          have hb3 := hbz.out.below hB3
          have hB4 := bl_then hBz.out hB3
          have hJ2 : ¬ (9223372036854775807 < J.length + 1) := by rw [List.length_append] at htl; simp at htl; omega
          have hcat : ((⟨J.toArray⟩ : ByteArray) ++ ⟨#[10]⟩) = ⟨(J ++ [10]).toArray⟩ := by apply ByteArray.ext; simp [ByteArray.data_append]
          replace hb3 := Lib.hid hb3
          replace hB4 := Lib.hid hB4
          replace hcat := Lib.hid hcat
          clear hbz hBz hB3 hj
          go_wp2_with (fail)
          rw [hcat.out]
          refine (hws.out _ hb3.out hB4.out.size).mono ?_; rintro e w5 ⟨rfl, hb5, hB5⟩
          have hb6 : IsB w5 w.heap.size w.heap.size (headL ++ linesL bI bU (rows.take (i + 1))) := by rw [hsn.out, ← List.append_assoc, hT1.out]; exact hb5
          have hB6 := hB4.out.trans hB5
          replace hb6 := Lib.hid hb6
          replace hB6 := Lib.hid hB6
          clear hb5 hB5
          go_wp2
          exact ⟨⟨i + 1, by first | rfl | (congr 1; omega), by omega, hb6.out, hB6.out⟩, by simp [intOf]; omega⟩
    · have hil2 : decide ((i : Int) < (N : Int)) = false := decide_eq_false (by omega)
      obtain rfl : i = N := by omega
      rw [show rows.take i = rows by rw [← hN.out]; exact List.take_length] at hb
      have hst := str_at _ _ _ _ hb (by unfold headL; simp)
      replace hst := Lib.hid hst
      replace hBr := Lib.hid hBr
      clear hb
      go_wp2_with (fail)
      refine hst.out.mono ?_; rintro e w2 ⟨rfl, hB2⟩
      go_wp2
      go_ret
      exact ⟨rfl, hBr.out.trans hB2⟩
end Go.Proofs.YtebeknnjjoobnaaDoor
