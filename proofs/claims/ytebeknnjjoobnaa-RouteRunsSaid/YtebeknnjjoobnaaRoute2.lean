/- Contract of package route: Find. -/
import Derived.Test.YtebeknnjjoobnaaRoute
set_option linter.unusedVariables false
set_option linter.unusedSimpArgs false
namespace Go.Proofs.Ytebeknnjjoobnaa
open Go.RowKit
attribute [local go_sem] max2_int min2_int max_two min_two
attribute [local go_sem ↓] eql_nt neq_nt eql_ad net_addr net_bits

theorem hold6 {w : World} {g : Nat} {a b c d e f : Value} {t : TypeId} (h : Bk w g #[a, b, c, d, e, f] t) :
    w.cell? ⟨g, 0, none⟩ = some a ∧ w.cell? ⟨g, 1, none⟩ = some b ∧ w.cell? ⟨g, 2, none⟩ = some c ∧ w.cell? ⟨g, 3, none⟩ = some d ∧ w.cell? ⟨g, 4, none⟩ = some e ∧ w.cell? ⟨g, 5, none⟩ = some f ∧ w.frozen? ⟨g, 0, none⟩ = false ∧ w.frozen? ⟨g, 1, none⟩ = false ∧ w.frozen? ⟨g, 2, none⟩ = false ∧ w.frozen? ⟨g, 3, none⟩ = false ∧ w.frozen? ⟨g, 4, none⟩ = false ∧ w.frozen? ⟨g, 5, none⟩ = false :=
  ⟨(bk_cell h 0).trans rfl, (bk_cell h 1).trans rfl, (bk_cell h 2).trans rfl, (bk_cell h 3).trans rfl, (bk_cell h 4).trans rfl, (bk_cell h 5).trans rfl, bk_frozen h 0, bk_frozen h 1, bk_frozen h 2, bk_frozen h 3, bk_frozen h 4, bk_frozen h 5⟩
theorem bk_set6 {w : World} {g : Nat} {a b c d e f a' b' c' d' e' f' : Value} {t : TypeId} (h : Bk w g #[a, b, c, d, e, f] t) :
    Bk ((((((w.setCell ⟨g, 0, none⟩ a').setCell ⟨g, 1, none⟩ b').setCell ⟨g, 2, none⟩ c').setCell ⟨g, 3, none⟩ d').setCell ⟨g, 4, none⟩ e').setCell ⟨g, 5, none⟩ f') g #[a', b', c', d', e', f'] t := by
  have h1 : Bk _ g #[a', b, c, d, e, f] t := bk_put (i := 0) (u := a') h rfl
  have h2 : Bk _ g #[a', b', c, d, e, f] t := bk_put (i := 1) (u := b') h1 rfl
  have h3 : Bk _ g #[a', b', c', d, e, f] t := bk_put (i := 2) (u := c') h2 rfl
  have h4 : Bk _ g #[a', b', c', d', e, f] t := bk_put (i := 3) (u := d') h3 rfl
  have h5 : Bk _ g #[a', b', c', d', e', f] t := bk_put (i := 4) (u := e') h4 rfl
  exact bk_put h5 rfl
/-- The route of an address among those of so many bits or fewer. -/
def findFrom (l : Routes) (p q r s : Int) : Nat → Option (Nt × Int)
  | 0 => (mget l (cutV p q r s 0)).map fun v => (cutV p q r s 0, v)
  | k + 1 => match mget l (cutV p q r s ((k + 1 : Nat) : Int)) with
    | some v => some (cutV p q r s ((k + 1 : Nat) : Int), v)
    | none => findFrom l p q r s k
def findL (l : Routes) (p q r s : Int) : Option (Nt × Int) := findFrom l p q r s 32
theorem findFrom_hit {l : Routes} {p q r s v : Int} {k : Nat} (h : mget l (cutV p q r s (k : Int)) = some v) : findFrom l p q r s k = some (cutV p q r s (k : Int), v) := by
  cases k with
  | zero => unfold findFrom; rw [show ((0 : Nat) : Int) = 0 from rfl] at h; rw [h]; rfl
  | succ k => unfold findFrom; rw [h]
theorem findFrom_miss {l : Routes} {p q r s : Int} {k : Nat} (h : mget l (cutV p q r s (k : Int)) = none) : findFrom l p q r s k = if k = 0 then none else findFrom l p q r s (k - 1) := by
  cases k with
  | zero => unfold findFrom; rw [show ((0 : Nat) : Int) = 0 from rfl] at h; rw [h]; rfl
  | succ k => rw [if_neg (by omega)]; conv => lhs; unfold findFrom; rw [h]
              rfl
/-- A route as a value; none: the zero one. -/
def routeV (o : Option (Nt × Int)) : Value := match o with
  | some (x, v) => .agg #[.int .u8 x.1, .int .u8 x.2.1, .int .u8 x.2.2.1, .int .u8 x.2.2.2.1, .int .i64 x.2.2.2.2, .int .i64 v]
  | none => .agg #[.int .u8 0, .int .u8 0, .int .u8 0, .int .u8 0, .int .i64 0, .int .i64 0]
theorem res_find {w : World} {g : Nat} {a b c d e f x : Value} {t : TypeId} (h : Bk w g #[a, b, c, d, e, f] t) (tmps : Array Value) (h4 : tmps[4]?.getD undef = .pointer (some ⟨g, 0, none⟩)) (h5 : tmps[5]?.getD undef = x) :
    (results Try.f13 tmps).run Try.prog w = .ok (.tuple #[.agg #[a, b, c, d, e, f], x]) w := by
  obtain ⟨z0, z1, z2, z3, z4, z5, _⟩ := hold6 h
  simp [results, Try.results13, go_sem, h4, h5, z0, z1, z2, z3, z4, z5]
def FindPost (w : World) (l : Routes) (p q r s : Int) (e : Ending) (w' : World) : Prop := e = .returned (.tuple #[routeV (findL l p q r s), .bool (findL l p q r s).isSome]) ∧ Below w.heap.size w w'
set_option maxHeartbeats 1600000 in
theorem tfind_any {w : World} {g t : Nat} {l : Routes} (h : Tb w g t l) (p q r s : Int) (hp : AdOk p q r s) :
    Calls Try.prog 13 #[.pointer (some ⟨g, 0, none⟩), .agg #[.int .u8 p, .int .u8 q, .int .u8 r, .int .u8 s]] w (FindPost w l p q r s) := by
  have h1 := (h.alloc (.cells #[.int .u8 p, .int .u8 q, .int .u8 r, .int .u8 s] 27)).alloc (.cells #[.int .u8 0, .int .u8 0, .int .u8 0, .int .u8 0, .int .i64 0, .int .i64 0] 35)
  have hbx := bk_alloc (bk_new w #[.int .u8 p, .int .u8 q, .int .u8 r, .int .u8 s] 27) (.cells #[.int .u8 0, .int .u8 0, .int .u8 0, .int .u8 0, .int .i64 0, .int .i64 0] 35)
  have hby := bk_at (w := w.alloc (.cells #[.int .u8 p, .int .u8 q, .int .u8 r, .int .u8 s] 27)) (g := w.heap.size + 1) (cs := #[.int .u8 0, .int .u8 0, .int .u8 0, .int .u8 0, .int .i64 0, .int .i64 0]) (t := 35) (by simp)
  have hBa := bl_alloc (bl_alloc (Below.refl _ w) (.cells #[.int .u8 p, .int .u8 q, .int .u8 r, .int .u8 s] 27)) (.cells #[.int .u8 0, .int .u8 0, .int .u8 0, .int .u8 0, .int .i64 0, .int .i64 0] 35)
  obtain ⟨pa, pb, pc, pd⟩ := hp
  have hp : AdOk p q r s := ⟨pa, pb, pc, pd⟩
  replace h := Lib.hid h
  replace h1 := Lib.hid h1
  replace hbx := Lib.hid hbx
  replace hby := Lib.hid hby
  replace hBa := Lib.hid hBa
  go_enter Try.func13, Try.ntmps13
  go_wp2
  generalize (w.alloc (.cells #[.int .u8 p, .int .u8 q, .int .u8 r, .int .u8 s] 27)).alloc (.cells #[.int .u8 0, .int .u8 0, .int .u8 0, .int .u8 0, .int .i64 0, .int .i64 0] 35) = W at *
  go_loopw [6] (fun v6 wr => ∃ i : Int, v6 = .int .i64 i ∧ -1 ≤ i ∧ i ≤ 32 ∧ findL l p q r s = (if i < 0 then none else findFrom l p q r s i.toNat) ∧ Below W.heap.size W wr) (fun v6 _ => (intOf v6 + 1).toNat)
  case atStart => exact ⟨32, rfl, by omega, by omega, rfl, Below.refl _ _⟩
  case round =>
    obtain ⟨i, rfl, hi0, hi1, hf, hBl⟩ := hrel
    replace hf := Lib.hid hf
    have hbx2 := bk_below hBl hbx.out
    obtain ⟨y0, y1, y2, y3, _⟩ := hold4 hbx2
    by_cases hneg : i < 0
    · have hd : decide (0 ≤ i) = false := decide_eq_false (by omega)
      have hfin : findL l p q r s = none := by rw [hf.out, if_pos hneg]
      replace hfin := Lib.hid hfin
      have hby2 := bk_below hBl hby.out
      obtain ⟨z0, z1, z2, z3, z4, z5, f0, f1, f2, f3, f4, f5⟩ := hold6 hby2
      replace hby2 := Lib.hid hby2
      go_wp2
      refine bodyPost_ret (res_find (bk_set6 hby2.out) _ rfl rfl) rfl ⟨by rw [hfin.out]; rfl, ?_⟩
      repeat (with_reducible first | exact bl_then hBa.out hBl | (refine bl_set ?_ (by dsimp only; omega) _))
    · have hd : decide (0 ≤ i) = true := decide_eq_true (by omega)
      obtain ⟨k, rfl⟩ := Int.eq_ofNat_of_zero_le (by omega : 0 ≤ i)
      obtain ⟨x, hx⟩ : ∃ x, cutV p q r s (k : Int) = x := ⟨_, rfl⟩
      have hok := cutV_ok hp (k : Int)
      rw [hx] at hok
      replace hx := Lib.hid hx
      go_wp2_with (go_at_call 25; (with_reducible refine (acut_any p q r s (k : Int) _ pa pb pc pd).mono ?_); rw [hx.out]; rintro e w1 ⟨rfl, hB1⟩)
      have hk2 := ((h1.out.below hBl).below hB1).alloc (.cells #[.int .u8 x.1, .int .u8 x.2.1, .int .u8 x.2.2.1, .int .u8 x.2.2.2.1, .int .i64 x.2.2.2.2] 29)
      have hkn := bk_new w1 #[.int .u8 x.1, .int .u8 x.2.1, .int .u8 x.2.2.1, .int .u8 x.2.2.2.1, .int .i64 x.2.2.2.2] 29
      have hby2 := bk_alloc (bk_below hB1 (bk_below hBl hby.out)) (.cells #[.int .u8 x.1, .int .u8 x.2.1, .int .u8 x.2.2.1, .int .u8 x.2.2.2.1, .int .i64 x.2.2.2.2] 29)
      have hBb := bl_alloc (bl_then hBl hB1) (.cells #[.int .u8 x.1, .int .u8 x.2.1, .int .u8 x.2.2.1, .int .u8 x.2.2.2.1, .int .i64 x.2.2.2.2] 29)
      generalize w1.alloc (.cells #[.int .u8 x.1, .int .u8 x.2.1, .int .u8 x.2.2.1, .int .u8 x.2.2.2.1, .int .i64 x.2.2.2.2] 29) = W2 at *
      generalize w1.heap.size = gx at *
      replace hk2 := Lib.hid hk2
      replace hkn := Lib.hid hkn
      replace hby2 := Lib.hid hby2
      replace hBb := Lib.hid hBb
      clear hB1 hBl hbx2 y0 y1 y2 y3
      obtain ⟨v, hv⟩ : ∃ v, whoOf (mget l x) = v := ⟨_, rfl⟩
      obtain ⟨th, hth⟩ : ∃ th, (mget l x).isSome = th := ⟨_, rfl⟩
      replace hv := Lib.hid hv
      replace hth := Lib.hid hth
      refine wp_region_noPanic ?_
      refine wp_region_held_drew (S := fun w' => Tb w' g t l ∧ Bk w' gx #[.int .u8 x.1, .int .u8 x.2.1, .int .u8 x.2.2.1, .int .u8 x.2.2.2.1, .int .i64 x.2.2.2.2] 29) (by kernel_rfl) (⟨hk2.out.drew, bk_drew hkn.out⟩) (fun hHeld => ?_)
      refine wpAnyH_take (i := 0) (oi := { dst := some 18, op := Go.Op.move (Go.Operand.tmp 0), type := 22, pos := "route.go:43", after := #[], guard := none }) (v := ?_) rfl (by kernel_rfl) (by kernel_rfl) (by kernel_rfl) (fun _ _ _ h => h) (Or.inl ⟨by rfl, ?_⟩) (by assumption) ?_
      rotate_left 1
      · intro w' hSw
        first | (go_simp; done) | (go_simp; with_reducible rfl)
      try simp only [Act.put, List.getElem_toArray, List.getElem_cons_succ, List.getElem_cons_zero, List.setIfInBounds_toArray, List.set_cons_zero, List.set_cons_succ]
      refine wpAnyH_take (i := 1) (oi := { dst := some 19, op := Go.Op.nilCheck (Go.Operand.tmp 18), type := 0, pos := "route.go:43", after := #[{ on := 0, ground := Go.Ground.data }], guard := none }) (v := ?_) rfl (by kernel_rfl) (by kernel_rfl) (by kernel_rfl) (fun _ _ _ h => h) (Or.inl ⟨by rfl, ?_⟩) (by assumption) ?_
      rotate_left 1
      · intro w' hSw
        first | (go_simp; done) | (go_simp; with_reducible rfl)
      try simp only [Act.put, List.getElem_toArray, List.getElem_cons_succ, List.getElem_cons_zero, List.setIfInBounds_toArray, List.set_cons_zero, List.set_cons_succ]
      refine wpAnyH_take (i := 2) (oi := { dst := some 20, op := Go.Op.fieldAddr 56 (Go.Operand.tmp 19) 0, type := 0, pos := "route.go:43", after := #[{ on := 1, ground := Go.Ground.data }], guard := none }) (v := ?_) rfl (by kernel_rfl) (by kernel_rfl) (by kernel_rfl) (fun _ _ _ h => h) (Or.inl ⟨by rfl, ?_⟩) (by assumption) ?_
      rotate_left 1
      · intro w' hSw
        first | (go_simp; done) | (go_simp; with_reducible rfl)
      try simp only [Act.put, List.getElem_toArray, List.getElem_cons_succ, List.getElem_cons_zero, List.setIfInBounds_toArray, List.set_cons_zero, List.set_cons_succ]
      refine wpAnyH_take (i := 3) (oi := { dst := some 21, op := Go.Op.load 54 (Go.Operand.tmp 20), type := 54, pos := "route.go:43", after := #[{ on := 2, ground := Go.Ground.data }], guard := none }) (v := ?_) rfl (by kernel_rfl) (by kernel_rfl) (by kernel_rfl) (fun _ _ _ h => h) (Or.inl ⟨by rfl, ?_⟩) (by assumption) ?_
      rotate_left 1
      · intro w' hSw
        obtain ⟨z0, z1, z2, z3, z4, _⟩ := hold5 hSw.2
        have y0 : w'.cell? ⟨g, 0, none⟩ = some (.map (some t)) := (bk_cell hSw.1.1 0).trans rfl
        first | (go_simp; done) | (go_simp; with_reducible rfl)
      try simp only [Act.put, List.getElem_toArray, List.getElem_cons_succ, List.getElem_cons_zero, List.setIfInBounds_toArray, List.set_cons_zero, List.set_cons_succ]
      refine wpAnyH_take (i := 4) (oi := { dst := some 22, op := Go.Op.load 29 (Go.Operand.tmp 7), type := 29, pos := "route.go:43", after := #[], guard := none }) (v := ?_) rfl (by kernel_rfl) (by kernel_rfl) (by kernel_rfl) (fun _ _ _ h => h) (Or.inl ⟨by rfl, ?_⟩) (by assumption) ?_
      rotate_left 1
      · intro w' hSw
        obtain ⟨z0, z1, z2, z3, z4, _⟩ := hold5 hSw.2
        have y0 : w'.cell? ⟨g, 0, none⟩ = some (.map (some t)) := (bk_cell hSw.1.1 0).trans rfl
        first | (go_simp; done) | (go_simp; with_reducible rfl)
      try simp only [Act.put, List.getElem_toArray, List.getElem_cons_succ, List.getElem_cons_zero, List.setIfInBounds_toArray, List.set_cons_zero, List.set_cons_succ]
      refine wpAnyH_take (i := 5) (oi := { dst := some 23, op := Go.Op.lookup 54 (Go.Operand.tmp 21) (Go.Operand.tmp 22) true, type := 57, pos := "route.go:43", after := #[{ on := 3, ground := Go.Ground.data }, { on := 4, ground := Go.Ground.data }], guard := none }) (v := ?_) rfl (by kernel_rfl) (by kernel_rfl) (by kernel_rfl) (fun _ _ _ h => h) (Or.inl ⟨by rfl, ?_⟩) (by assumption) ?_
      rotate_left 1
      · intro w' hSw
        have hlk := tm_look hSw.1.2 hok
        rw [hv.out, hth.out] at hlk
        first | (go_simp; done) | (go_simp; with_reducible rfl)
      try simp only [Act.put, List.getElem_toArray, List.getElem_cons_succ, List.getElem_cons_zero, List.setIfInBounds_toArray, List.set_cons_zero, List.set_cons_succ]
      refine wpAnyH_take (i := 6) (oi := { dst := some 17, op := Go.Op.move (Go.Operand.tmp 23), type := 57, pos := "route.go:43", after := #[{ on := 5, ground := Go.Ground.data }], guard := none }) (v := ?_) rfl (by kernel_rfl) (by kernel_rfl) (by kernel_rfl) (fun _ _ _ h => h) (Or.inl ⟨by rfl, ?_⟩) (by assumption) ?_
      rotate_left 1
      · intro w' hSw
        first | (go_simp; done) | (go_simp; with_reducible rfl)
      try simp only [Act.put, List.getElem_toArray, List.getElem_cons_succ, List.getElem_cons_zero, List.setIfInBounds_toArray, List.set_cons_zero, List.set_cons_succ]
      refine wpAnyH_take (i := 7) (oi := { dst := some 24, op := Go.Op.extract (Go.Operand.tmp 17) 0, type := 3, pos := "route.go:43", after := #[{ on := 6, ground := Go.Ground.data }], guard := none }) (v := ?_) rfl (by kernel_rfl) (by kernel_rfl) (by kernel_rfl) (fun _ _ _ h => h) (Or.inl ⟨by rfl, ?_⟩) (by assumption) ?_
      rotate_left 1
      · intro w' hSw
        first | (go_simp; done) | (go_simp; with_reducible rfl)
      try simp only [Act.put, List.getElem_toArray, List.getElem_cons_succ, List.getElem_cons_zero, List.setIfInBounds_toArray, List.set_cons_zero, List.set_cons_succ]
      refine wpAnyH_take (i := 8) (oi := { dst := some 25, op := Go.Op.extract (Go.Operand.tmp 17) 1, type := 4, pos := "route.go:43", after := #[{ on := 6, ground := Go.Ground.data }, { on := 9, ground := Go.Ground.gcOnly Go.Departure.lateStores }], guard := none }) (v := ?_) rfl (by kernel_rfl) (by kernel_rfl) (by kernel_rfl) (fun _ _ _ h => h) (Or.inl ⟨by rfl, ?_⟩) (by assumption) ?_
      rotate_left 1
      · intro w' hSw
        first | (go_simp; done) | (go_simp; with_reducible rfl)
      try simp only [Act.put, List.getElem_toArray, List.getElem_cons_succ, List.getElem_cons_zero, List.setIfInBounds_toArray, List.set_cons_zero, List.set_cons_succ]
      refine wpAnyH_take (i := 9) (oi := { dst := some 8, op := Go.Op.assign (Go.Operand.tmp 24), type := 3, pos := "route.go:43", after := #[{ on := 7, ground := Go.Ground.data }, { on := 0, ground := Go.Ground.phase }, { on := 1, ground := Go.Ground.phase }, { on := 2, ground := Go.Ground.phase }, { on := 3, ground := Go.Ground.phase }, { on := 4, ground := Go.Ground.phase }, { on := 5, ground := Go.Ground.phase }, { on := 6, ground := Go.Ground.phase }, { on := 7, ground := Go.Ground.phase }, { on := 8, ground := Go.Ground.textOnly Go.Departure.lateStores }], guard := none }) (v := ?_) rfl (by kernel_rfl) (by kernel_rfl) (by kernel_rfl) (fun _ _ _ h => h) (Or.inl ⟨by rfl, ?_⟩) (by assumption) ?_
      rotate_left 1
      · intro w' hSw
        first | (go_simp; done) | (go_simp; with_reducible rfl)
      try simp only [Act.put, List.getElem_toArray, List.getElem_cons_succ, List.getElem_cons_zero, List.setIfInBounds_toArray, List.set_cons_zero, List.set_cons_succ]
      refine wpAnyH_take (i := 10) (oi := { dst := some 9, op := Go.Op.assign (Go.Operand.tmp 25), type := 4, pos := "route.go:43", after := #[{ on := 8, ground := Go.Ground.data }, { on := 9, ground := Go.Ground.chain }, { on := 0, ground := Go.Ground.phase }, { on := 1, ground := Go.Ground.phase }, { on := 2, ground := Go.Ground.phase }, { on := 3, ground := Go.Ground.phase }, { on := 4, ground := Go.Ground.phase }, { on := 5, ground := Go.Ground.phase }, { on := 6, ground := Go.Ground.phase }, { on := 7, ground := Go.Ground.phase }, { on := 8, ground := Go.Ground.phase }, { on := 9, ground := Go.Ground.phase }], guard := none }) (v := ?_) rfl (by kernel_rfl) (by kernel_rfl) (by kernel_rfl) (fun _ _ _ h => h) (Or.inl ⟨by rfl, ?_⟩) (by assumption) ?_
      rotate_left 1
      · intro w' hSw
        first | (go_simp; done) | (go_simp; with_reducible rfl)
      try simp only [Act.put, List.getElem_toArray, List.getElem_cons_succ, List.getElem_cons_zero, List.setIfInBounds_toArray, List.set_cons_zero, List.set_cons_succ]
      refine wpAnyH_done (by kernel_rfl) ?_ _
      refine NoPanic.normal ?_
      obtain ⟨z0, z1, z2, z3, z4, z5, f0, f1, f2, f3, f4, f5⟩ := hold6 hby2.out
      obtain ⟨x0, x1, x2, x3, x4, _⟩ := hold5 hkn.out
      clear hHeld
      cases th with
      | true =>
        have hfin : findL l p q r s = some (x, v) := by
          rw [hf.out, if_neg (by omega), Int.toNat_natCast]
          have := hth.out
          cases hg : mget l x with
          | none => rw [hg] at this; cases this
          | some v' =>
            have e := hv.out
            rw [hg] at e
            rw [findFrom_hit (v := v') (by rw [hx.out, hg]), hx.out, ← e]
            rfl
        replace hfin := Lib.hid hfin
        go_wp2
        refine bodyPost_ret (res_find (bk_drew (bk_set6 hby2.out)) _ rfl rfl) rfl ⟨by rw [hfin.out]; rfl, ?_⟩
        repeat (with_reducible first | exact bl_then hBa.out hBb.out | apply bl_drew | (refine bl_set ?_ (by dsimp only; omega) _))
      | false =>
        have hg : mget l x = none := by
          have := hth.out
          cases hg : mget l x with
          | none => rfl
          | some v' => rw [hg] at this; cases this
        have hstep := findFrom_miss (l := l) (p := p) (q := q) (r := r) (s := s) (k := k) (by rw [hx.out, hg])
        replace hstep := Lib.hid hstep
        replace hg := Lib.hid hg
        clear x0 x1 x2 x3 x4 z0 z1 z2 z3 z4 z5 f0 f1 f2 f3 f4 f5
        go_wp2
        refine ⟨⟨(k : Int) - 1, by first | rfl | (congr 1; omega), by omega, by omega, ?_, bl_drew hBb.out⟩, by first | (simp [intOf]; omega) | (simp [intOf]; done)⟩
        rw [hf.out, if_neg (by omega), Int.toNat_natCast, hstep.out]
        by_cases hk0 : k = 0
        · rw [if_pos hk0, if_pos (by omega)]
        · rw [if_neg hk0, if_neg (by omega)]; congr 1; omega
end Go.Proofs.Ytebeknnjjoobnaa
