/- Contracts of package route: New, Set, Len, Find. -/
import Derived.Test.YtebeknnjjoobnaaAddr2
import Derived.Test.YtebeknnjjoobnaaMapL
set_option linter.unusedVariables false
set_option linter.unusedSimpArgs false
namespace Go.Proofs.Ytebeknnjjoobnaa
open Go.RowKit
attribute [local go_sem] max2_int min2_int max_two min_two
attribute [local go_sem ↓] eql_nt neq_nt eql_ad net_addr net_bits

def netV (x : Nt) : Value := .agg #[.int .u8 x.1, .int .u8 x.2.1, .int .u8 x.2.2.1, .int .u8 x.2.2.2.1, .int .i64 x.2.2.2.2]
def intV (n : Int) : Value := .int .i64 n
def NtOkT (x : Nt) : Prop := NtOk x.1 x.2.1 x.2.2.1 x.2.2.2.1 x.2.2.2.2
def rightT (x : Nt) : Bool := rightB x.1 x.2.1 x.2.2.1 x.2.2.2.1 x.2.2.2.2
theorem net_kv : KeyV Try.prog 29 netV NtOkT where
  keyed := nt_keyed
  inj := fun {x y} h => by
    simp only [netV, Value.agg.injEq, Array.mk.injEq, List.cons.injEq, Value.int.injEq, true_and, and_true] at h
    exact Prod.ext h.1 (Prod.ext h.2.1 (Prod.ext h.2.2.1 (Prod.ext h.2.2.2.1 h.2.2.2.2)))
  reads := fun {x} h => flat_key nt_leaves nt_keyT many_types nt_key nt_cells nt_wide (nt_fits h)
abbrev Routes := List (Nt × Int)
/-- Block b is a table's map. -/
def TM (w : World) (b : Nat) (l : Routes) : Prop := Mp Try.prog 29 netV intV w b l
/-- The table in block g, its map in block b. -/
def Tb (w : World) (g b : Nat) (l : Routes) : Prop := Bk w g #[.map (some b)] 56 ∧ TM w b l
theorem mp_ne_bk {P : Program} {k : TypeId} {K V : Type} {kv : K → Value} {vv : V → Value} {w : World} {b g : Nat} {l : List (K × V)} {cs : Array Value} {t : TypeId} (h : Mp P k kv vv w b l) (h' : Bk w g cs t) : g ≠ b := by
  rintro rfl
  obtain ⟨es, clock, hb, _⟩ := h
  unfold Bk at h'
  rw [hb] at h'
  cases h'
theorem Tb.ne {w : World} {g b : Nat} {l : Routes} (h : Tb w g b l) : g ≠ b := mp_ne_bk h.2 h.1
theorem Tb.below {w w' : World} {g b : Nat} {l : Routes} (h : Tb w g b l) (hB : Below w.heap.size w w') : Tb w' g b l := ⟨bk_below hB h.1, h.2.below hB⟩
theorem Tb.kept {S : Nat → Prop} {w w' : World} {g b : Nat} {l : Routes} (h : Tb w g b l) (hk : Kept S w w') (hg : ¬ S g) (hb : ¬ S b) : Tb w' g b l := ⟨bk_kept hk h.1 hg, h.2.kept hk hb⟩
theorem Tb.drew {w : World} {g b : Nat} {l : Routes} (h : Tb w g b l) : Tb w.drew g b l := h
theorem Tb.drewN {w : World} {g b : Nat} {l : Routes} (h : Tb w g b l) (n : Nat) : Tb (w.drewN n) g b l := h
theorem Tb.alloc {w : World} {g b : Nat} {l : Routes} (h : Tb w g b l) (o : Obj) : Tb (w.alloc o) g b l := ⟨bk_alloc h.1 o, h.2.alloc o⟩
theorem zero_int (w : World) : (zeroValue 3).run Try.prog w = .ok (.int .i64 0) w := by kernel_rfl
def whoOf (o : Option Int) : Int := o.getD 0
/-- A look-up in the map. -/
theorem tm_look {w : World} {b : Nat} {l : Routes} (h : TM w b l) {a c d e n : Int} (hok : NtOk a c d e n) :
    (Instr.lookup 54 (.map (some b)) (.agg #[.int .u8 a, .int .u8 c, .int .u8 d, .int .u8 e, .int .i64 n]) true).run Try.prog w = .ok (.tuple #[.int .i64 (whoOf (mget l (a, c, d, e, n))), .bool (mget l (a, c, d, e, n)).isSome]) w := by
  cases hg : mget l (a, c, d, e, n) with
  | none => exact Mp.look_none net_kv Try.underlying54 h (a := (a, c, d, e, n)) hok (zero_int w) hg true
  | some v => exact Mp.look_some net_kv Try.underlying54 h (a := (a, c, d, e, n)) hok hg true
theorem tm_store {w : World} {b : Nat} {l : Routes} (h : TM w b l) {a c d e n : Int} (hok : NtOk a c d e n) (v : Int) :
    ∃ w', (Instr.mapUpdate 54 (.map (some b)) (.agg #[.int .u8 a, .int .u8 c, .int .u8 d, .int .u8 e, .int .i64 n]) (.int .i64 v)).run Try.prog w = .ok () w' ∧ TM w' b (mput l (a, c, d, e, n) v) ∧ Kept (· = b) w w' ∧ w'.heap.size = w.heap.size :=
  Mp.store net_kv Try.underlying54 h (a := (a, c, d, e, n)) hok v
theorem tm_len {w : World} {b : Nat} {l : Routes} (h : TM w b l) (ty : TypeId) : (Builtin.len_ #[54] ty #[.map (some b)]).run Try.prog w = .ok (.int .i64 l.length) w := Mp.len Try.underlying54 h ty

theorem tnew_any (w : World) : Calls Try.prog 8 #[] w fun e w' => ∃ g b, e = .returned (.pointer (some ⟨g, 0, none⟩)) ∧ Tb w' g b [] ∧ w.heap.size ≤ g ∧ w.heap.size ≤ b ∧ Below w.heap.size w w' := by
  have hmm := @run_makeMap Try.prog
  go_enter Try.func8, Try.ntmps8
  go_wp2
  go_ret
  exact ⟨w.heap.size + 1, w.heap.size, rfl, ⟨bk_at (by simp), (Mp.made w).alloc _⟩, by omega, Nat.le_refl _, bl_alloc (bl_alloc (Below.refl _ _) _) _⟩
theorem tlen_any {w : World} {g b : Nat} {l : Routes} (h : Tb w g b l) : Calls Try.prog 11 #[.pointer (some ⟨g, 0, none⟩)] w fun e w' => e = .returned (.int .i64 l.length) ∧ w = w' := by
  have c0 : w.cell? ⟨g, 0, none⟩ = some (.map (some b)) := (bk_cell h.1 0).trans rfl
  have hl := fun ty => tm_len h.2 ty
  go_enter Try.func11, Try.ntmps11
  go_wp2
  go_ret
  exact ⟨rfl, rfl⟩
/-- Is a network set? -/
def setOk (l : Routes) (x : Nt) (who : Int) : Bool := rightT x && decide (0 ≤ who) && ((mget l x).isSome || decide (l.length < 64))
def setL (l : Routes) (x : Nt) (who : Int) : Routes := if setOk l x who then mput l x who else l
def setE (l : Routes) (x : Nt) (who : Int) : Int := if setOk l x who then 0 else 61
def SetPost (w : World) (g b : Nat) (l : Routes) (x : Nt) (who : Int) (e : Ending) (w' : World) : Prop := e = .returned (.int .i64 (setE l x who)) ∧ Tb w' g b (setL l x who) ∧ Kept (· = b) w w'
theorem SetPost.no {w : World} {g b : Nat} {l : Routes} {x : Nt} {who : Int} {w' : World} (h : setOk l x who = false) (ht : Tb w' g b l) (hk : Kept (· = b) w w') : SetPost w g b l x who (.returned (.int .i64 61)) w' := by
  unfold SetPost setE setL
  rw [h]
  exact ⟨rfl, ht, hk⟩
theorem SetPost.yes {w : World} {g b : Nat} {l : Routes} {x : Nt} {who : Int} {w' : World} (h : setOk l x who = true) (ht : Tb w' g b (mput l x who)) (hk : Kept (· = b) w w') : SetPost w g b l x who (.returned (.int .i64 0)) w' := by
  unfold SetPost setE setL
  rw [h]
  exact ⟨rfl, ht, hk⟩
set_option maxHeartbeats 1600000 in
theorem tset_any {w : World} {g t : Nat} {l : Routes} (h : Tb w g t l) (a b c d n who : Int) (hok : NtOk a b c d n) :
    Calls Try.prog 9 #[.pointer (some ⟨g, 0, none⟩), .agg #[.int .u8 a, .int .u8 b, .int .u8 c, .int .u8 d, .int .i64 n], .int .i64 who] w (SetPost w g t l (a, b, c, d, n) who) := by
  have hgt := h.ne
  have h1 := h.alloc (.cells #[.int .u8 a, .int .u8 b, .int .u8 c, .int .u8 d, .int .i64 n] 29)
  have hbx := bk_new w #[.int .u8 a, .int .u8 b, .int .u8 c, .int .u8 d, .int .i64 n] 29
  have hxt : w.heap.size ≠ t := fun e => by have := Mp.lt h.2; omega
  have hgl := bk_lt h.1
  have hBa := bl_alloc (Below.refl _ w) (.cells #[.int .u8 a, .int .u8 b, .int .u8 c, .int .u8 d, .int .i64 n] 29)
  replace h := Lib.hid h
  obtain ⟨v, hv⟩ : ∃ v, whoOf (mget l (a, b, c, d, n)) = v := ⟨_, rfl⟩
  obtain ⟨th, hth⟩ : ∃ th, (mget l (a, b, c, d, n)).isSome = th := ⟨_, rfl⟩
  replace hv := Lib.hid hv
  have hok2 : setOk l (a, b, c, d, n) who = (rightB a b c d n && decide (0 ≤ who) && (th || decide (l.length < 64))) := by unfold setOk rightT; rw [hth]
  replace hth := Lib.hid hth
  replace hok2 := Lib.hid hok2
  go_enter Try.func9, Try.ntmps9
  go_wp2
  refine wp_region_noPanic ?_
  refine wp_region_held_drew (S := fun w' => Tb w' g t l ∧ Bk w' w.heap.size #[.int .u8 a, .int .u8 b, .int .u8 c, .int .u8 d, .int .i64 n] 29) (by kernel_rfl) (⟨h1.drew, bk_drew hbx⟩) (fun hHeld => ?_)
  refine wpAnyH_take (i := 0) (oi := { dst := some 10, op := Go.Op.move (Go.Operand.tmp 0), type := 22, pos := "route.go:24", after := #[], guard := none }) (v := ?_) rfl (by kernel_rfl) (by kernel_rfl) (by kernel_rfl) (fun _ _ _ h => h) (Or.inl ⟨by rfl, ?_⟩) (by assumption) ?_
  rotate_left 1
  · intro w' hSw
    first | (go_simp; done) | (go_simp; with_reducible rfl)
  try simp only [Act.put, List.getElem_toArray, List.getElem_cons_succ, List.getElem_cons_zero, List.setIfInBounds_toArray, List.set_cons_zero, List.set_cons_succ]
  refine wpAnyH_take (i := 1) (oi := { dst := some 11, op := Go.Op.nilCheck (Go.Operand.tmp 10), type := 0, pos := "route.go:24", after := #[{ on := 0, ground := Go.Ground.data }], guard := none }) (v := ?_) rfl (by kernel_rfl) (by kernel_rfl) (by kernel_rfl) (fun _ _ _ h => h) (Or.inl ⟨by rfl, ?_⟩) (by assumption) ?_
  rotate_left 1
  · intro w' hSw
    first | (go_simp; done) | (go_simp; with_reducible rfl)
  try simp only [Act.put, List.getElem_toArray, List.getElem_cons_succ, List.getElem_cons_zero, List.setIfInBounds_toArray, List.set_cons_zero, List.set_cons_succ]
  refine wpAnyH_take (i := 2) (oi := { dst := some 12, op := Go.Op.fieldAddr 56 (Go.Operand.tmp 11) 0, type := 0, pos := "route.go:24", after := #[{ on := 1, ground := Go.Ground.data }], guard := none }) (v := ?_) rfl (by kernel_rfl) (by kernel_rfl) (by kernel_rfl) (fun _ _ _ h => h) (Or.inl ⟨by rfl, ?_⟩) (by assumption) ?_
  rotate_left 1
  · intro w' hSw
    first | (go_simp; done) | (go_simp; with_reducible rfl)
  try simp only [Act.put, List.getElem_toArray, List.getElem_cons_succ, List.getElem_cons_zero, List.setIfInBounds_toArray, List.set_cons_zero, List.set_cons_succ]
  refine wpAnyH_take (i := 3) (oi := { dst := some 13, op := Go.Op.load 54 (Go.Operand.tmp 12), type := 54, pos := "route.go:24", after := #[{ on := 2, ground := Go.Ground.data }], guard := none }) (v := ?_) rfl (by kernel_rfl) (by kernel_rfl) (by kernel_rfl) (fun _ _ _ h => h) (Or.inl ⟨by rfl, ?_⟩) (by assumption) ?_
  rotate_left 1
  · intro w' hSw
    obtain ⟨z0, z1, z2, z3, z4, _⟩ := hold5 hSw.2
    have y0 : w'.cell? ⟨g, 0, none⟩ = some (.map (some t)) := (bk_cell hSw.1.1 0).trans rfl
    first | (go_simp; done) | (go_simp; with_reducible rfl)
  try simp only [Act.put, List.getElem_toArray, List.getElem_cons_succ, List.getElem_cons_zero, List.setIfInBounds_toArray, List.set_cons_zero, List.set_cons_succ]
  refine wpAnyH_take (i := 4) (oi := { dst := some 14, op := Go.Op.load 29 (Go.Operand.tmp 4), type := 29, pos := "route.go:24", after := #[], guard := none }) (v := ?_) rfl (by kernel_rfl) (by kernel_rfl) (by kernel_rfl) (fun _ _ _ h => h) (Or.inl ⟨by rfl, ?_⟩) (by assumption) ?_
  rotate_left 1
  · intro w' hSw
    obtain ⟨z0, z1, z2, z3, z4, _⟩ := hold5 hSw.2
    have y0 : w'.cell? ⟨g, 0, none⟩ = some (.map (some t)) := (bk_cell hSw.1.1 0).trans rfl
    first | (go_simp; done) | (go_simp; with_reducible rfl)
  try simp only [Act.put, List.getElem_toArray, List.getElem_cons_succ, List.getElem_cons_zero, List.setIfInBounds_toArray, List.set_cons_zero, List.set_cons_succ]
  refine wpAnyH_take (i := 5) (oi := { dst := some 15, op := Go.Op.lookup 54 (Go.Operand.tmp 13) (Go.Operand.tmp 14) true, type := 57, pos := "route.go:24", after := #[{ on := 3, ground := Go.Ground.data }, { on := 4, ground := Go.Ground.data }], guard := none }) (v := ?_) rfl (by kernel_rfl) (by kernel_rfl) (by kernel_rfl) (fun _ _ _ h => h) (Or.inl ⟨by rfl, ?_⟩) (by assumption) ?_
  rotate_left 1
  · intro w' hSw
    have hlk := tm_look hSw.1.2 hok
    rw [hv.out, hth.out] at hlk
    first | (go_simp; done) | (go_simp; with_reducible rfl)
  try simp only [Act.put, List.getElem_toArray, List.getElem_cons_succ, List.getElem_cons_zero, List.setIfInBounds_toArray, List.set_cons_zero, List.set_cons_succ]
  refine wpAnyH_take (i := 6) (oi := { dst := some 9, op := Go.Op.move (Go.Operand.tmp 15), type := 57, pos := "route.go:24", after := #[{ on := 5, ground := Go.Ground.data }], guard := none }) (v := ?_) rfl (by kernel_rfl) (by kernel_rfl) (by kernel_rfl) (fun _ _ _ h => h) (Or.inl ⟨by rfl, ?_⟩) (by assumption) ?_
  rotate_left 1
  · intro w' hSw
    first | (go_simp; done) | (go_simp; with_reducible rfl)
  try simp only [Act.put, List.getElem_toArray, List.getElem_cons_succ, List.getElem_cons_zero, List.setIfInBounds_toArray, List.set_cons_zero, List.set_cons_succ]
  refine wpAnyH_take (i := 7) (oi := { dst := some 16, op := Go.Op.extract (Go.Operand.tmp 9) 0, type := 3, pos := "route.go:24", after := #[{ on := 6, ground := Go.Ground.data }], guard := none }) (v := ?_) rfl (by kernel_rfl) (by kernel_rfl) (by kernel_rfl) (fun _ _ _ h => h) (Or.inl ⟨by rfl, ?_⟩) (by assumption) ?_
  rotate_left 1
  · intro w' hSw
    first | (go_simp; done) | (go_simp; with_reducible rfl)
  try simp only [Act.put, List.getElem_toArray, List.getElem_cons_succ, List.getElem_cons_zero, List.setIfInBounds_toArray, List.set_cons_zero, List.set_cons_succ]
  refine wpAnyH_take (i := 8) (oi := { dst := some 17, op := Go.Op.extract (Go.Operand.tmp 9) 1, type := 4, pos := "route.go:24", after := #[{ on := 6, ground := Go.Ground.data }, { on := 9, ground := Go.Ground.gcOnly Go.Departure.lateStores }], guard := none }) (v := ?_) rfl (by kernel_rfl) (by kernel_rfl) (by kernel_rfl) (fun _ _ _ h => h) (Or.inl ⟨by rfl, ?_⟩) (by assumption) ?_
  rotate_left 1
  · intro w' hSw
    first | (go_simp; done) | (go_simp; with_reducible rfl)
  try simp only [Act.put, List.getElem_toArray, List.getElem_cons_succ, List.getElem_cons_zero, List.setIfInBounds_toArray, List.set_cons_zero, List.set_cons_succ]
  refine wpAnyH_take (i := 9) (oi := { dst := some 7, op := Go.Op.assign (Go.Operand.tmp 16), type := 3, pos := "route.go:24", after := #[{ on := 7, ground := Go.Ground.data }, { on := 0, ground := Go.Ground.phase }, { on := 1, ground := Go.Ground.phase }, { on := 2, ground := Go.Ground.phase }, { on := 3, ground := Go.Ground.phase }, { on := 4, ground := Go.Ground.phase }, { on := 5, ground := Go.Ground.phase }, { on := 6, ground := Go.Ground.phase }, { on := 7, ground := Go.Ground.phase }, { on := 8, ground := Go.Ground.textOnly Go.Departure.lateStores }], guard := none }) (v := ?_) rfl (by kernel_rfl) (by kernel_rfl) (by kernel_rfl) (fun _ _ _ h => h) (Or.inl ⟨by rfl, ?_⟩) (by assumption) ?_
  rotate_left 1
  · intro w' hSw
    first | (go_simp; done) | (go_simp; with_reducible rfl)
  try simp only [Act.put, List.getElem_toArray, List.getElem_cons_succ, List.getElem_cons_zero, List.setIfInBounds_toArray, List.set_cons_zero, List.set_cons_succ]
  refine wpAnyH_take (i := 10) (oi := { dst := some 8, op := Go.Op.assign (Go.Operand.tmp 17), type := 4, pos := "route.go:24", after := #[{ on := 8, ground := Go.Ground.data }, { on := 9, ground := Go.Ground.chain }, { on := 0, ground := Go.Ground.phase }, { on := 1, ground := Go.Ground.phase }, { on := 2, ground := Go.Ground.phase }, { on := 3, ground := Go.Ground.phase }, { on := 4, ground := Go.Ground.phase }, { on := 5, ground := Go.Ground.phase }, { on := 6, ground := Go.Ground.phase }, { on := 7, ground := Go.Ground.phase }, { on := 8, ground := Go.Ground.phase }, { on := 9, ground := Go.Ground.phase }], guard := none }) (v := ?_) rfl (by kernel_rfl) (by kernel_rfl) (by kernel_rfl) (fun _ _ _ h => h) (Or.inl ⟨by rfl, ?_⟩) (by assumption) ?_
  rotate_left 1
  · intro w' hSw
    first | (go_simp; done) | (go_simp; with_reducible rfl)
  try simp only [Act.put, List.getElem_toArray, List.getElem_cons_succ, List.getElem_cons_zero, List.setIfInBounds_toArray, List.set_cons_zero, List.set_cons_succ]
  refine wpAnyH_done (by kernel_rfl) ?_ _
  refine NoPanic.normal ?_
  replace h1 := Lib.hid (h1.drew)
  replace hbx := Lib.hid (bk_drew hbx)
  replace hBa := Lib.hid (bl_drew hBa)
  clear hHeld
  cases hrt : rightB a b c d n with
  | false =>
    have hno : setOk l (a, b, c, d, n) who = false := by rw [hok2.out, hrt]; simp
    replace hrt := Lib.hid hrt
    replace hno := Lib.hid hno
    go_wp2_with (go_at_call 22; (with_reducible refine (aright_any a b c d n _ hok).mono ?_); rw [hrt.out]; rintro e w1 ⟨rfl, hB1⟩)
    go_ret
    exact SetPost.no hno.out (h1.out.below hB1) (Kept.of_below (bl_then hBa.out hB1))
  | true =>
    replace hrt := Lib.hid hrt
    by_cases hw0 : who < 0
    · have hw1 : decide (who < 0) = true := decide_eq_true hw0
      have hno : setOk l (a, b, c, d, n) who = false := by rw [hok2.out, decide_eq_false (by omega : ¬ 0 ≤ who)]; simp
      replace hno := Lib.hid hno
      go_wp2_with (go_at_call 22; (with_reducible refine (aright_any a b c d n _ hok).mono ?_); rw [hrt.out]; rintro e w1 ⟨rfl, hB1⟩)
      go_ret
      exact SetPost.no hno.out (h1.out.below hB1) (Kept.of_below (bl_then hBa.out hB1))
    · have hw1 : decide (who < 0) = false := decide_eq_false hw0
      have hw2 : decide (0 ≤ who) = true := decide_eq_true (by omega)
      by_cases hth2 : th = false ∧ 64 ≤ l.length
      · obtain ⟨rfl, hl64⟩ := hth2
        have hl2 : decide (64 ≤ (l.length : Int)) = true := decide_eq_true (by omega)
        have hno : setOk l (a, b, c, d, n) who = false := by rw [hok2.out, decide_eq_false (by omega : ¬ List.length l < 64)]; simp
        replace hno := Lib.hid hno
        replace hw2 := Lib.hid hw2
        go_wp2_with (go_at_call 22; (with_reducible refine (aright_any a b c d n _ hok).mono ?_); rw [hrt.out]; rintro e w1 ⟨rfl, hB1⟩; have k1 := h1.out.below hB1; have y0 : w1.cell? ⟨g, 0, none⟩ = some (.map (some t)) := (bk_cell k1.1 0).trans rfl; have hln := tm_len k1.2 3; replace k1 := Lib.hid k1)
        go_ret
        exact SetPost.no hno.out k1.out (Kept.of_below (bl_then hBa.out hB1))
      · have hyes : setOk l (a, b, c, d, n) who = true := by
          rw [hok2.out, hrt.out, hw2]
          cases th with
          | true => simp
          | false =>
            simp only [Bool.true_and, Bool.false_or, decide_eq_true_eq]
            rcases Nat.lt_or_ge l.length 64 with c | c
            · exact c
            · exact absurd ⟨rfl, c⟩ hth2
        replace hyes := Lib.hid hyes
        replace hw2 := Lib.hid hw2
        have hth3 : th = false → decide (64 ≤ (l.length : Int)) = false := fun e => decide_eq_false fun c => hth2 ⟨e, by omega⟩
        clear hth2
        replace hth3 := Lib.hid hth3
        cases th with
        | false =>
          have hl2 := hth3.out rfl
          go_wp2_with (go_at_call 22; (with_reducible refine (aright_any a b c d n _ hok).mono ?_); rw [hrt.out]; rintro e w1 ⟨rfl, hB1⟩; have k1 := h1.out.below hB1; have y0 : w1.cell? ⟨g, 0, none⟩ = some (.map (some t)) := (bk_cell k1.1 0).trans rfl; have hln := tm_len k1.2 3; have kx := bk_below hB1 hbx.out; obtain ⟨w2, hrun, k2, hK2, _⟩ := tm_store k1.2.drew hok who; replace k1 := Lib.hid k1; replace kx := Lib.hid kx; replace hK2 := Lib.hid hK2)
          have hg2 := bk_kept hK2.out (bk_drew k1.out.1) hgt
          have hx2 := bk_kept hK2.out (bk_drew kx.out) hxt
          have hKK := Kept.trans (Kept.of_below (S := (· = t)) (bl_drew (bl_then hBa.out hB1))) hK2.out (fun i _ e => e)
          replace hg2 := Lib.hid hg2
          replace hx2 := Lib.hid hx2
          replace hKK := Lib.hid hKK
          refine wp_region_noPanic ?_
          refine wp_region_held_drew (S := fun w' => Bk w' g #[.map (some t)] 56 ∧ Bk w' w.heap.size #[.int .u8 a, .int .u8 b, .int .u8 c, .int .u8 d, .int .i64 n] 29) (by kernel_rfl) (⟨bk_drew k1.out.1, bk_drew kx.out⟩) (fun hHeld => ?_)
          refine wpAnyH_take (i := 0) (oi := { dst := some 37, op := Go.Op.move (Go.Operand.tmp 0), type := 22, pos := "route.go:28", after := #[], guard := none }) (v := ?_) rfl (by kernel_rfl) (by kernel_rfl) (by kernel_rfl) (fun _ _ _ h => h) (Or.inl ⟨by rfl, ?_⟩) (by assumption) ?_
          rotate_left 1
          · intro w' hSw
            first | (go_simp; done) | (go_simp; with_reducible rfl)
          try simp only [Act.put, List.getElem_toArray, List.getElem_cons_succ, List.getElem_cons_zero, List.setIfInBounds_toArray, List.set_cons_zero, List.set_cons_succ]
          refine wpAnyH_take (i := 1) (oi := { dst := some 38, op := Go.Op.nilCheck (Go.Operand.tmp 37), type := 0, pos := "route.go:28", after := #[{ on := 0, ground := Go.Ground.data }], guard := none }) (v := ?_) rfl (by kernel_rfl) (by kernel_rfl) (by kernel_rfl) (fun _ _ _ h => h) (Or.inl ⟨by rfl, ?_⟩) (by assumption) ?_
          rotate_left 1
          · intro w' hSw
            first | (go_simp; done) | (go_simp; with_reducible rfl)
          try simp only [Act.put, List.getElem_toArray, List.getElem_cons_succ, List.getElem_cons_zero, List.setIfInBounds_toArray, List.set_cons_zero, List.set_cons_succ]
          refine wpAnyH_take (i := 2) (oi := { dst := some 39, op := Go.Op.fieldAddr 56 (Go.Operand.tmp 38) 0, type := 0, pos := "route.go:28", after := #[{ on := 1, ground := Go.Ground.data }], guard := none }) (v := ?_) rfl (by kernel_rfl) (by kernel_rfl) (by kernel_rfl) (fun _ _ _ h => h) (Or.inl ⟨by rfl, ?_⟩) (by assumption) ?_
          rotate_left 1
          · intro w' hSw
            first | (go_simp; done) | (go_simp; with_reducible rfl)
          try simp only [Act.put, List.getElem_toArray, List.getElem_cons_succ, List.getElem_cons_zero, List.setIfInBounds_toArray, List.set_cons_zero, List.set_cons_succ]
          refine wpAnyH_take (i := 3) (oi := { dst := some 40, op := Go.Op.load 54 (Go.Operand.tmp 39), type := 54, pos := "route.go:28", after := #[{ on := 2, ground := Go.Ground.data }], guard := none }) (v := ?_) rfl (by kernel_rfl) (by kernel_rfl) (by kernel_rfl) (fun _ _ _ h => h) (Or.inl ⟨by rfl, ?_⟩) (by assumption) ?_
          rotate_left 1
          · intro w' hSw
            obtain ⟨z0, z1, z2, z3, z4, _⟩ := hold5 hSw.2
            have y0 : w'.cell? ⟨g, 0, none⟩ = some (.map (some t)) := (bk_cell hSw.1 0).trans rfl
            first | (go_simp; done) | (go_simp; with_reducible rfl)
          try simp only [Act.put, List.getElem_toArray, List.getElem_cons_succ, List.getElem_cons_zero, List.setIfInBounds_toArray, List.set_cons_zero, List.set_cons_succ]
          refine wpAnyH_take (i := 4) (oi := { dst := some 41, op := Go.Op.load 29 (Go.Operand.tmp 4), type := 29, pos := "route.go:28", after := #[], guard := none }) (v := ?_) rfl (by kernel_rfl) (by kernel_rfl) (by kernel_rfl) (fun _ _ _ h => h) (Or.inl ⟨by rfl, ?_⟩) (by assumption) ?_
          rotate_left 1
          · intro w' hSw
            obtain ⟨z0, z1, z2, z3, z4, _⟩ := hold5 hSw.2
            have y0 : w'.cell? ⟨g, 0, none⟩ = some (.map (some t)) := (bk_cell hSw.1 0).trans rfl
            first | (go_simp; done) | (go_simp; with_reducible rfl)
          try simp only [Act.put, List.getElem_toArray, List.getElem_cons_succ, List.getElem_cons_zero, List.setIfInBounds_toArray, List.set_cons_zero, List.set_cons_succ]
          refine wpAnyH_take (i := 5) (oi := { dst := some 42, op := Go.Op.move (Go.Operand.tmp 2), type := 3, pos := "route.go:28", after := #[], guard := none }) (v := ?_) rfl (by kernel_rfl) (by kernel_rfl) (by kernel_rfl) (fun _ _ _ h => h) (Or.inl ⟨by rfl, ?_⟩) (by assumption) ?_
          rotate_left 1
          · intro w' hSw
            first | (go_simp; done) | (go_simp; with_reducible rfl)
          try simp only [Act.put, List.getElem_toArray, List.getElem_cons_succ, List.getElem_cons_zero, List.setIfInBounds_toArray, List.set_cons_zero, List.set_cons_succ]
          refine wpAnyH_ready (rs := [6]) (by kernel_rfl) (by simp) ?_
          refine (AllReadyH.cons (o := { dst := none, op := Go.Op.mapUpdate 54 (Go.Operand.tmp 40) (Go.Operand.tmp 41) (Go.Operand.tmp 42), type := 0, pos := "route.go:28", after := #[{ on := 3, ground := Go.Ground.data }, { on := 4, ground := Go.Ground.data }, { on := 5, ground := Go.Ground.data }, { on := 0, ground := Go.Ground.phase }, { on := 1, ground := Go.Ground.phase }, { on := 2, ground := Go.Ground.phase }, { on := 3, ground := Go.Ground.phase }, { on := 4, ground := Go.Ground.phase }, { on := 5, ground := Go.Ground.phase }], guard := none }) rfl (fun K hK => ?_) AllReadyH.nil)
          go_simp
          skip
          refine hK.out _ _ ?_ (fun hHeld => ?_)
          · exact ⟨hg2.out, hx2.out⟩
          clear hK K
          try simp only [Act.put, List.getElem_toArray, List.getElem_cons_succ, List.getElem_cons_zero, List.setIfInBounds_toArray, List.set_cons_zero, List.set_cons_succ]
          refine wpAnyH_done (by kernel_rfl) ?_ _
          refine NoPanic.normal ?_
          go_wp2
          go_ret
          exact SetPost.yes hyes.out ⟨hg2.out, k2⟩ hKK.out
        | true =>
          go_wp2_with (go_at_call 22; (with_reducible refine (aright_any a b c d n _ hok).mono ?_); rw [hrt.out]; rintro e w1 ⟨rfl, hB1⟩; have k1 := h1.out.below hB1; have kx := bk_below hB1 hbx.out; obtain ⟨w2, hrun, k2, hK2, _⟩ := tm_store k1.2.drew hok who; replace k1 := Lib.hid k1; replace kx := Lib.hid kx; replace hK2 := Lib.hid hK2)
          have hg2 := bk_kept hK2.out (bk_drew k1.out.1) hgt
          have hx2 := bk_kept hK2.out (bk_drew kx.out) hxt
          have hKK := Kept.trans (Kept.of_below (S := (· = t)) (bl_drew (bl_then hBa.out hB1))) hK2.out (fun i _ e => e)
          replace hg2 := Lib.hid hg2
          replace hx2 := Lib.hid hx2
          replace hKK := Lib.hid hKK
          refine wp_region_noPanic ?_
          refine wp_region_held_drew (S := fun w' => Bk w' g #[.map (some t)] 56 ∧ Bk w' w.heap.size #[.int .u8 a, .int .u8 b, .int .u8 c, .int .u8 d, .int .i64 n] 29) (by kernel_rfl) (⟨bk_drew k1.out.1, bk_drew kx.out⟩) (fun hHeld => ?_)
          refine wpAnyH_take (i := 0) (oi := { dst := some 37, op := Go.Op.move (Go.Operand.tmp 0), type := 22, pos := "route.go:28", after := #[], guard := none }) (v := ?_) rfl (by kernel_rfl) (by kernel_rfl) (by kernel_rfl) (fun _ _ _ h => h) (Or.inl ⟨by rfl, ?_⟩) (by assumption) ?_
          rotate_left 1
          · intro w' hSw
            first | (go_simp; done) | (go_simp; with_reducible rfl)
          try simp only [Act.put, List.getElem_toArray, List.getElem_cons_succ, List.getElem_cons_zero, List.setIfInBounds_toArray, List.set_cons_zero, List.set_cons_succ]
          refine wpAnyH_take (i := 1) (oi := { dst := some 38, op := Go.Op.nilCheck (Go.Operand.tmp 37), type := 0, pos := "route.go:28", after := #[{ on := 0, ground := Go.Ground.data }], guard := none }) (v := ?_) rfl (by kernel_rfl) (by kernel_rfl) (by kernel_rfl) (fun _ _ _ h => h) (Or.inl ⟨by rfl, ?_⟩) (by assumption) ?_
          rotate_left 1
          · intro w' hSw
            first | (go_simp; done) | (go_simp; with_reducible rfl)
          try simp only [Act.put, List.getElem_toArray, List.getElem_cons_succ, List.getElem_cons_zero, List.setIfInBounds_toArray, List.set_cons_zero, List.set_cons_succ]
          refine wpAnyH_take (i := 2) (oi := { dst := some 39, op := Go.Op.fieldAddr 56 (Go.Operand.tmp 38) 0, type := 0, pos := "route.go:28", after := #[{ on := 1, ground := Go.Ground.data }], guard := none }) (v := ?_) rfl (by kernel_rfl) (by kernel_rfl) (by kernel_rfl) (fun _ _ _ h => h) (Or.inl ⟨by rfl, ?_⟩) (by assumption) ?_
          rotate_left 1
          · intro w' hSw
            first | (go_simp; done) | (go_simp; with_reducible rfl)
          try simp only [Act.put, List.getElem_toArray, List.getElem_cons_succ, List.getElem_cons_zero, List.setIfInBounds_toArray, List.set_cons_zero, List.set_cons_succ]
          refine wpAnyH_take (i := 3) (oi := { dst := some 40, op := Go.Op.load 54 (Go.Operand.tmp 39), type := 54, pos := "route.go:28", after := #[{ on := 2, ground := Go.Ground.data }], guard := none }) (v := ?_) rfl (by kernel_rfl) (by kernel_rfl) (by kernel_rfl) (fun _ _ _ h => h) (Or.inl ⟨by rfl, ?_⟩) (by assumption) ?_
          rotate_left 1
          · intro w' hSw
            obtain ⟨z0, z1, z2, z3, z4, _⟩ := hold5 hSw.2
            have y0 : w'.cell? ⟨g, 0, none⟩ = some (.map (some t)) := (bk_cell hSw.1 0).trans rfl
            first | (go_simp; done) | (go_simp; with_reducible rfl)
          try simp only [Act.put, List.getElem_toArray, List.getElem_cons_succ, List.getElem_cons_zero, List.setIfInBounds_toArray, List.set_cons_zero, List.set_cons_succ]
          refine wpAnyH_take (i := 4) (oi := { dst := some 41, op := Go.Op.load 29 (Go.Operand.tmp 4), type := 29, pos := "route.go:28", after := #[], guard := none }) (v := ?_) rfl (by kernel_rfl) (by kernel_rfl) (by kernel_rfl) (fun _ _ _ h => h) (Or.inl ⟨by rfl, ?_⟩) (by assumption) ?_
          rotate_left 1
          · intro w' hSw
            obtain ⟨z0, z1, z2, z3, z4, _⟩ := hold5 hSw.2
            have y0 : w'.cell? ⟨g, 0, none⟩ = some (.map (some t)) := (bk_cell hSw.1 0).trans rfl
            first | (go_simp; done) | (go_simp; with_reducible rfl)
          try simp only [Act.put, List.getElem_toArray, List.getElem_cons_succ, List.getElem_cons_zero, List.setIfInBounds_toArray, List.set_cons_zero, List.set_cons_succ]
          refine wpAnyH_take (i := 5) (oi := { dst := some 42, op := Go.Op.move (Go.Operand.tmp 2), type := 3, pos := "route.go:28", after := #[], guard := none }) (v := ?_) rfl (by kernel_rfl) (by kernel_rfl) (by kernel_rfl) (fun _ _ _ h => h) (Or.inl ⟨by rfl, ?_⟩) (by assumption) ?_
          rotate_left 1
          · intro w' hSw
            first | (go_simp; done) | (go_simp; with_reducible rfl)
          try simp only [Act.put, List.getElem_toArray, List.getElem_cons_succ, List.getElem_cons_zero, List.setIfInBounds_toArray, List.set_cons_zero, List.set_cons_succ]
          refine wpAnyH_ready (rs := [6]) (by kernel_rfl) (by simp) ?_
          refine (AllReadyH.cons (o := { dst := none, op := Go.Op.mapUpdate 54 (Go.Operand.tmp 40) (Go.Operand.tmp 41) (Go.Operand.tmp 42), type := 0, pos := "route.go:28", after := #[{ on := 3, ground := Go.Ground.data }, { on := 4, ground := Go.Ground.data }, { on := 5, ground := Go.Ground.data }, { on := 0, ground := Go.Ground.phase }, { on := 1, ground := Go.Ground.phase }, { on := 2, ground := Go.Ground.phase }, { on := 3, ground := Go.Ground.phase }, { on := 4, ground := Go.Ground.phase }, { on := 5, ground := Go.Ground.phase }], guard := none }) rfl (fun K hK => ?_) AllReadyH.nil)
          go_simp
          skip
          refine hK.out _ _ ?_ (fun hHeld => ?_)
          · exact ⟨hg2.out, hx2.out⟩
          clear hK K
          try simp only [Act.put, List.getElem_toArray, List.getElem_cons_succ, List.getElem_cons_zero, List.setIfInBounds_toArray, List.set_cons_zero, List.set_cons_succ]
          refine wpAnyH_done (by kernel_rfl) ?_ _
          refine NoPanic.normal ?_
          go_wp2
          go_ret
          exact SetPost.yes hyes.out ⟨hg2.out, k2⟩ hKK.out
end Go.Proofs.Ytebeknnjjoobnaa
