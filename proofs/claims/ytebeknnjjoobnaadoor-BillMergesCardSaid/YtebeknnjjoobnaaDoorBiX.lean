/- What a slice of moments reads as. -/
import Derived.Test.YtebeknnjjoobnaaDoorBiS
set_option linter.unusedVariables false
set_option linter.unusedSimpArgs false
set_option maxRecDepth 100000
namespace Go.Proofs.YtebeknnjjoobnaaDoor
open Go.RowKit Go.ChangeShapes Go.WideShapes Go.ChangeAt

inductive LeafS where
  | i (k : IntKind)
  | b
  | s
def LeafS.fits : LeafS → Value → Prop
  | .i k, v => ∃ n, v = .int k n ∧ (Lit.int k n).wf = true
  | .b, v => ∃ x, v = .bool x
  | .s, v => ∃ A l c, v = .slice A l c
def FitsS : List LeafS → List Value → Prop
  | [], [] => True
  | k :: ks, v :: vs => k.fits v ∧ FitsS ks vs
  | _, _ => False
theorem FitsS.length : ∀ {ks : List LeafS} {vs : List Value}, FitsS ks vs → vs.length = ks.length
  | [], [], _ => rfl
  | _ :: ks, _ :: vs, h => by simp [FitsS.length h.2]
  | [], _ :: _, h => h.elim
  | _ :: _, [], h => h.elim
theorem FitsS.append : ∀ {ks ls : List LeafS} {vs us : List Value}, FitsS ks vs → FitsS ls us → FitsS (ks ++ ls) (vs ++ us)
  | [], _, [], _, _, k => k
  | _ :: _, _, _ :: _, _, h, k => ⟨h.1, FitsS.append h.2 k⟩
  | [], _, _ :: _, _, h, _ => h.elim
  | _ :: _, _, [], _, h, _ => h.elim

def leavesSF (P : Program) (L : TypeId → Option (List LeafS)) : Nat → List Field → Option (List LeafS)
  | _, [] => some []
  | off, f :: fs => match L f.type, leavesSF P L (off + P.cellsOf f.type) fs with
    | some ks, some r => if f.offset = off ∧ P.cellsOf f.type = ks.length then some (ks ++ r) else none
    | _, _ => none
def leavesS (P : Program) : Nat → TypeId → Option (List LeafS)
  | 0, _ => none
  | n + 1, t => match P.underlying t with
    | some (.int k) => some [.i k]
    | some .bool => some [.b]
    | some (.slice _) => some [.s]
    | some (.struct fs) => match leavesSF P (leavesS P n) 0 fs.toList with
      | some ks => if P.cellsOf t = ks.length then some ks else none
      | none => none
    | some (.array m e) => match leavesS P n e with
      | some ks => if P.cellsOf e = ks.length ∧ P.cellsOf t = (List.replicate m ks).flatten.length then some (List.replicate m ks).flatten else none
      | none => none
    | _ => none

variable {H : Type} {enc : TypeId × Value → H} {P : Program} {w : World} {base : Nat} {spare : Nat → Bool} {held : Bool}

theorem leavesSF_fits {L : TypeId → Option (List LeafS)} {n : Nat} {cs : List Value} (hL : ∀ t ks vs x, L t = some ks → DataW.trod enc P w base spare held n t vs = some x → FitsS ks vs) :
    ∀ (fs : List Field) (off : Nat) (r : List LeafS), leavesSF P L off fs = some r → (∀ f ∈ fs, ∃ y, DataW.trod enc P w base spare held n f.type ((cs.drop f.offset).take (P.cellsOf f.type)) = some y) → FitsS r ((cs.drop off).take r.length)
  | [], off, r, h, _ => by
    simp only [leavesSF, Option.some.injEq] at h
    subst h
    simp [FitsS]
  | f :: fs, off, r, h, hf => by
    simp only [leavesSF] at h
    split at h
    · rename_i ks r' h1 h2
      split at h
      · rename_i hc
        simp only [Option.some.injEq] at h
        subst h
        obtain ⟨y, hy⟩ := hf f (by simp)
        have e1 := hL _ _ _ _ h1 hy
        have e2 := leavesSF_fits hL fs _ _ h2 fun g hg => hf g (by simp [hg])
        rw [hc.1, hc.2] at e1
        rw [hc.2, ← List.drop_drop] at e2
        rw [List.length_append, List.take_add]
        exact e1.append e2
      · cases h
    · cases h
theorem repS_fits {n : Nat} {e : TypeId} {ks : List LeafS} {cs : List Value} {c : Nat} (hc : c = ks.length) : ∀ (m i : Nat), (∀ j, i ≤ j → j < i + m → FitsS ks ((cs.drop (j * c)).take c)) → FitsS (List.replicate m ks).flatten ((cs.drop (i * c)).take (List.replicate m ks).flatten.length)
  | 0, i, _ => by simp [FitsS]
  | m + 1, i, h => by
    have e1 := h i (Nat.le_refl _) (by omega)
    have e2 := repS_fits (n := n) (e := e) hc m (i + 1) fun j h1 h2 => h j (by omega) (by omega)
    rw [List.replicate_succ, List.flatten_cons, List.length_append, List.take_add, ← hc]
    rw [Nat.succ_mul, ← List.drop_drop] at e2
    exact e1.append e2
theorem leavesS_fits : ∀ (f : Nat) (t : TypeId) (ks : List LeafS) (fuel : Nat) (cs : List Value) (x : DataW H × List MemPlace), leavesS P f t = some ks → DataW.trod enc P w base spare held fuel t cs = some x → FitsS ks cs
  | 0, _, _, _, _, _, h, _ => by simp [leavesS] at h
  | f + 1, t, ks, fuel, cs, x, h, hx => by
    simp only [leavesS] at h
    split at h
    · rename_i k ht
      simp only [Option.some.injEq] at h
      subst h
      obtain ⟨n, rfl, _, hw⟩ := DataW.trod_int ht hx
      exact ⟨⟨n, rfl, hw⟩, trivial⟩
    · rename_i ht
      simp only [Option.some.injEq] at h
      subst h
      obtain ⟨b, rfl, _⟩ := DataW.trod_bool ht hx
      exact ⟨⟨b, rfl⟩, trivial⟩
    · rename_i e ht
      simp only [Option.some.injEq] at h
      subst h
      rcases Deep.open_slice ht hx with ⟨h, _⟩ | ⟨a, l, c, _, _, _, _, h, _⟩
      · subst h; exact ⟨⟨_, _, _, rfl⟩, trivial⟩
      · subst h; exact ⟨⟨_, _, _, rfl⟩, trivial⟩
    · rename_i fs ht
      split at h
      · rename_i ks' h1
        split at h
        · rename_i hc
          simp only [Option.some.injEq] at h
          subst h
          obtain ⟨xs, n, _, _, hlen, hxl, hf⟩ := DataW.trod_struct ht hx
          have e := leavesSF_fits (cs := cs) (n := n) (fun t ks vs x h1 h2 => leavesS_fits f t ks n vs x h1 h2) _ _ _ h1 fun g hg => by
            obtain ⟨i, hi, rfl⟩ := List.mem_iff_getElem.1 hg
            have hi' : i < fs.size := by simpa using hi
            have := hf i fs[i] (by simp [hi'])
            simp only [Array.getElem_toList]
            exact ⟨xs[i], by rw [this]; simp⟩
          rw [List.drop_zero, List.take_of_length_le (by omega)] at e
          exact e
        · cases h
      · cases h
    · rename_i m e ht
      split at h
      · rename_i ks' h1
        split at h
        · rename_i hc
          simp only [Option.some.injEq] at h
          subst h
          obtain ⟨xs, n, _, _, hlen, hxl, hf⟩ := DataW.trod_array ht hx
          have e := repS_fits (n := n) (e := e) (ks := ks') (cs := cs) hc.1 m 0 fun j _ hj => by
            have := hf j (by omega)
            have hj' : j < xs.length := by omega
            exact leavesS_fits f e ks' n _ xs[j] h1 (by rw [this]; simp)
          rw [Nat.zero_mul, List.drop_zero, List.take_of_length_le (by omega)] at e
          exact e
        · cases h
      · cases h
    · cases h

theorem fs_i {k : IntKind} {ks : List LeafS} {vs : List Value} (h : FitsS (.i k :: ks) vs) : ∃ n us, vs = .int k n :: us ∧ (Lit.int k n).wf = true ∧ FitsS ks us := by
  match vs, h with
  | _ :: us, ⟨⟨n, rfl, hw⟩, h2⟩ => exact ⟨n, us, rfl, hw, h2⟩
theorem fs_b {ks : List LeafS} {vs : List Value} (h : FitsS (.b :: ks) vs) : ∃ n us, vs = .bool n :: us ∧ FitsS ks us := by
  match vs, h with
  | _ :: us, ⟨⟨n, rfl⟩, h2⟩ => exact ⟨n, us, rfl, h2⟩
theorem fs_s {ks : List LeafS} {vs : List Value} (h : FitsS (.s :: ks) vs) : ∃ A l c us, vs = .slice A l c :: us ∧ FitsS ks us := by
  match vs, h with
  | _ :: us, ⟨⟨A, l, c, rfl⟩, h2⟩ => exact ⟨A, l, c, us, rfl, h2⟩
theorem fits_one : ∀ {ks : List LeafS} {vs : List Value}, FitsS ks vs → ∀ u ∈ vs, u.oneCell' = true
  | [], [], _, u, hu => absurd hu (by simp)
  | k :: ks, v :: vs, h, u, hu => by
    rcases List.mem_cons.1 hu with rfl | hu
    · cases k with
      | i k => obtain ⟨n, rfl, _⟩ := h.1; rfl
      | b => obtain ⟨n, rfl⟩ := h.1; rfl
      | s => obtain ⟨A, l, c, rfl⟩ := h.1; rfl
    · exact fits_one h.2 u hu
  | [], _ :: _, h, _, _ => h.elim
  | _ :: _, [], h, _, _ => h.elim
theorem mo_leaves : leavesS Tryd.prog 8 55 = some [.i .i64, .i .i64, .i .i64, .i .u64, .s, .i .i64, .i .u8, .i .u8, .i .u8, .i .u8, .i .i64, .i .u64, .i .u64, .i .u64, .i .u64, .i .u64, .i .u64, .i .u64, .s, .i .i64, .i .i64, .b, .i .i64, .i .i64, .b, .s, .i .u64, .i .i64, .b, .i .i64, .i .u8, .i .u8, .i .u8, .i .u8, .i .i64, .i .u64, .i .u64, .i .u64, .i .u64, .i .u64, .i .u64, .i .u64, .i .u64, .i .u64, .i .i64, .i .u64, .i .u64, .b, .s] := by kernel_rfl
theorem info_leaves : leavesS Tryd.prog 8 50 = some [.i .u64, .i .i64, .b, .i .i64, .i .u8, .i .u8, .i .u8, .i .u8, .i .i64, .i .u64, .i .u64, .i .u64, .i .u64, .i .u64, .i .u64, .i .u64, .i .u64, .i .u64, .i .i64, .i .u64, .i .u64] := by kernel_rfl
theorem mo_cells : Tryd.prog.cellsOf 55 = 49 := by kernel_rfl
theorem info_cells : Tryd.prog.cellsOf 50 = 21 := by kernel_rfl
theorem infos_cells : Tryd.prog.cellsOf 53 = 1 := by kernel_rfl
/-- A slice of moments that came in: bytes as many as a bill counts are few. -/
theorem mo_open {w : World} {base : Nat} {held : Bool} {H : Type} {enc : TypeId × Value → H} {n : Nat} {cs : List Value} {y : DataW H × List MemPlace} {x : Addr} (h : DataW.trod enc Tryd.prog w base (fun _ => true) held n 55 cs = some y) (hr : RowAt w x cs) :
    ∃ m : Mo, I64 m.sub ∧ (∀ p, m.per = some p → U64 p) ∧ MoIs w x m := by
  have hf0 := leavesS_fits 8 _ _ _ _ _ mo_leaves h
  have hone := fits_one hf0
  have hinf : ∃ v48 y48 k, cs[48]? = some v48 ∧ DataW.trod enc Tryd.prog w base (fun _ => true) held k 53 [v48] = some y48 := by
    obtain ⟨xs, k, _, _, hlen, hxl, hfd⟩ := DataW.trod_struct Tryd.underlying55 h
    have hl : cs.length = 49 := by rw [← mo_cells]; exact hlen
    have h3 : xs.length = 4 := hxl
    have h48 : DataW.trod enc Tryd.prog w base (fun _ => true) held k 53 ((cs.drop 48).take (Tryd.prog.cellsOf 53)) = xs[3]? := hfd 3 _ rfl
    rw [List.getElem?_eq_getElem (by omega)] at h48
    rw [infos_cells] at h48
    have hd : (cs.drop 48).take 1 = [cs[48]] := by
      rw [List.drop_eq_getElem_cons (by omega)]; rfl
    rw [hd] at h48
    exact ⟨_, _, _, List.getElem?_eq_getElem (by omega), h48⟩
  obtain ⟨v48, y48, k, hv48, h48⟩ := hinf
  obtain ⟨n0, us, rfl, w0, hf1⟩ := fs_i hf0
  obtain ⟨n1, us, rfl, w1, hf2⟩ := fs_i hf1
  obtain ⟨n2, us, rfl, w2, hf3⟩ := fs_i hf2
  obtain ⟨n3, us, rfl, w3, hf4⟩ := fs_i hf3
  obtain ⟨A4, l4, c4, us, rfl, hf5⟩ := fs_s hf4
  obtain ⟨n5, us, rfl, w5, hf6⟩ := fs_i hf5
  obtain ⟨n6, us, rfl, w6, hf7⟩ := fs_i hf6
  obtain ⟨n7, us, rfl, w7, hf8⟩ := fs_i hf7
  obtain ⟨n8, us, rfl, w8, hf9⟩ := fs_i hf8
  obtain ⟨n9, us, rfl, w9, hf10⟩ := fs_i hf9
  obtain ⟨n10, us, rfl, w10, hf11⟩ := fs_i hf10
  obtain ⟨n11, us, rfl, w11, hf12⟩ := fs_i hf11
  obtain ⟨n12, us, rfl, w12, hf13⟩ := fs_i hf12
  obtain ⟨n13, us, rfl, w13, hf14⟩ := fs_i hf13
  obtain ⟨n14, us, rfl, w14, hf15⟩ := fs_i hf14
  obtain ⟨n15, us, rfl, w15, hf16⟩ := fs_i hf15
  obtain ⟨n16, us, rfl, w16, hf17⟩ := fs_i hf16
  obtain ⟨n17, us, rfl, w17, hf18⟩ := fs_i hf17
  obtain ⟨A18, l18, c18, us, rfl, hf19⟩ := fs_s hf18
  obtain ⟨n19, us, rfl, w19, hf20⟩ := fs_i hf19
  obtain ⟨n20, us, rfl, w20, hf21⟩ := fs_i hf20
  obtain ⟨n21, us, rfl, hf22⟩ := fs_b hf21
  obtain ⟨n22, us, rfl, w22, hf23⟩ := fs_i hf22
  obtain ⟨n23, us, rfl, w23, hf24⟩ := fs_i hf23
  obtain ⟨n24, us, rfl, hf25⟩ := fs_b hf24
  obtain ⟨A25, l25, c25, us, rfl, hf26⟩ := fs_s hf25
  obtain ⟨n26, us, rfl, w26, hf27⟩ := fs_i hf26
  obtain ⟨n27, us, rfl, w27, hf28⟩ := fs_i hf27
  obtain ⟨n28, us, rfl, hf29⟩ := fs_b hf28
  obtain ⟨n29, us, rfl, w29, hf30⟩ := fs_i hf29
  obtain ⟨n30, us, rfl, w30, hf31⟩ := fs_i hf30
  obtain ⟨n31, us, rfl, w31, hf32⟩ := fs_i hf31
  obtain ⟨n32, us, rfl, w32, hf33⟩ := fs_i hf32
  obtain ⟨n33, us, rfl, w33, hf34⟩ := fs_i hf33
  obtain ⟨n34, us, rfl, w34, hf35⟩ := fs_i hf34
  obtain ⟨n35, us, rfl, w35, hf36⟩ := fs_i hf35
  obtain ⟨n36, us, rfl, w36, hf37⟩ := fs_i hf36
  obtain ⟨n37, us, rfl, w37, hf38⟩ := fs_i hf37
  obtain ⟨n38, us, rfl, w38, hf39⟩ := fs_i hf38
  obtain ⟨n39, us, rfl, w39, hf40⟩ := fs_i hf39
  obtain ⟨n40, us, rfl, w40, hf41⟩ := fs_i hf40
  obtain ⟨n41, us, rfl, w41, hf42⟩ := fs_i hf41
  obtain ⟨n42, us, rfl, w42, hf43⟩ := fs_i hf42
  obtain ⟨n43, us, rfl, w43, hf44⟩ := fs_i hf43
  obtain ⟨n44, us, rfl, w44, hf45⟩ := fs_i hf44
  obtain ⟨n45, us, rfl, w45, hf46⟩ := fs_i hf45
  obtain ⟨n46, us, rfl, w46, hf47⟩ := fs_i hf46
  obtain ⟨n47, us, rfl, hf48⟩ := fs_b hf47
  obtain ⟨A48, l48, c48, us, rfl, hf49⟩ := fs_s hf48
  obtain rfl := (show us = [] from by cases us with | nil => rfl | cons _ _ => exact hf49.elim)
  obtain rfl : v48 = .slice A48 l48 c48 := (Option.some.inj hv48).symm
  have hper : ∃ per : Option Int, (∀ p, per = some p → U64 p) ∧ ((per = none ∧ l48 = 0) ∨ ∃ p ai, per = some p ∧ 0 < l48 ∧ A48 = some ai ∧ w.cell? ai = some (.int .u64 p)) := by
    rcases Nat.eq_zero_or_pos l48 with h0 | h0
    · refine ⟨none, ?_, .inl ⟨rfl, h0⟩⟩
      intro p hp
      cases hp
    · rcases Deep.open_slice Tryd.underlying53 h48 with ⟨h1, _⟩ | ⟨a, l, c, m, n', D, Pl, h1, hb, hl, hm, hmm, _, hx⟩
      · simp at h1; omega
      · simp only [List.cons.injEq, Value.slice.injEq, and_true] at h1
        obtain ⟨rfl, rfl, rfl⟩ := h1
        obtain ⟨ds, h2, h3⟩ := hx 0 (by rw [hmm]; split <;> omega)
        obtain ⟨_, hlen, hcell⟩ := World.cells?_some h2
        have hg := leavesS_fits 8 _ _ _ _ _ info_leaves h3
        obtain ⟨p, us', rfl, wp, _⟩ := fs_i hg
        refine ⟨some p, ?_, .inr ⟨p, a, rfl, h0, rfl, ?_⟩⟩
        · intro q hq
          obtain rfl : p = q := Option.some.inj hq
          exact bounds_u64 wp
        have := hcell 0 (by rw [info_cells]; omega)
        rw [addr_add, Nat.zero_mul, Nat.add_zero] at this
        rw [show a.add 0 = a by unfold Addr.add; rw [if_pos rfl]] at this
        exact this
  obtain ⟨per, hp1, hp2⟩ := hper
  exact ⟨⟨n0, n19, n22, n23, l25, per⟩, bounds_i64 w22, hp1, _, n24, A25, A48, c25, l48, c48, rfl, hr, hone, rfl, rfl, rfl, rfl, rfl, rfl, rfl, hp2⟩
end Go.Proofs.YtebeknnjjoobnaaDoor
