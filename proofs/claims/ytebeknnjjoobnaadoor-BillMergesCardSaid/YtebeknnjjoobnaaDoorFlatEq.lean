/- Values of a flat type as keys of a map, and '==' of two of them. -/
import Derived.Test.YtebeknnjjoobnaaDoorFlat
import Derived.DeepKeys4
import Derived.Maps.Keyed
import Derived.Laws.StructEq
set_option linter.unusedVariables false
set_option linter.unusedSimpArgs false
namespace Go.Proofs.YtebeknnjjoobnaaDoor
open Go.RowKit Go.ChangeShapes Go.WideShapes Go.ChangeAt

def litOf : Value → Lit
  | .int k n => .int k n
  | .bool b => .bool b
  | _ => .bool false
theorem Fits.split : ∀ {ks ls : List Leaf} {vs : List Value}, Fits (ks ++ ls) vs → Fits ks (vs.take ks.length) ∧ Fits ls (vs.drop ks.length)
  | [], _, _, h => by simpa [Fits] using h
  | _ :: _, _, [], h => h.elim
  | k :: ks, ls, v :: vs, h => by
    obtain ⟨h1, h2⟩ := h
    obtain ⟨h3, h4⟩ := Fits.split (ks := ks) (ls := ls) h2
    exact ⟨⟨h1, by simpa using h3⟩, by simpa using h4⟩
theorem lit_inj : ∀ {ks : List Leaf} {vs us : List Value}, Fits ks vs → Fits ks us → vs.map litOf = us.map litOf → vs = us
  | [], [], [], _, _, _ => rfl
  | [], _ :: _, _, h, _, _ => h.elim
  | [], [], _ :: _, _, h, _ => h.elim
  | _ :: _, [], _, h, _, _ => h.elim
  | _ :: _, _ :: _, [], _, h, _ => h.elim
  | k :: ks, v :: vs, u :: us, h, h', e => by
    simp only [List.map_cons, List.cons.injEq] at e
    have e1 : v = u := by
      cases k with
      | i q =>
        obtain ⟨n, rfl, _⟩ := h.1
        obtain ⟨m, rfl, _⟩ := h'.1
        have := e.1
        simp only [litOf, Lit.int.injEq] at this
        rw [this.2]
      | b =>
        obtain ⟨x, rfl⟩ := h.1
        obtain ⟨y, rfl⟩ := h'.1
        have := e.1
        simp only [litOf, Lit.bool.injEq] at this
        rw [this]
    rw [e1, lit_inj h.2 h'.2 e.2]
section
variable {P : Program}
theorem lits_fields {L : TypeId → Option (List Leaf)} {n D : Nat} (hL : ∀ t ks vs, L t = some ks → P.keyTypeAt n t = true → Fits ks vs → P.keyLits D t vs = some (vs.map litOf)) :
    ∀ (fs : List Field) (off : Nat) (r : List Leaf) (cs : List Value), leavesF P L off fs = some r → (∀ f ∈ fs, P.keyTypeAt n f.type = true) → Fits r (cs.drop off) →
      ∃ ll, fs.mapM (fun f => P.keyLits D f.type ((cs.drop f.offset).take (P.cellsOf f.type))) = some ll ∧ ll.flatten = (cs.drop off).map litOf
  | [], off, r, cs, h, _, hf => by
    simp only [leavesF, Option.some.injEq] at h
    subst h
    refine ⟨[], rfl, ?_⟩
    have : cs.drop off = [] := by
      cases hd : cs.drop off with
      | nil => rfl
      | cons x xs => rw [hd] at hf; exact hf.elim
    rw [this]; rfl
  | f :: fs, off, r, cs, h, hk, hf => by
    simp only [leavesF] at h
    split at h
    · rename_i ks r' h1 h2
      split at h
      · rename_i hc
        simp only [Option.some.injEq] at h
        subst h
        obtain ⟨g1, g2⟩ := hf.split
        have e1 := hL _ _ _ h1 (hk f (by simp)) g1
        have e2 : Fits r' (cs.drop (off + P.cellsOf f.type)) := by rw [hc.2, ← List.drop_drop]; exact g2
        obtain ⟨ll, m1, m2⟩ := lits_fields hL fs _ _ cs h2 (fun g hg => hk g (by simp [hg])) e2
        refine ⟨(((cs.drop off).take ks.length).map litOf) :: ll, ?_, ?_⟩
        · rw [List.mapM_cons, hc.1, hc.2, e1]
          simp only [Option.bind_eq_bind, Option.bind_some, m1, Option.pure_def]
        · rw [List.flatten_cons, m2, hc.2, ← List.drop_drop, ← List.map_append, List.take_append_drop]
      · cases h
    · cases h
theorem lits_rep {e : TypeId} {n D : Nat} {ks : List Leaf} {c : Nat} (hc : c = ks.length) (hL : ∀ vs, Fits ks vs → P.keyLits D e vs = some (vs.map litOf)) (cs : List Value) :
    ∀ (m i : Nat), Fits (List.replicate m ks).flatten (cs.drop (i * c)) → ∃ ll, (List.range' i m).mapM (fun j => P.keyLits D e ((cs.drop (j * c)).take c)) = some ll ∧ ll.flatten = (cs.drop (i * c)).map litOf
  | 0, i, hf => by
    refine ⟨[], rfl, ?_⟩
    have : cs.drop (i * c) = [] := by
      cases hd : cs.drop (i * c) with
      | nil => rfl
      | cons x xs => rw [hd] at hf; exact hf.elim
    rw [this]; rfl
  | m + 1, i, hf => by
    rw [List.replicate_succ, List.flatten_cons] at hf
    obtain ⟨g1, g2⟩ := hf.split
    have e2 : Fits (List.replicate m ks).flatten (cs.drop ((i + 1) * c)) := by rw [Nat.succ_mul, hc, ← List.drop_drop, ← hc]; rw [hc] at g2 ⊢; exact g2
    obtain ⟨ll, m1, m2⟩ := lits_rep (n := n) hc hL cs m (i + 1) e2
    have e1 := hL _ g1
    refine ⟨(((cs.drop (i * c)).take ks.length).map litOf) :: ll, ?_, ?_⟩
    · rw [List.range'_succ, List.mapM_cons]
      rw [← hc] at e1 ⊢
      rw [e1]
      simp only [Option.bind_eq_bind, Option.bind_some, m1, Option.pure_def]
    · rw [List.flatten_cons, m2, Nat.succ_mul, ← List.drop_drop, hc, ← List.map_append, List.take_append_drop]
theorem leaves_lits : ∀ (f D : Nat) (t : TypeId) (ks : List Leaf) (vs : List Value), f ≤ D → leaves P f t = some ks → P.keyTypeAt f t = true → Fits ks vs → P.keyLits D t vs = some (vs.map litOf)
  | 0, _, _, _, _, _, h, _, _ => by simp [leaves] at h
  | f + 1, 0, _, _, _, hD, _, _, _ => by omega
  | f + 1, D + 1, t, ks, vs, hD, h, hk, hf => by
    simp only [leaves] at h
    unfold Program.keyTypeAt at hk
    unfold Program.keyLits
    split at h
    · rename_i k ht
      simp only [Option.some.injEq] at h
      subst h
      obtain ⟨v, rfl⟩ : ∃ v, vs = [v] := by
        have := hf.length
        match vs, this with
        | [v], _ => exact ⟨v, rfl⟩
      obtain ⟨n, rfl, hw⟩ := hf.1
      simp [ht, hw, litOf]
    · rename_i ht
      simp only [Option.some.injEq] at h
      subst h
      obtain ⟨v, rfl⟩ : ∃ v, vs = [v] := by
        have := hf.length
        match vs, this with
        | [v], _ => exact ⟨v, rfl⟩
      obtain ⟨b, rfl⟩ := hf.1
      simp [ht, litOf]
    · rename_i fs ht
      split at h
      · rename_i ks' h1
        split at h
        · rename_i hc
          simp only [Option.some.injEq] at h
          subst h
          simp only [ht, Bool.and_eq_true] at hk
          have hka := hk.1.1
          have hkt : ∀ g ∈ fs.toList, P.keyTypeAt f g.type = true := fun g hg => by
            have := Array.all_eq_true_iff_forall_mem.1 hka g (by simpa using hg)
            simp only [Bool.and_eq_true] at this
            exact this.2
          have hnm : fs.all (·.name != "_") = true := Array.all_eq_true_iff_forall_mem.2 fun g hg => by
            have := Array.all_eq_true_iff_forall_mem.1 hka g hg
            simp only [Bool.and_eq_true] at this
            exact this.1
          obtain ⟨ll, m1, m2⟩ := lits_fields (n := f) (D := D) (fun t ks vs a b c => leaves_lits f D t ks vs (by omega) a b c) fs.toList 0 ks' vs h1 hkt (by simpa using hf)
          simp only [ht, hf.length, hc, hnm, and_self, if_true, m1, Option.map_some, m2, List.drop_zero]
        · cases h
      · cases h
    · rename_i m e ht
      split at h
      · rename_i ks' h1
        split at h
        · rename_i hc
          simp only [Option.some.injEq] at h
          subst h
          simp only [ht] at hk
          obtain ⟨ll, m1, m2⟩ := lits_rep (n := f) hc.1 (fun vs c => leaves_lits f D e ks' vs (by omega) h1 hk c) vs m 0 (by simpa using hf)
          rw [← List.range_eq_range'] at m1
          simp only [ht, hf.length, hc.2, if_true, m1, Option.map_some, m2, Nat.zero_mul, List.drop_zero]
        · cases h
      · cases h
    · cases h

/-- '==' of two values of a flat struct or array. -/
theorem flat_equal {f : Nat} {t : TypeId} {ks : List Leaf} (hl : leaves P f t = some ks) (hk : P.keyTypeAt f t = true) (hf : f ≤ 10000) (hc : P.cellsOf t = ks.length)
    (hw : (match P.underlying t with | some (.struct _) | some (.array _ _) => true | _ => false) = true) {xs ys : List Value} (hx : Fits ks xs) (hy : Fits ks ys) (w : World) :
    (xs = ys → (Op.equalIn 10000 t (.agg xs.toArray) (.agg ys.toArray)).run P w = .ok true w) ∧ (xs ≠ ys → (Op.equalIn 10000 t (.agg xs.toArray) (.agg ys.toArray)).run P w = .ok false w) := by
  have hfm : ∀ zs : List Value, Fits ks zs → (Value.agg zs.toArray).formed P t = true := fun zs hz => by
    unfold Value.formed
    split at hw
    · rename_i u _ hu; rw [hu]; simp [hz.length, hc]
    · rename_i u _ _ hu; rw [hu]; simp [hz.length, hc]
    · cases hw
  have hE := run_equalIn_deep (P := P) (10000 - f) f t hk w f f (.agg xs.toArray) (.agg ys.toArray) (xs.map litOf) (ys.map litOf) (hfm xs hx) (hfm ys hy) (leaves_lits f f t ks xs (Nat.le_refl _) hl hk hx) (leaves_lits f f t ks ys (Nat.le_refl _) hl hk hy)
  rw [Nat.sub_add_cancel hf] at hE
  obtain ⟨r, h1, h2⟩ := hE
  constructor
  · intro e
    rw [h1, h2.2 (by rw [e])]
  · intro e
    rw [h1]
    cases r with
    | false => rfl
    | true => exact absurd (lit_inj hx hy (h2.1 rfl)) e
/-- It reads as a key. -/
theorem flat_key {f : Nat} {t : TypeId} {ks : List Leaf} (hl : leaves P f t = some ks) (hk : P.keyTypeAt f t = true) (hf : f ≤ P.types.size + 1) (hkt : P.keyType t = true) (hc : P.cellsOf t = ks.length)
    (hw : (match P.underlying t with | some (.struct _) | some (.array _ _) => true | _ => false) = true) {xs : List Value} (hx : Fits ks xs) : ∃ l, keyOf P t (.agg xs.toArray) = some l := by
  have hfm : (Value.agg xs.toArray).formed P t = true := by
    unfold Value.formed
    split at hw
    · rename_i u _ hu; rw [hu]; simp [hx.length, hc]
    · rename_i u _ _ hu; rw [hu]; simp [hx.length, hc]
    · cases hw
  have hlits := leaves_lits f (P.types.size + 1) t ks xs hf hl hk hx
  refine ⟨.string (keyBytes (xs.map litOf)), ?_⟩
  unfold keyOf
  split at hw
  · rename_i u _ hu; rw [hu]; simp [hkt, hfm, Value.cells, hlits]
  · rename_i u _ _ hu; rw [hu]; simp [hkt, hfm, Value.cells, hlits]
  · cases hw
end
end Go.Proofs.YtebeknnjjoobnaaDoor
