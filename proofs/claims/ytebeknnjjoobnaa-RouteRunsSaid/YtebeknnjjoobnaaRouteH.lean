/- The mathematics of the table and the document's list. -/
import Derived.Test.YtebeknnjjoobnaaRouteG
import Derived.Test.YtebeknnjjoobnaaRouteM
set_option linter.unusedVariables false
set_option linter.unusedSimpArgs false
set_option maxRecDepth 100000
namespace Go.Proofs.Ytebeknnjjoobnaa
open Go.RowKit

theorem rset_any (A : Option Addr) (dl : List Rt) (cap : Nat) (w : World) (hr : RtAt w A dl) (hro : ∀ x ∈ dl, RtOk x) (hl : dl.length ≤ 900) (a b c d n who : Int) (hone : NtOk a b c d n) :
    Calls Try.prog 18 #[.slice A dl.length cap, .agg #[.int .u8 a, .int .u8 b, .int .u8 c, .int .u8 d, .int .i64 n], .int .i64 who] w (SetRPost dl (a, b, c, d, n) who w) := by
  cases h : okD dl (a, b, c, d, n) who with
  | true => exact rset_good A dl cap w hr hro hl a b c d n who hone h
  | false => exact rset_bad A dl cap w hr hro hl a b c d n who hone h

def insR (q : Rt) : List Rt → List Rt
  | [] => [q]
  | y :: ys => if ltR y q then y :: insR q ys else q :: y :: ys
theorem insD_eq (q : Rt) : ∀ r, insD q r = insR q r
  | [] => rfl
  | y :: ys => by
    unfold insD cntB insR
    cases h : ltR y q with
    | true =>
      have := insD_eq q ys
      unfold insD at this
      simp only [if_true, List.take_succ_cons, List.drop_succ_cons, List.cons_append]
      rw [← this]
    | false => simp
theorem mem_insR {q z : Rt} : ∀ {r : List Rt}, z ∈ insR q r ↔ z = q ∨ z ∈ r
  | [] => by simp [insR]
  | y :: ys => by
    unfold insR
    cases h : ltR y q with
    | true =>
      simp only [if_true, List.mem_cons, mem_insR]
      constructor
      · rintro (h | h | h)
        · exact .inr (.inl h)
        · exact .inl h
        · exact .inr (.inr h)
      · rintro (h | h | h)
        · exact .inr (.inl h)
        · exact .inl h
        · exact .inr (.inr h)
    | false => simp
theorem ltR_total {y q : Rt} (h : ltR y q = false) (hne : keyR y ≠ keyR q) : ltR q y = true := by
  unfold ltR at *
  rw [ltK_no] at h
  rw [ltK_iff]
  rcases h with h | ⟨h1, h2⟩
  · exact .inl h
  · refine .inr ⟨h1.symm, ?_⟩
    rcases Int.lt_or_eq_of_le h2 with h3 | h3
    · exact h3
    · exact absurd (Prod.ext h1 h3.symm) hne
theorem ordered_ins {q : Rt} : ∀ {r : List Rt}, Ordered r → (∀ z ∈ r, keyR z ≠ keyR q) → Ordered (insR q r)
  | [], _, _ => List.pairwise_singleton _ _
  | y :: ys, ho, hne => by
    obtain ⟨h1, h2⟩ := List.pairwise_cons.1 ho
    unfold insR
    cases h : ltR y q with
    | true =>
      refine List.pairwise_cons.2 ⟨fun z hz => ?_, ordered_ins h2 fun z hz => hne z (List.mem_cons_of_mem _ hz)⟩
      rcases mem_insR.1 hz with rfl | hz
      · exact h
      · exact h1 z hz
    | false =>
      have h3 := ltR_total h (hne y (List.mem_cons_self ..))
      refine List.pairwise_cons.2 ⟨fun z hz => ?_, ho⟩
      rcases List.mem_cons.1 hz with rfl | hz
      · exact h3
      · exact ltR_trans h3 (h1 z hz)
/-- The table's list and the document's say the same. -/
structure Agree (l d : List Rt) : Prop where
  ord : Ordered d
  mem : ∀ p, p ∈ d ↔ p ∈ l
  ok : ∀ p ∈ l, RtOk p
  rt : ∀ p ∈ l, rightT p.1 = true
theorem Agree.okd {l d : List Rt} (h : Agree l d) : ∀ p ∈ d, RtOk p := fun p hp => h.ok p ((h.mem p).1 hp)
theorem nodup_of_keys {l : List Rt} (hn : (l.map Prod.fst).Nodup) : l.Nodup := (List.pairwise_map.1 hn).imp fun h e => h (by rw [e])
theorem ordered_nodup {d : List Rt} (h : Ordered d) : d.Nodup := List.Pairwise.imp (fun {x y} h e => by rw [e, ltR_irrefl] at h; cases h) h
theorem Agree.perm {l d : List Rt} (h : Agree l d) (hn : (l.map Prod.fst).Nodup) : d.Perm l := (List.perm_ext_iff_of_nodup (ordered_nodup h.ord) (nodup_of_keys hn)).2 h.mem
theorem Agree.len {l d : List Rt} (h : Agree l d) (hn : (l.map Prod.fst).Nodup) : d.length = l.length := (h.perm hn).length_eq
theorem mem_mdel {l : List Rt} {x : Nt} {p : Rt} : p ∈ mdel l x ↔ p ∈ l ∧ p.1 ≠ x := by
  unfold mdel
  rw [List.mem_filter]
  simp
theorem mget_isSome {l : List Rt} {x : Nt} : (mget l x).isSome = true ↔ ∃ p ∈ l, p.1 = x := by
  constructor
  · intro h
    obtain ⟨v, hv⟩ := Option.isSome_iff_exists.1 h
    exact ⟨_, mget_some_mem hv, rfl⟩
  · rintro ⟨p, hp, he⟩
    cases hg : mget l x with
    | none => exact absurd he (mget_none.1 hg p hp)
    | some v => rfl
theorem del_less {l d : List Rt} (h : Agree l d) (x : Nt) : decide ((mdel d x).length < d.length) = (mget l x).isSome := by
  rw [Bool.eq_iff_iff, decide_eq_true_eq, mget_isSome]
  unfold mdel
  rw [List.length_filter_lt_length_iff_exists]
  constructor
  · rintro ⟨p, hp, he⟩
    exact ⟨p, (h.mem p).1 hp, by simpa using he⟩
  · rintro ⟨p, hp, he⟩
    exact ⟨p, (h.mem p).2 hp, by simpa using he⟩
theorem Agree.del {l d : List Rt} (h : Agree l d) (x : Nt) : Agree (mdel l x) (mdel d x) :=
  ⟨List.Pairwise.filter _ h.ord, fun p => by rw [mem_mdel, mem_mdel, h.mem], fun p hp => h.ok p (mem_mdel.1 hp).1, fun p hp => h.rt p (mem_mdel.1 hp).1⟩
theorem Agree.okset {l d : List Rt} (h : Agree l d) (hn : (l.map Prod.fst).Nodup) (x : Nt) (who : Int) : okD d x who = setOk l x who := by
  unfold okD setOk
  rw [del_less h, h.len hn]
theorem mem_mput {l : List Rt} (hn : (l.map Prod.fst).Nodup) {x : Nt} {v : Int} (hn' : ((mput l x v).map Prod.fst).Nodup) {p : Rt} : p ∈ mput l x v ↔ p = (x, v) ∨ p ∈ mdel l x := by
  have e1 : p ∈ mput l x v ↔ mget (mput l x v) p.1 = some p.2 := ⟨fun h => mget_of_mem hn' h, mget_some_mem⟩
  have e2 : p ∈ l ↔ mget l p.1 = some p.2 := ⟨fun h => mget_of_mem hn h, mget_some_mem⟩
  rw [e1, mget_put, mem_mdel, e2]
  by_cases e : p.1 = x
  · rw [if_pos e]
    constructor
    · intro h
      exact .inl (Prod.ext e (Option.some.inj h).symm)
    · rintro (h | ⟨_, h⟩)
      · rw [h]
      · exact absurd e h
  · rw [if_neg e]
    constructor
    · intro h
      exact .inr ⟨h, e⟩
    · rintro (h | ⟨h, _⟩)
      · exact absurd (by rw [h]) e
      · exact h
theorem Agree.set {l d : List Rt} (h : Agree l d) (hn : (l.map Prod.fst).Nodup) (x : Nt) (who : Int) (hx : NtOkT x) (hw : -9223372036854775808 ≤ who ∧ who ≤ 9223372036854775807) (hn' : ((setL l x who).map Prod.fst).Nodup) : Agree (setL l x who) (setD d x who) := by
  unfold setL setD at *
  rw [h.okset hn]
  cases ho : setOk l x who with
  | false => simp only [Bool.false_eq_true, if_false]; exact h
  | true =>
    rw [ho] at hn'
    simp only [if_true] at hn' ⊢
    have hd := h.del x
    rw [insD_eq]
    refine ⟨ordered_ins hd.ord fun z hz e => ?_, fun p => ?_, fun p hp => ?_, fun p hp => ?_⟩
    · have h1 := (h.okd z (mem_mdel.1 hz).1).1
      exact (mem_mdel.1 hz).2 (key_inj (x := z) (y := (x, who)) h1 hx e)
    · rw [mem_insR, mem_mput hn hn', hd.mem]
    · rcases (mem_mput hn hn').1 hp with rfl | hp
      · exact ⟨hx, hw⟩
      · exact hd.ok p hp
    · rcases (mem_mput hn hn').1 hp with rfl | hp
      · unfold setOk at ho
        simp only [Bool.and_eq_true] at ho
        exact ho.1.1
      · exact hd.rt p hp
end Go.Proofs.Ytebeknnjjoobnaa
