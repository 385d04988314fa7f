/- The mathematics of events as numbers. Contracts: can an event be? Contracts: can an event be (the reference's)? -/
import Derived.Test.YtfcekicjlgdmaaaEvB
import Derived.Test.YtfcekicjlgdmaaaPolN
set_option linter.unusedVariables false
set_option linter.unusedSimpArgs false
set_option maxRecDepth 100000
namespace Go.Proofs.Ytfcekicjlgdmaaa
open Go.RowKit Go.Proofs.YtfcekicjlgdmaaaW.PrintWords

def flatN (ps : List Pol) : List Int := (ps.map polNums).flatten
theorem flatN_nil : flatN [] = [] := rfl
theorem flatN_cons (p : Pol) (ps : List Pol) : flatN (p :: ps) = polNums p ++ flatN ps := rfl
theorem flatN_app (ps qs : List Pol) : flatN (ps ++ qs) = flatN ps ++ flatN qs := by unfold flatN; rw [List.map_append, List.flatten_append]
theorem flatN_snoc (ps : List Pol) (p : Pol) : flatN (ps ++ [p]) = flatN ps ++ polNums p := by rw [flatN_app, flatN_cons, flatN_nil, List.append_nil]
def Rts (ps : List Pol) : Prop := ∀ p ∈ ps, rightP p = true ∧ PolOk p
theorem Rts.nil : Rts [] := fun p h => by simp at h
theorem Rts.tail {p : Pol} {ps : List Pol} (h : Rts (p :: ps)) : Rts ps := fun q hq => h q (List.mem_cons_of_mem _ hq)
theorem Rts.head {p : Pol} {ps : List Pol} (h : Rts (p :: ps)) : rightP p = true ∧ PolOk p := h p (List.mem_cons_self ..)
theorem Rts.snoc {p : Pol} {ps : List Pol} (h : Rts ps) (hp : rightP p = true ∧ PolOk p) : Rts (ps ++ [p]) := fun q hq => by
  rcases List.mem_append.1 hq with c | c
  · exact h q c
  · obtain rfl := List.mem_singleton.1 c
    exact hp
theorem mem_getD {ps : List Pol} {p : Pol} (h : p ∈ ps) : ∃ i, i < ps.length ∧ ps.getD i zeroP = p := by
  obtain ⟨i, hi, e⟩ := List.getElem_of_mem h
  exact ⟨i, hi, by rw [List.getD_eq_getElem?_getD, List.getElem?_eq_getElem hi]; exact e⟩
theorem rts_of {ps : List Pol} (h : AllOk ps) (ho : OkAll ps) : Rts ps := fun p hp => by
  obtain ⟨i, hi, rfl⟩ := mem_getD hp
  exact ⟨(h.2 i hi).1, ho i hi⟩
theorem Rts.ok {ps : List Pol} (h : Rts ps) : OkAll ps := fun i hi => by
  rw [List.getD_eq_getElem?_getD, List.getElem?_eq_getElem hi]
  exact (h _ (List.getElem_mem hi)).2
theorem polNums_ten {x : Pol} (h : rightP x = true) : (polNums x).length = 10 := by unfold polNums; rw [if_pos h]; rfl
theorem polNums_inj {x y : Pol} (hx : rightP x = true ∧ PolOk x) (hy : rightP y = true ∧ PolOk y) (h : polNums x = polNums y) : x = y := by
  have := nums_eq hx.2 hy.2 hx.1 hy.1
  rw [decide_eq_true h] at this
  exact eqP_iff.1 this.symm
theorem flatN_len {ps : List Pol} (h : Rts ps) : (flatN ps).length = 10 * ps.length := by
  induction ps with
  | nil => rfl
  | cons p ps ih => rw [flatN_cons, List.length_append, polNums_ten h.head.1, ih h.tail, List.length_cons]; omega
theorem flatN_u64 {ps : List Pol} (h : Rts ps) : U64 (flatN ps) := by
  induction ps with
  | nil => exact U64.nil
  | cons p ps ih =>
    rw [flatN_cons]
    intro n hn
    rcases List.mem_append.1 hn with c | c
    · exact polNums_u64 h.head.2 n c
    · exact ih h.tail n c
theorem flatN_prefix : ∀ (ps qs : List Pol) (c : List Int), Rts ps → Rts qs → flatN ps ++ c = flatN qs → ∃ rs, qs = ps ++ rs ∧ c = flatN rs
  | [], qs, c, _, _, h => ⟨qs, rfl, by simpa [flatN_nil] using h⟩
  | p :: ps, [], c, hp, _, h => by
    rw [flatN_cons, flatN_nil, List.append_assoc] at h
    have := congrArg List.length h
    rw [List.length_append, polNums_ten hp.head.1, List.length_nil] at this
    omega
  | p :: ps, q :: qs, c, hp, hq, h => by
    rw [flatN_cons, flatN_cons, List.append_assoc] at h
    obtain ⟨e1, e2⟩ := List.append_inj h (by rw [polNums_ten hp.head.1, polNums_ten hq.head.1])
    obtain rfl := polNums_inj hp.head hq.head e1
    obtain ⟨rs, e3, e4⟩ := flatN_prefix ps qs c hp.tail hq.tail e2
    exact ⟨rs, by rw [e3, List.cons_append], e4⟩
theorem flatN_chunk : ∀ (ps : List Pol) (i : Nat), Rts ps → i < ps.length → ((flatN ps).drop (10 * i)).take 10 = polNums (ps.getD i zeroP)
  | [], i, _, hi => absurd hi (by simp)
  | p :: ps, 0, h, _ => by
    rw [flatN_cons, Nat.mul_zero, List.drop_zero, List.take_append_of_le_length (by rw [polNums_ten h.head.1]; omega), List.take_of_length_le (by rw [polNums_ten h.head.1]; omega)]
    rfl
  | p :: ps, i + 1, h, hi => by
    rw [flatN_cons, show 10 * (i + 1) = (polNums p).length + 10 * i by rw [polNums_ten h.head.1]; omega, ← List.drop_drop, List.drop_left, List.getD_cons_succ]
    exact flatN_chunk ps i h.tail (by simpa using hi)
/-- Can the event be? -/
def RightE (k s g p : Int) (ps : List Pol) (ds : List Int) : Prop :=
  (k = 1 ∧ s = 0 ∧ g = 0 ∧ p = 0 ∧ AllOk ps ∧ dropsB ds ps = true ∧ 0 < ps.length + ds.length) ∨
  (k = 2 ∧ (1 ≤ s ∧ s ≤ 255) ∧ (1 ≤ g ∧ g ≤ 281474976710656) ∧ p = 0 ∧ ps = [] ∧ ds = []) ∨
  (k = 3 ∧ s = 0 ∧ g = 0 ∧ (1 ≤ p ∧ p ≤ 281474976710656) ∧ ps = [] ∧ ds = [])
instance rightE_dec (k s g p : Int) (ps : List Pol) (ds : List Int) : Decidable (RightE k s g p ps ds) := by unfold RightE; exact inferInstance
def rightE (k s g p : Int) (ps : List Pol) (ds : List Int) : Bool := decide (RightE k s g p ps ds)
theorem rightE_yes {k s g p : Int} {ps : List Pol} {ds : List Int} (h : RightE k s g p ps ds) : rightE k s g p ps ds = true := decide_eq_true h
theorem rightE_no {k s g p : Int} {ps : List Pol} {ds : List Int} (h : ¬ RightE k s g p ps ds) : rightE k s g p ps ds = false := decide_eq_false h
theorem rightE_iff {k s g p : Int} {ps : List Pol} {ds : List Int} : rightE k s g p ps ds = true ↔ RightE k s g p ps ds := by unfold rightE; exact decide_eq_true_iff
/-- The event's numbers. -/
def evNums (k s g p : Int) (ps : List Pol) (ds : List Int) : List Int := if k = 1 then 1 :: (ds.length : Int) :: (ds ++ flatN ps) else if k = 2 then [2, s, g] else [3, p]
theorem evNums_1 (s g p : Int) (ps : List Pol) (ds : List Int) : evNums 1 s g p ps ds = 1 :: (ds.length : Int) :: (ds ++ flatN ps) := rfl
theorem evNums_2 (s g p : Int) (ps : List Pol) (ds : List Int) : evNums 2 s g p ps ds = [2, s, g] := rfl
theorem evNums_3 (s g p : Int) (ps : List Pol) (ds : List Int) : evNums 3 s g p ps ds = [3, p] := rfl
theorem drops_mem {ds : List Int} {ps : List Pol} (h : dropsB ds ps = true) : ds.length ≤ 8 ∧ ∀ n ∈ ds, 1 ≤ n ∧ n ≤ 255 := by
  unfold dropsB at h
  rw [Bool.and_eq_true, decide_eq_true_eq] at h
  refine ⟨h.1.1, fun n hn => ?_⟩
  obtain ⟨i, hi, e⟩ := List.getElem_of_mem hn
  have := (h.1.2 i hi).1
  rw [List.getD_eq_getElem?_getD, List.getElem?_eq_getElem hi, Option.getD_some, e] at this
  exact this
/-- Events that have a shape: what is read has one, whether it can be or not. -/
def ShapeE (k s g p : Int) (ps : List Pol) (ds : List Int) : Prop :=
  (k = 1 ∧ s = 0 ∧ g = 0 ∧ p = 0 ∧ Rts ps) ∨ (k = 2 ∧ p = 0 ∧ ps = [] ∧ ds = []) ∨ (k = 3 ∧ s = 0 ∧ g = 0 ∧ ps = [] ∧ ds = [])
theorem RightE.shape {k s g p : Int} {ps : List Pol} {ds : List Int} (h : RightE k s g p ps ds) (ho : OkAll ps) : ShapeE k s g p ps ds := by
  rcases h with ⟨h1, h2, h3, h4, h5, _⟩ | ⟨h1, _, _, h4, h5, h6⟩ | ⟨h1, h2, h3, _, h5, h6⟩
  · exact .inl ⟨h1, h2, h3, h4, rts_of h5 ho⟩
  · exact .inr (.inl ⟨h1, h4, h5, h6⟩)
  · exact .inr (.inr ⟨h1, h2, h3, h5, h6⟩)
theorem evNums_prefix {k s g p k' s' g' p' : Int} {ps ps' : List Pol} {ds ds' c : List Int} (h : ShapeE k s g p ps ds) (h' : ShapeE k' s' g' p' ps' ds') (e : evNums k s g p ps ds ++ c = evNums k' s' g' p' ps' ds') :
    k = k' ∧ s = s' ∧ g = g' ∧ p = p' ∧ ds = ds' ∧ ∃ rs, ps' = ps ++ rs ∧ c = flatN rs ∧ (k = 1 ∨ rs = []) := by
  rcases h with ⟨rfl, rfl, rfl, rfl, hp⟩ | ⟨rfl, rfl, rfl, rfl⟩ | ⟨rfl, rfl, rfl, rfl, rfl⟩ <;>
  rcases h' with ⟨rfl, rfl, rfl, rfl, hp'⟩ | ⟨rfl, rfl, rfl, rfl⟩ | ⟨rfl, rfl, rfl, rfl, rfl⟩ <;>
  simp only [evNums_1, evNums_2, evNums_3, List.cons_append, List.nil_append, List.cons.injEq] at e <;> try (exfalso; omega)
  · obtain ⟨_, e1, e2⟩ := e
    rw [List.append_assoc] at e2
    obtain ⟨e3, e4⟩ := List.append_inj e2 (by omega)
    obtain ⟨rs, e5, e6⟩ := flatN_prefix ps ps' c hp hp' e4
    exact ⟨rfl, rfl, rfl, rfl, e3, rs, e5, e6, .inl rfl⟩
  · obtain ⟨_, rfl, rfl, rfl⟩ := e
    exact ⟨rfl, rfl, rfl, rfl, rfl, [], rfl, rfl, .inr rfl⟩
  · obtain ⟨_, rfl, rfl⟩ := e
    exact ⟨rfl, rfl, rfl, rfl, rfl, [], rfl, rfl, .inr rfl⟩
theorem flatN_ne {rs : List Pol} (h : Rts rs) (e : [] = flatN rs) : rs = [] := by
  have := congrArg List.length e
  rw [flatN_len h, List.length_nil] at this
  exact List.length_eq_zero_iff.1 (by omega)
theorem evNums_inj {k s g p k' s' g' p' : Int} {ps ps' : List Pol} {ds ds' : List Int} (h : ShapeE k s g p ps ds) (h' : ShapeE k' s' g' p' ps' ds') (e : evNums k s g p ps ds = evNums k' s' g' p' ps' ds') :
    k = k' ∧ s = s' ∧ g = g' ∧ p = p' ∧ ps = ps' ∧ ds = ds' := by
  obtain ⟨e1, e2, e3, e4, e5, rs, e6, e7, e8⟩ := evNums_prefix (c := []) h h' (by rw [List.append_nil]; exact e)
  have hrs : rs = [] := by
    rcases e8 with e8 | e8
    · refine flatN_ne (fun q hq => ?_) e7
      rcases h' with ⟨_, _, _, _, hp'⟩ | ⟨h1, _⟩ | ⟨h1, _⟩
      · exact hp' q (by rw [e6]; exact List.mem_append_right _ hq)
      · omega
      · omega
    · exact e8
  rw [hrs, List.append_nil] at e6
  exact ⟨e1, e2, e3, e4, e6.symm, e5⟩
theorem evNums_u64 {k s g p : Int} {ps : List Pol} {ds : List Int} (h : RightE k s g p ps ds) (ho : OkAll ps) : U64 (evNums k s g p ps ds) := by
  rcases h with ⟨rfl, h2, h3, h4, h5, h6, _⟩ | ⟨rfl, h2, h3, h4, h5, h6⟩ | ⟨rfl, h2, h3, h4, h5, h6⟩
  · obtain ⟨h7, h8⟩ := drops_mem h6
    rw [evNums_1]
    intro n hn
    rcases List.mem_cons.1 hn with rfl | hn
    · omega
    rcases List.mem_cons.1 hn with rfl | hn
    · omega
    rcases List.mem_append.1 hn with hn | hn
    · have := h8 n hn; omega
    · exact flatN_u64 (rts_of h5 ho) n hn
  · rw [evNums_2]
    intro n hn
    simp only [List.mem_cons, List.not_mem_nil, or_false] at hn
    omega
  · rw [evNums_3]
    intro n hn
    simp only [List.mem_cons, List.not_mem_nil, or_false] at hn
    omega
theorem evNums_len {k s g p : Int} {ps : List Pol} {ds : List Int} (h : RightE k s g p ps ds) (ho : OkAll ps) : 2 ≤ (evNums k s g p ps ds).length ∧ (evNums k s g p ps ds).length ≤ 90 := by
  rcases h with ⟨rfl, h2, h3, h4, h5, h6, _⟩ | ⟨rfl, h2, h3, h4, h5, h6⟩ | ⟨rfl, h2, h3, h4, h5, h6⟩
  · obtain ⟨h7, h8⟩ := drops_mem h6
    have := h5.1
    rw [evNums_1, List.length_cons, List.length_cons, List.length_append, flatN_len (rts_of h5 ho)]
    omega
  · rw [evNums_2]; simp
  · rw [evNums_3]; simp
theorem encL_len7 {l : List Int} (h : ∀ n ∈ l, 0 ≤ n ∧ n < 562949953421312) : (encL l).length ≤ 7 * l.length := by
  induction l with
  | nil => simp [encL]
  | cons n l ih =>
    have h1 := h n (List.mem_cons_self ..)
    have h2 := enc_len_le 6 n.toNat (by have : (2 : Nat) ^ (7 * (6 + 1)) = 562949953421312 := by decide
                                        omega)
    have h3 := ih (fun m hm => h m (List.mem_cons_of_mem _ hm))
    rw [encL_cons, List.length_append, List.length_cons]
    omega
theorem over_no {x : Int} (h : overB x = false) : x ≤ 281474976710656 := by unfold overB at h; exact Int.not_lt.1 (of_decide_eq_false h)
theorem polNums_le {x : Pol} (h : rightP x = true) (ho : PolOk x) : ∀ n ∈ polNums x, 0 ≤ n ∧ n < 562949953421312 := by
  have hb := rightP_bd h
  have hn := numN_bd ho.2.1
  have hu := polNums_u64 ho
  unfold rightP at h
  rw [Bool.and_eq_true, Bool.and_eq_true, Bool.not_eq_true', Bool.and_eq_true, Bool.not_eq_true', List.any_eq_false] at h
  have h7 := h.1.2
  have hs : ∀ y ∈ seven x, y ≤ 281474976710656 := fun y hy => over_no (by have := h7 y hy; simpa using this)
  intro n hn'
  refine ⟨(hu n hn').1, ?_⟩
  unfold polNums at hn'
  rw [if_pos (by unfold rightP; rw [Bool.and_eq_true, Bool.and_eq_true, Bool.not_eq_true', Bool.and_eq_true, Bool.not_eq_true', List.any_eq_false]; exact h)] at hn'
  simp only [List.mem_cons, List.not_mem_nil, or_false] at hn'
  unfold seven at hs
  simp only [List.mem_cons, List.not_mem_nil, or_false, forall_eq_or_imp, forall_eq] at hs
  rcases hn' with rfl | rfl | rfl | rfl | rfl | rfl | rfl | rfl | rfl | rfl <;> omega
theorem evNums_bytes {k s g p : Int} {ps : List Pol} {ds : List Int} (h : RightE k s g p ps ds) (ho : OkAll ps) : (encL (evNums k s g p ps ds)).length ≤ 700 := by
  have h90 := (evNums_len h ho).2
  refine Nat.le_trans (encL_len7 (fun n hn => ?_)) (by omega)
  rcases h with ⟨rfl, h2, h3, h4, h5, h6, _⟩ | ⟨rfl, h2, h3, h4, h5, h6⟩ | ⟨rfl, h2, h3, h4, h5, h6⟩
  · obtain ⟨h7, h8⟩ := drops_mem h6
    rw [evNums_1] at hn
    rcases List.mem_cons.1 hn with rfl | hn
    · omega
    rcases List.mem_cons.1 hn with rfl | hn
    · omega
    rcases List.mem_append.1 hn with hn | hn
    · have := h8 n hn; omega
    · unfold flatN at hn
      obtain ⟨l, hl, hn⟩ := List.mem_flatten.1 hn
      obtain ⟨q, hq, rfl⟩ := List.mem_map.1 hl
      have := rts_of h5 ho q hq
      exact polNums_le this.1 this.2 n hn
  · rw [evNums_2] at hn
    simp only [List.mem_cons, List.not_mem_nil, or_false] at hn
    omega
  · rw [evNums_3] at hn
    simp only [List.mem_cons, List.not_mem_nil, or_false] at hn
    omega
/-- The bytes are of the event's numbers. -/
theorem encL_one {k : Int} (h : 0 ≤ k ∧ k < 128) (l : List Int) : encL (k :: l) = k :: encL l := by
  rw [encL_cons, enc_small (by omega : k.toNat < 128)]
  simp only [List.cons_append, List.nil_append, List.cons.injEq, and_true]
  omega
end Go.Proofs.Ytfcekicjlgdmaaa
namespace Go.Proofs.Ytfcekicjlgdmaaa
open Go.RowKit Go.Proofs.YtfcekicjlgdmaaaW.PrintWords
attribute [local go_sem] max2_int min2_int max_two min_two
attribute [local go_sem ↓] eql_nt neq_nt eql_ad net_addr net_bits eql_pol neq_pol

theorem polsAt_none (w : World) : PolsAt w none [] := fun i hi => absurd hi (by simp)
theorem ints_none (w : World) (k : IntKind) : ReadsInt w k none 0 [] := ⟨rfl, by omega, fun h => absurd h (by omega)⟩
theorem esame_zero (k s g p k' s' g' p' : Int) (A1 A2 : Option Addr) (c1 c2 : Nat) (ps : List Pol) (ds : List Int) (w : World) (hp : PolsAt w A1 ps) (hd : ReadsInt w .i64 A2 ds.length ds) (hm : ps.length ≤ 1000) (hm2 : ds.length ≤ 1000) :
    Calls Try.prog 32 #[.agg #[.int .i64 k, .int .i64 s, .slice A1 ps.length c1, .slice A2 ds.length c2, .int .u64 g, .int .u64 p], .agg #[.int .i64 k', .int .i64 s', .slice none 0 0, .slice none 0 0, .int .u64 g', .int .u64 p']] w fun e w' => e = .returned (.bool (sameE k s g p k' s' g' p' ps [] ds [])) ∧ Below w.heap.size w w' :=
  esame_any k s g p k' s' g' p' A1 A2 none none c1 c2 0 0 ps [] ds [] w hp (polsAt_none w) hd (ints_none w .i64) hm hm2
theorem same_1 (s g p : Int) (ps : List Pol) (ds : List Int) : sameE 1 s g p 1 0 0 0 ps ps ds ds = decide (s = 0 ∧ g = 0 ∧ p = 0) := by unfold sameE; simp
theorem same_2 (s g p : Int) (ps : List Pol) (ds : List Int) : sameE 2 s g p 2 s g 0 ps [] ds [] = decide (p = 0 ∧ ps = [] ∧ ds = []) := by unfold sameE; simp
theorem same_3 (s g p : Int) (ps : List Pol) (ds : List Int) : sameE 3 s g p 3 0 0 p ps [] ds [] = decide (s = 0 ∧ g = 0 ∧ ps = [] ∧ ds = []) := by unfold sameE; simp
set_option maxHeartbeats 3200000 in
theorem eright_any (k s g p : Int) (A1 A2 : Option Addr) (c1 c2 : Nat) (ps : List Pol) (ds : List Int) (w : World) (hp : PolsAt w A1 ps) (hd : ReadsInt w .i64 A2 ds.length ds) (hm : ps.length ≤ 1000) (hm2 : ds.length ≤ 1000) (hcl : ps.length ≤ c1) (hcm : c1 ≤ 9223372036854775807) :
    Calls Try.prog 30 #[.agg #[.int .i64 k, .int .i64 s, .slice A1 ps.length c1, .slice A2 ds.length c2, .int .u64 g, .int .u64 p]] w fun e w' => e = .returned (.bool (rightE k s g p ps ds)) ∧ Below w.heap.size w w' := by
  have hx := bk_new w #[.int .i64 k, .int .i64 s, .slice A1 ps.length c1, .slice A2 ds.length c2, .int .u64 g, .int .u64 p] 53
  have hB := bl_alloc (Below.refl _ w) (.cells #[.int .i64 k, .int .i64 s, .slice A1 ps.length c1, .slice A2 ds.length c2, .int .u64 g, .int .u64 p] 53)
  obtain ⟨V, hV⟩ : ∃ V, rightE k s g p ps ds = V := ⟨_, rfl⟩
  rw [hV]
  replace hV := Lib.hid hV
  replace hp := Lib.hid hp
  replace hd := Lib.hid hd
  obtain ⟨x0, x1, x2, x3, x4, x5, xf0, xf1, xf2, xf3, xf4, xf5⟩ := cells6 hx
  replace hx := Lib.hid hx
  replace hB := Lib.hid hB
  by_cases k1 : k = 1
  · subst k1
    have hadd : IntKind.i64.wrap ((ps.length : Int) + (ds.length : Int)) = (ps.length : Int) + (ds.length : Int) := by rw [IntKind.wrap_i64]; omega
    by_cases c0 : ps.length + ds.length = 0
    · have d0 : decide ((0 : Int) < (ps.length : Int) + (ds.length : Int)) = false := decide_eq_false (by omega)
      have hv : V = false := by
        rw [← hV.out]
        exact rightE_no (fun h => by unfold RightE at h; omega)
      subst hv
      go_enter Try.func30, Try.ntmps30
      go_wp2
      go_ret
      exact ⟨rfl, hB.out⟩
    have d0 : decide ((0 : Int) < (ps.length : Int) + (ds.length : Int)) = true := decide_eq_true (by omega)
    by_cases ca : AllOk ps
    rotate_left 1
    · have hP := Lib.hid (polsV_no ca)
      have hv : V = false := by
        rw [← hV.out]
        refine rightE_no (fun h => ?_)
        rcases h with ⟨h1, h2, h3, h4, h5, h6, h7⟩ | ⟨h1, h2, h3, h4, h5, h6⟩ | ⟨h1, h2, h3, h4, h5, h6⟩
        · exact ca h5
        · omega
        · omega
      subst hv
      go_enter Try.func30, Try.ntmps30
      go_wp2_with (first | (go_at_call 23; (with_reducible refine (pall_any A1 c1 ps _ (hp.out.below hB.out) hcl hcm).mono ?_); rw [hP.out]; rintro e w1 ⟨rfl, hq1⟩; have hB1 := bl_then hB.out hq1; have hx1 := bk_below hq1 hx.out; obtain ⟨x0, x1, x2, x3, x4, x5, xf0, xf1, xf2, xf3, xf4, xf5⟩ := cells6 hx1))
      go_ret
      exact ⟨rfl, hB1⟩
    have hP := Lib.hid (polsV_yes ca)
    cases cd : dropsB ds ps with
    | false =>
      replace cd := Lib.hid cd
      have hv : V = false := by
        rw [← hV.out]
        refine rightE_no (fun h => ?_)
        rcases h with ⟨h1, h2, h3, h4, h5, h6, h7⟩ | ⟨h1, h2, h3, h4, h5, h6⟩ | ⟨h1, h2, h3, h4, h5, h6⟩
        · rw [cd.out] at h6; cases h6
        · omega
        · omega
      subst hv
      go_enter Try.func30, Try.ntmps30
      go_wp2_with (first | (go_at_call 23; (with_reducible refine (pall_any A1 c1 ps _ (hp.out.below hB.out) hcl hcm).mono ?_); rw [hP.out]; rintro e w1 ⟨rfl, hq1⟩; have hB1 := bl_then hB.out hq1; have hx1 := bk_below hq1 hx.out; obtain ⟨x0, x1, x2, x3, x4, x5, xf0, xf1, xf2, xf3, xf4, xf5⟩ := cells6 hx1) | (go_at_call 49; (with_reducible refine (edrops_any A2 A1 c2 c1 ds ps _ (hd.out.below hB1) (hp.out.below hB1) hm (by omega)).mono ?_); rw [cd.out]; rintro e w2 ⟨rfl, hq2⟩; have hB2 := bl_then hB1 hq2; have hx2 := bk_below hq2 hx1; obtain ⟨x0, x1, x2, x3, x4, x5, xf0, xf1, xf2, xf3, xf4, xf5⟩ := cells6 hx2))
      go_ret
      exact ⟨rfl, hB2⟩
    | true =>
      obtain ⟨v, hv⟩ : ∃ v, sameE 1 s g p 1 0 0 0 ps ps ds ds = v := ⟨_, rfl⟩
      have hvV : V = v := by
        rw [← hV.out, ← hv, same_1]
        unfold rightE
        refine decide_eq_decide.2 ⟨fun h => ?_, fun h => .inl ⟨rfl, h.1, h.2.1, h.2.2, ca, cd, by omega⟩⟩
        unfold RightE at h
        omega
      subst hvV
      replace hv := Lib.hid hv
      replace cd := Lib.hid cd
      go_enter Try.func30, Try.ntmps30
      go_wp2_with (first | (go_at_call 23; (with_reducible refine (pall_any A1 c1 ps _ (hp.out.below hB.out) hcl hcm).mono ?_); rw [hP.out]; rintro e w1 ⟨rfl, hq1⟩; have hB1 := bl_then hB.out hq1; have hx1 := bk_below hq1 hx.out; obtain ⟨x0, x1, x2, x3, x4, x5, xf0, xf1, xf2, xf3, xf4, xf5⟩ := cells6 hx1) | (go_at_call 49; (with_reducible refine (edrops_any A2 A1 c2 c1 ds ps _ (hd.out.below hB1) (hp.out.below hB1) hm (by omega)).mono ?_); rw [cd.out]; rintro e w2 ⟨rfl, hq2⟩; have hB2 := bl_then hB1 hq2; have hx2 := bk_below hq2 hx1; obtain ⟨x0, x1, x2, x3, x4, x5, xf0, xf1, xf2, xf3, xf4, xf5⟩ := cells6 hx2) | (go_at_call 32; (with_reducible refine (esame_any 1 s g p 1 0 0 0 A1 A2 A1 A2 c1 c2 c1 c2 ps ps ds ds _ (hp.out.below hB2) (hp.out.below hB2) (hd.out.below hB2) (hd.out.below hB2) hm hm2).mono ?_); rw [hv.out]; rintro e w3 ⟨rfl, hq3⟩; have hB3 := bl_then hB2 hq3; have hx3 := bk_below hq3 hx2; obtain ⟨x0, x1, x2, x3, x4, x5, xf0, xf1, xf2, xf3, xf4, xf5⟩ := cells6 hx3))
      go_ret
      exact ⟨rfl, hB3⟩
  by_cases k2 : k = 2
  · subst k2
    by_cases cs : 1 ≤ s ∧ s ≤ 255
    rotate_left 1
    · have hv : V = false := by
        rw [← hV.out]
        refine rightE_no (fun h => ?_)
        rcases h with ⟨h1, h2, h3, h4, h5, h6, h7⟩ | ⟨h1, h2, h3, h4, h5, h6⟩ | ⟨h1, h2, h3, h4, h5, h6⟩
        · omega
        · exact cs h2
        · omega
      subst hv
      go_enter Try.func30, Try.ntmps30
      go_wp2_with (first | (go_at_call 50; (with_reducible refine (esub_any s _).mono ?_); rw [decide_eq_false cs]; rintro e w' ⟨rfl, rfl⟩))
      go_ret
      exact ⟨rfl, hB.out⟩
    by_cases cg : 1 ≤ g ∧ g ≤ 281474976710656
    rotate_left 1
    · have hv : V = false := by
        rw [← hV.out]
        refine rightE_no (fun h => ?_)
        rcases h with ⟨h1, h2, h3, h4, h5, h6, h7⟩ | ⟨h1, h2, h3, h4, h5, h6⟩ | ⟨h1, h2, h3, h4, h5, h6⟩
        · omega
        · exact cg h3
        · omega
      subst hv
      go_enter Try.func30, Try.ntmps30
      go_wp2_with (first | (go_at_call 50; (with_reducible refine (esub_any s _).mono ?_); rw [decide_eq_true cs]; rintro e w' ⟨rfl, rfl⟩) | (go_at_call 51; (with_reducible refine (eval_any g _).mono ?_); rw [decide_eq_false cg]; rintro e w' ⟨rfl, rfl⟩))
      go_ret
      exact ⟨rfl, hB.out⟩
    obtain ⟨v, hv⟩ : ∃ v, sameE 2 s g p 2 s g 0 ps [] ds [] = v := ⟨_, rfl⟩
    have hvV : V = v := by
      rw [← hV.out, ← hv, same_2]
      unfold rightE
      refine decide_eq_decide.2 ⟨fun h => ?_, fun h => .inr (.inl ⟨rfl, cs, cg, h.1, h.2.1, h.2.2⟩)⟩
      rcases h with ⟨h1, _⟩ | ⟨_, _, _, h4, h5, h6⟩ | ⟨h1, _⟩
      · omega
      · exact ⟨h4, h5, h6⟩
      · omega
    subst hvV
    replace hv := Lib.hid hv
    go_enter Try.func30, Try.ntmps30
    go_wp2_with (first | (go_at_call 50; (with_reducible refine (esub_any s _).mono ?_); rw [decide_eq_true cs]; rintro e w' ⟨rfl, rfl⟩) | (go_at_call 51; (with_reducible refine (eval_any g _).mono ?_); rw [decide_eq_true cg]; rintro e w' ⟨rfl, rfl⟩) | (go_at_call 32; (with_reducible refine (esame_zero 2 s g p 2 s g 0 A1 A2 c1 c2 ps ds _ (hp.out.below hB.out) (hd.out.below hB.out) hm hm2).mono ?_); rw [hv.out]; rintro e w1 ⟨rfl, hq1⟩; have hB1 := bl_then hB.out hq1; have hx1 := bk_below hq1 hx.out; obtain ⟨x0, x1, x2, x3, x4, x5, xf0, xf1, xf2, xf3, xf4, xf5⟩ := cells6 hx1))
    go_ret
    exact ⟨rfl, hB1⟩
  by_cases k3 : k = 3
  · subst k3
    by_cases cg : 1 ≤ p ∧ p ≤ 281474976710656
    rotate_left 1
    · have hv : V = false := by
        rw [← hV.out]
        refine rightE_no (fun h => ?_)
        rcases h with ⟨h1, h2, h3, h4, h5, h6, h7⟩ | ⟨h1, h2, h3, h4, h5, h6⟩ | ⟨h1, h2, h3, h4, h5, h6⟩
        · omega
        · omega
        · exact cg h4
      subst hv
      go_enter Try.func30, Try.ntmps30
      go_wp2_with (first | (go_at_call 51; (with_reducible refine (eval_any p _).mono ?_); rw [decide_eq_false cg]; rintro e w' ⟨rfl, rfl⟩))
      go_ret
      exact ⟨rfl, hB.out⟩
    obtain ⟨v, hv⟩ : ∃ v, sameE 3 s g p 3 0 0 p ps [] ds [] = v := ⟨_, rfl⟩
    have hvV : V = v := by
      rw [← hV.out, ← hv, same_3]
      unfold rightE
      refine decide_eq_decide.2 ⟨fun h => ?_, fun h => .inr (.inr ⟨rfl, h.1, h.2.1, cg, h.2.2.1, h.2.2.2⟩)⟩
      rcases h with ⟨h1, _⟩ | ⟨h1, _⟩ | ⟨_, h2, h3, _, h5, h6⟩
      · omega
      · omega
      · exact ⟨h2, h3, h5, h6⟩
    subst hvV
    replace hv := Lib.hid hv
    go_enter Try.func30, Try.ntmps30
    go_wp2_with (first | (go_at_call 51; (with_reducible refine (eval_any p _).mono ?_); rw [decide_eq_true cg]; rintro e w' ⟨rfl, rfl⟩) | (go_at_call 32; (with_reducible refine (esame_zero 3 s g p 3 0 0 p A1 A2 c1 c2 ps ds _ (hp.out.below hB.out) (hd.out.below hB.out) hm hm2).mono ?_); rw [hv.out]; rintro e w1 ⟨rfl, hq1⟩; have hB1 := bl_then hB.out hq1; have hx1 := bk_below hq1 hx.out; obtain ⟨x0, x1, x2, x3, x4, x5, xf0, xf1, xf2, xf3, xf4, xf5⟩ := cells6 hx1))
    go_ret
    exact ⟨rfl, hB1⟩
  have e1 : decide (k = 1) = false := decide_eq_false k1
  have e2 : decide (k = 2) = false := decide_eq_false k2
  have e3 : decide (k = 3) = false := decide_eq_false k3
  have hv : V = false := by
    rw [← hV.out]
    refine rightE_no (fun h => ?_)
    rcases h with ⟨h1, h2, h3, h4, h5, h6, h7⟩ | ⟨h1, h2, h3, h4, h5, h6⟩ | ⟨h1, h2, h3, h4, h5, h6⟩
    · exact k1 h1
    · exact k2 h1
    · exact k3 h1
  subst hv
  go_enter Try.func30, Try.ntmps30
  go_wp2
  go_ret
  exact ⟨rfl, hB.out⟩
end Go.Proofs.Ytfcekicjlgdmaaa
namespace Go.Proofs.Ytfcekicjlgdmaaa
open Go.RowKit Go.Proofs.YtfcekicjlgdmaaaW.PrintWords
attribute [local go_sem] max2_int min2_int max_two min_two
attribute [local go_sem ↓] eql_nt neq_nt eql_ad net_addr net_bits eql_pol neq_pol

/-- The drop i can be: its place in the order, and no policy has its subscriber. -/
def dropGood (ds : List Int) (ps : List Pol) (i : Nat) : Prop := dropAt ds i ∧ ∀ j, j < ps.length → (ps.getD j zeroP).1 ≠ ds.getD i 0
theorem dropsB_iff {ds : List Int} {ps : List Pol} : dropsB ds ps = true ↔ ds.length ≤ 8 ∧ ∀ i, i < ds.length → dropGood ds ps i := by
  unfold dropsB
  rw [Bool.and_eq_true, decide_eq_true_eq, Bool.not_eq_true', List.any_eq_false]
  constructor
  · rintro ⟨⟨h1, h2⟩, h3⟩
    refine ⟨h1, fun i hi => ⟨h2 i hi, fun j hj e => ?_⟩⟩
    have := h3 (ps.getD j zeroP) (by rw [List.getD_eq_getElem?_getD, List.getElem?_eq_getElem hj]; exact List.getElem_mem hj)
    apply this
    unfold dropB
    rw [List.any_eq_true]
    refine ⟨ds.getD i 0, by rw [List.getD_eq_getElem?_getD, List.getElem?_eq_getElem hi]; exact List.getElem_mem hi, ?_⟩
    unfold isB
    exact decide_eq_true e
  · rintro ⟨h1, h2⟩
    refine ⟨⟨h1, fun i hi => (h2 i hi).1⟩, fun x hx hb => ?_⟩
    unfold dropB at hb
    rw [List.any_eq_true] at hb
    obtain ⟨d, hd, he⟩ := hb
    obtain ⟨i, hi, rfl⟩ := List.mem_iff_getElem.1 hd
    obtain ⟨j, hj, rfl⟩ := List.mem_iff_getElem.1 hx
    have := (h2 i hi).2 j hj
    rw [List.getD_eq_getElem?_getD, List.getElem?_eq_getElem hj, List.getD_eq_getElem?_getD, List.getElem?_eq_getElem hi, Option.getD_some, Option.getD_some] at this
    unfold isB at he
    exact this (of_decide_eq_true he)
set_option maxHeartbeats 6400000 in
theorem reright_n (k s g p : Int) (A1 A2 : Option Addr) (c1 c2 : Nat) (ps : List Pol) (ds : List Int) (w : World) (n m : Nat) (hn : ps.length = n) (hmm : ds.length = m) (hp : PolsAt w A1 ps) (hd : ReadsInt w .i64 A2 ds.length ds) (hm : n ≤ 1000) (hm2 : m ≤ 1000) (hcl : n ≤ c1) (hcm : c1 ≤ 9223372036854775807) :
    Calls Try.prog 31 #[.agg #[.int .i64 k, .int .i64 s, .slice A1 n c1, .slice A2 m c2, .int .u64 g, .int .u64 p]] w fun e w' => e = .returned (.bool (rightE k s g p ps ds)) ∧ Below w.heap.size w w' := by
  have hx := bk_new w #[.int .i64 k, .int .i64 s, .slice A1 n c1, .slice A2 m c2, .int .u64 g, .int .u64 p] 53
  have hB := bl_alloc (Below.refl _ w) (.cells #[.int .i64 k, .int .i64 s, .slice A1 n c1, .slice A2 m c2, .int .u64 g, .int .u64 p] 53)
  obtain ⟨V, hV⟩ : ∃ V, rightE k s g p ps ds = V := ⟨_, rfl⟩
  rw [hV]
  have hall : ∀ w, PolsAt w A1 ps → Calls Try.prog 24 #[.slice A1 n c1] w fun e w' => e = .returned (.int .i64 (polsV ps)) ∧ Below w.heap.size w w' := by
    subst hn
    exact fun w h => rpall_any A1 c1 ps w h hcl hcm
  replace hV := Lib.hid hV
  replace hp := Lib.hid hp
  replace hd := Lib.hid hd
  replace hall := Lib.hid hall
  replace hn := Lib.hid hn
  replace hmm := Lib.hid hmm
  obtain ⟨x0, x1, x2, x3, x4, x5, xf0, xf1, xf2, xf3, xf4, xf5⟩ := cells6 hx
  replace hx := Lib.hid hx
  replace hB := Lib.hid hB
  by_cases k3 : k = 3
  · subst k3
    by_cases c : 1 ≤ p
    rotate_left 1
    · have e1 : decide (1 ≤ p) = false := decide_eq_false c
      have hv : V = false := by
        rw [← hV.out]
        refine rightE_no (fun h => ?_)
        rcases h with ⟨h1, h2, h3, h4, h5, h6, h7⟩ | ⟨h1, h2, h3, h4, h5, h6⟩ | ⟨h1, h2, h3, h4, h5, h6⟩
        · omega
        · omega
        · exact c h4.1
      subst hv
      go_enter Try.func31, Try.ntmps31
      go_wp2
      go_ret
      exact ⟨rfl, hB.out⟩
    have t1 : decide (1 ≤ p) = true := decide_eq_true c
    have ct1 := c
    clear c
    by_cases c : p ≤ 281474976710656
    rotate_left 1
    · have e1 : decide (p ≤ 281474976710656) = false := decide_eq_false c
      have hv : V = false := by
        rw [← hV.out]
        refine rightE_no (fun h => ?_)
        rcases h with ⟨h1, h2, h3, h4, h5, h6, h7⟩ | ⟨h1, h2, h3, h4, h5, h6⟩ | ⟨h1, h2, h3, h4, h5, h6⟩
        · omega
        · omega
        · exact c h4.2
      subst hv
      go_enter Try.func31, Try.ntmps31
      go_wp2
      go_ret
      exact ⟨rfl, hB.out⟩
    have t2 : decide (p ≤ 281474976710656) = true := decide_eq_true c
    have ct2 := c
    clear c
    by_cases c : s = 0
    rotate_left 1
    · have e1 : decide (s = 0) = false := decide_eq_false c
      have e2 : (s == 0) = false := beq_eq_false_iff_ne.2 c
      have e3 : (s != 0) = true := bne_iff_ne.2 c
      have hv : V = false := by
        rw [← hV.out]
        refine rightE_no (fun h => ?_)
        rcases h with ⟨h1, h2, h3, h4, h5, h6, h7⟩ | ⟨h1, h2, h3, h4, h5, h6⟩ | ⟨h1, h2, h3, h4, h5, h6⟩
        · omega
        · omega
        · exact c h2
      subst hv
      go_enter Try.func31, Try.ntmps31
      go_wp2
      go_ret
      exact ⟨rfl, hB.out⟩
    subst c
    by_cases c : g = 0
    rotate_left 1
    · have e1 : decide (g = 0) = false := decide_eq_false c
      have e2 : (g == 0) = false := beq_eq_false_iff_ne.2 c
      have e3 : (g != 0) = true := bne_iff_ne.2 c
      have hv : V = false := by
        rw [← hV.out]
        refine rightE_no (fun h => ?_)
        rcases h with ⟨h1, h2, h3, h4, h5, h6, h7⟩ | ⟨h1, h2, h3, h4, h5, h6⟩ | ⟨h1, h2, h3, h4, h5, h6⟩
        · omega
        · omega
        · exact c h3
      subst hv
      go_enter Try.func31, Try.ntmps31
      go_wp2
      go_ret
      exact ⟨rfl, hB.out⟩
    subst c
    by_cases c : n = 0
    rotate_left 1
    · have e1 : decide (n = 0) = false := decide_eq_false c
      have e2 : (n == 0) = false := beq_eq_false_iff_ne.2 c
      have e3 : (n != 0) = true := bne_iff_ne.2 c
      have e4 : decide ((n : Int) = 0) = false := decide_eq_false (by omega)
      have e5 : ((n : Int) == 0) = false := beq_eq_false_iff_ne.2 (by omega)
      have hv : V = false := by
        rw [← hV.out]
        refine rightE_no (fun h => ?_)
        rcases h with ⟨h1, h2, h3, h4, h5, h6, h7⟩ | ⟨h1, h2, h3, h4, h5, h6⟩ | ⟨h1, h2, h3, h4, h5, h6⟩
        · omega
        · omega
        · have := hn.out; rw [h5] at this; exact absurd this.symm c
      subst hv
      go_enter Try.func31, Try.ntmps31
      go_wp2
      go_ret
      exact ⟨rfl, hB.out⟩
    subst c
    by_cases c : m = 0
    rotate_left 1
    · have e1 : decide (m = 0) = false := decide_eq_false c
      have e2 : (m == 0) = false := beq_eq_false_iff_ne.2 c
      have e3 : (m != 0) = true := bne_iff_ne.2 c
      have e4 : decide ((m : Int) = 0) = false := decide_eq_false (by omega)
      have e5 : ((m : Int) == 0) = false := beq_eq_false_iff_ne.2 (by omega)
      have hv : V = false := by
        rw [← hV.out]
        refine rightE_no (fun h => ?_)
        rcases h with ⟨h1, h2, h3, h4, h5, h6, h7⟩ | ⟨h1, h2, h3, h4, h5, h6⟩ | ⟨h1, h2, h3, h4, h5, h6⟩
        · omega
        · omega
        · have := hmm.out; rw [h6] at this; exact absurd this.symm c
      subst hv
      go_enter Try.func31, Try.ntmps31
      go_wp2
      go_ret
      exact ⟨rfl, hB.out⟩
    subst c
    have hv : V = true := by
      rw [← hV.out]
      exact rightE_yes (.inr (.inr ⟨rfl, rfl, rfl, ⟨ct1, ct2⟩, List.length_eq_zero_iff.1 hn.out, List.length_eq_zero_iff.1 hmm.out⟩))
    subst hv
    go_enter Try.func31, Try.ntmps31
    go_wp2
    go_ret
    exact ⟨rfl, hB.out⟩
  have f3 : decide (k = 3) = false := decide_eq_false k3
  by_cases k2 : k = 2
  · subst k2
    by_cases c : 1 ≤ s
    rotate_left 1
    · have e1 : decide (1 ≤ s) = false := decide_eq_false c
      have hv : V = false := by
        rw [← hV.out]
        refine rightE_no (fun h => ?_)
        rcases h with ⟨h1, h2, h3, h4, h5, h6, h7⟩ | ⟨h1, h2, h3, h4, h5, h6⟩ | ⟨h1, h2, h3, h4, h5, h6⟩
        · omega
        · exact c h2.1
        · omega
      subst hv
      go_enter Try.func31, Try.ntmps31
      go_wp2
      go_ret
      exact ⟨rfl, hB.out⟩
    have t1 : decide (1 ≤ s) = true := decide_eq_true c
    have ct1 := c
    clear c
    by_cases c : s ≤ 255
    rotate_left 1
    · have e1 : decide (s ≤ 255) = false := decide_eq_false c
      have hv : V = false := by
        rw [← hV.out]
        refine rightE_no (fun h => ?_)
        rcases h with ⟨h1, h2, h3, h4, h5, h6, h7⟩ | ⟨h1, h2, h3, h4, h5, h6⟩ | ⟨h1, h2, h3, h4, h5, h6⟩
        · omega
        · exact c h2.2
        · omega
      subst hv
      go_enter Try.func31, Try.ntmps31
      go_wp2
      go_ret
      exact ⟨rfl, hB.out⟩
    have t2 : decide (s ≤ 255) = true := decide_eq_true c
    have ct2 := c
    clear c
    by_cases c : 1 ≤ g
    rotate_left 1
    · have e1 : decide (1 ≤ g) = false := decide_eq_false c
      have hv : V = false := by
        rw [← hV.out]
        refine rightE_no (fun h => ?_)
        rcases h with ⟨h1, h2, h3, h4, h5, h6, h7⟩ | ⟨h1, h2, h3, h4, h5, h6⟩ | ⟨h1, h2, h3, h4, h5, h6⟩
        · omega
        · exact c h3.1
        · omega
      subst hv
      go_enter Try.func31, Try.ntmps31
      go_wp2
      go_ret
      exact ⟨rfl, hB.out⟩
    have t3 : decide (1 ≤ g) = true := decide_eq_true c
    have ct3 := c
    clear c
    by_cases c : g ≤ 281474976710656
    rotate_left 1
    · have e1 : decide (g ≤ 281474976710656) = false := decide_eq_false c
      have hv : V = false := by
        rw [← hV.out]
        refine rightE_no (fun h => ?_)
        rcases h with ⟨h1, h2, h3, h4, h5, h6, h7⟩ | ⟨h1, h2, h3, h4, h5, h6⟩ | ⟨h1, h2, h3, h4, h5, h6⟩
        · omega
        · exact c h3.2
        · omega
      subst hv
      go_enter Try.func31, Try.ntmps31
      go_wp2
      go_ret
      exact ⟨rfl, hB.out⟩
    have t4 : decide (g ≤ 281474976710656) = true := decide_eq_true c
    have ct4 := c
    clear c
    by_cases c : p = 0
    rotate_left 1
    · have e1 : decide (p = 0) = false := decide_eq_false c
      have e2 : (p == 0) = false := beq_eq_false_iff_ne.2 c
      have e3 : (p != 0) = true := bne_iff_ne.2 c
      have hv : V = false := by
        rw [← hV.out]
        refine rightE_no (fun h => ?_)
        rcases h with ⟨h1, h2, h3, h4, h5, h6, h7⟩ | ⟨h1, h2, h3, h4, h5, h6⟩ | ⟨h1, h2, h3, h4, h5, h6⟩
        · omega
        · exact c h4
        · omega
      subst hv
      go_enter Try.func31, Try.ntmps31
      go_wp2
      go_ret
      exact ⟨rfl, hB.out⟩
    subst c
    by_cases c : n = 0
    rotate_left 1
    · have e1 : decide (n = 0) = false := decide_eq_false c
      have e2 : (n == 0) = false := beq_eq_false_iff_ne.2 c
      have e3 : (n != 0) = true := bne_iff_ne.2 c
      have e4 : decide ((n : Int) = 0) = false := decide_eq_false (by omega)
      have e5 : ((n : Int) == 0) = false := beq_eq_false_iff_ne.2 (by omega)
      have hv : V = false := by
        rw [← hV.out]
        refine rightE_no (fun h => ?_)
        rcases h with ⟨h1, h2, h3, h4, h5, h6, h7⟩ | ⟨h1, h2, h3, h4, h5, h6⟩ | ⟨h1, h2, h3, h4, h5, h6⟩
        · omega
        · have := hn.out; rw [h5] at this; exact absurd this.symm c
        · omega
      subst hv
      go_enter Try.func31, Try.ntmps31
      go_wp2
      go_ret
      exact ⟨rfl, hB.out⟩
    subst c
    by_cases c : m = 0
    rotate_left 1
    · have e1 : decide (m = 0) = false := decide_eq_false c
      have e2 : (m == 0) = false := beq_eq_false_iff_ne.2 c
      have e3 : (m != 0) = true := bne_iff_ne.2 c
      have e4 : decide ((m : Int) = 0) = false := decide_eq_false (by omega)
      have e5 : ((m : Int) == 0) = false := beq_eq_false_iff_ne.2 (by omega)
      have hv : V = false := by
        rw [← hV.out]
        refine rightE_no (fun h => ?_)
        rcases h with ⟨h1, h2, h3, h4, h5, h6, h7⟩ | ⟨h1, h2, h3, h4, h5, h6⟩ | ⟨h1, h2, h3, h4, h5, h6⟩
        · omega
        · have := hmm.out; rw [h6] at this; exact absurd this.symm c
        · omega
      subst hv
      go_enter Try.func31, Try.ntmps31
      go_wp2
      go_ret
      exact ⟨rfl, hB.out⟩
    subst c
    have hv : V = true := by
      rw [← hV.out]
      exact rightE_yes (.inr (.inl ⟨rfl, ⟨ct1, ct2⟩, ⟨ct3, ct4⟩, rfl, List.length_eq_zero_iff.1 hn.out, List.length_eq_zero_iff.1 hmm.out⟩))
    subst hv
    go_enter Try.func31, Try.ntmps31
    go_wp2
    go_ret
    exact ⟨rfl, hB.out⟩
  have f2 : decide (k = 2) = false := decide_eq_false k2
  by_cases k1 : k = 1
  rotate_left 1
  · have f1 : decide (k = 1) = false := decide_eq_false k1
    have f4 : (k != 1) = true := bne_iff_ne.2 k1
    have hv : V = false := by
      rw [← hV.out]
      refine rightE_no (fun h => ?_)
      rcases h with ⟨h1, h2, h3, h4, h5, h6, h7⟩ | ⟨h1, h2, h3, h4, h5, h6⟩ | ⟨h1, h2, h3, h4, h5, h6⟩
      · exact k1 h1
      · exact k2 h1
      · exact k3 h1
    subst hv
    go_enter Try.func31, Try.ntmps31
    go_wp2
    go_ret
    exact ⟨rfl, hB.out⟩
  subst k1
  by_cases c : s = 0
  rotate_left 1
  · have e1 : decide (s = 0) = false := decide_eq_false c
    have e2 : (s == 0) = false := beq_eq_false_iff_ne.2 c
    have e3 : (s != 0) = true := bne_iff_ne.2 c
    have hv : V = false := by
      rw [← hV.out]
      refine rightE_no (fun h => ?_)
      rcases h with ⟨h1, h2, h3, h4, h5, h6, h7⟩ | ⟨h1, h2, h3, h4, h5, h6⟩ | ⟨h1, h2, h3, h4, h5, h6⟩
      · exact c h2
      · omega
      · omega
    subst hv
    go_enter Try.func31, Try.ntmps31
    go_wp2
    go_ret
    exact ⟨rfl, hB.out⟩
  subst c
  by_cases c : g = 0
  rotate_left 1
  · have e1 : decide (g = 0) = false := decide_eq_false c
    have e2 : (g == 0) = false := beq_eq_false_iff_ne.2 c
    have e3 : (g != 0) = true := bne_iff_ne.2 c
    have hv : V = false := by
      rw [← hV.out]
      refine rightE_no (fun h => ?_)
      rcases h with ⟨h1, h2, h3, h4, h5, h6, h7⟩ | ⟨h1, h2, h3, h4, h5, h6⟩ | ⟨h1, h2, h3, h4, h5, h6⟩
      · exact c h3
      · omega
      · omega
    subst hv
    go_enter Try.func31, Try.ntmps31
    go_wp2
    go_ret
    exact ⟨rfl, hB.out⟩
  subst c
  by_cases c : p = 0
  rotate_left 1
  · have e1 : decide (p = 0) = false := decide_eq_false c
    have e2 : (p == 0) = false := beq_eq_false_iff_ne.2 c
    have e3 : (p != 0) = true := bne_iff_ne.2 c
    have hv : V = false := by
      rw [← hV.out]
      refine rightE_no (fun h => ?_)
      rcases h with ⟨h1, h2, h3, h4, h5, h6, h7⟩ | ⟨h1, h2, h3, h4, h5, h6⟩ | ⟨h1, h2, h3, h4, h5, h6⟩
      · exact c h4
      · omega
      · omega
    subst hv
    go_enter Try.func31, Try.ntmps31
    go_wp2
    go_ret
    exact ⟨rfl, hB.out⟩
  subst c
  by_cases c : m ≤ 8
  rotate_left 1
  · have e1 : decide ((8 : Int) < (m : Int)) = true := decide_eq_true (by omega)
    have hv : V = false := by
      rw [← hV.out]
      refine rightE_no (fun h => ?_)
      rcases h with ⟨h1, h2, h3, h4, h5, h6, h7⟩ | ⟨h1, h2, h3, h4, h5, h6⟩ | ⟨h1, h2, h3, h4, h5, h6⟩
      · have := (dropsB_iff.1 h6).1; have := hmm.out; omega
      · omega
      · omega
    subst hv
    go_enter Try.func31, Try.ntmps31
    go_wp2
    go_ret
    exact ⟨rfl, hB.out⟩
  have t1 : decide ((8 : Int) < (m : Int)) = false := decide_eq_false (by omega)
  have cm8 := c
  clear c
  by_cases ca : AllOk ps
  rotate_left 1
  · have hP := Lib.hid (polsV_no ca)
    have hv : V = false := by
      rw [← hV.out]
      refine rightE_no (fun h => ?_)
      rcases h with ⟨h1, h2, h3, h4, h5, h6, h7⟩ | ⟨h1, h2, h3, h4, h5, h6⟩ | ⟨h1, h2, h3, h4, h5, h6⟩
      · exact ca h5
      · omega
      · omega
    subst hv
    go_enter Try.func31, Try.ntmps31
    go_wp2_with (first | (go_at_call 24; (with_reducible refine (hall.out _ (hp.out.below hB.out)).mono ?_); rw [hP.out]; rintro e w1 ⟨rfl, hq1⟩; have hB1 := bl_then hB.out hq1; have hx1 := bk_below hq1 hx.out; obtain ⟨x0, x1, x2, x3, x4, x5, xf0, xf1, xf2, xf3, xf4, xf5⟩ := cells6 hx1))
    go_ret
    exact ⟨rfl, hB1⟩
  have hP := Lib.hid (polsV_yes ca)
  go_enter Try.func31, Try.ntmps31
  go_wp2_with (first | (go_at_call 24; (with_reducible refine (hall.out _ (hp.out.below hB.out)).mono ?_); rw [hP.out]; rintro e w1 ⟨rfl, hq1⟩; have hB1 := bl_then hB.out hq1; have hx1 := bk_below hq1 hx.out; obtain ⟨x0, x1, x2, x3, x4, x5, xf0, xf1, xf2, xf3, xf4, xf5⟩ := cells6 hx1))
  replace hx1 := Lib.hid hx1
  clear x0 x1 x2 x3 x4 x5 xf0 xf1 xf2 xf3 xf4 xf5
  go_loopw [3, 112] (fun v3 v112 wr => ∃ (i : Nat) (last : Int), v112 = .int .i64 i ∧ v3 = .int .i64 last ∧ i ≤ m ∧ (i = 0 ∧ last = 0 ∨ 0 < i ∧ last = ds.getD (i - 1) 0 ∧ 1 ≤ last) ∧ (∀ j, j < i → dropGood ds ps j) ∧ Below w1.heap.size w1 wr) (fun _ v112 _ => m - (intOf v112).toNat)
  case atStart => exact ⟨0, 0, rfl, rfl, Nat.zero_le _, .inl ⟨rfl, rfl⟩, fun j hj => absurd hj (by omega), Below.refl _ _⟩
  case round =>
    obtain ⟨i, last, rfl, rfl, hi, hlast, hg, hBl⟩ := hrel
    have hBw := bl_then hB1 hBl
    have hx2 := bk_below hBl hx1.out
    obtain ⟨x0, x1, x2, x3, x4, x5, xf0, xf1, xf2, xf3, xf4, xf5⟩ := cells6 hx2
    replace hg := Lib.hid hg
    replace hx2 := Lib.hid hx2
    replace hlast := Lib.hid hlast
    by_cases hil : i < m
    · have hil2 : decide ((i : Int) < (m : Int)) = true := decide_eq_true (by omega)
      have hi1 : (i : Int) < (m : Int) := by omega
      have hi2 : decide ((i : Int) < 0) = false := decide_eq_false (by omega)
      have hi4 : decide (m ≤ i) = false := decide_eq_false (by omega)
      obtain ⟨ad, rfl, hcell⟩ : ∃ ad, A2 = some ad ∧ ∀ j, j < m → w.cell? (ad.add j) = some (.int .i64 (ds.getD j 0)) := by
        obtain ⟨ad, e, hc⟩ := hd.out.2.2 (by have := hmm.out; omega)
        exact ⟨ad, e, fun j hj => hc j (by rw [hmm.out]; exact hj)⟩
      have hci := cl_far hBw (hcell i hil)
      obtain ⟨d, hdd⟩ : ∃ d, ds.getD i 0 = d := ⟨_, rfl⟩
      rw [hdd] at hci
      replace hdd := Lib.hid hdd
      have bad : ¬ (last < d ∧ d ≤ 255) → V = false := fun hc => by
        rw [← hV.out]
        refine rightE_no (fun h => ?_)
        rcases h with ⟨h1, h2, h3, h4, h5, h6, h7⟩ | ⟨h1, h2, h3, h4, h5, h6⟩ | ⟨h1, h2, h3, h4, h5, h6⟩
        · obtain ⟨⟨h8, h9⟩, h10⟩ := (dropsB_iff.1 h6).2 i (by rw [hmm.out]; exact hil)
          rw [hdd.out] at h8 h9
          rcases hlast.out with ⟨ha, hb⟩ | ⟨ha, hb, _⟩
          · omega
          · rcases h9 with h9 | h9
            · omega
            · rw [← hb] at h9
              omega
        · omega
        · omega
      replace bad := Lib.hid bad
      by_cases hl : d ≤ last
      · have hl2 : decide (d ≤ last) = true := decide_eq_true hl
        have hv : V = false := bad.out (by omega)
        subst hv
        go_wp2
        go_ret
        exact ⟨rfl, hBw⟩
      have hl2 : decide (d ≤ last) = false := decide_eq_false hl
      by_cases hh : 255 < d
      · have hh2 : decide (255 < d) = true := decide_eq_true hh
        have hv : V = false := bad.out (by omega)
        subst hv
        go_wp2
        go_ret
        exact ⟨rfl, hBw⟩
      have hh2 : decide (255 < d) = false := decide_eq_false hh
      have hat : dropAt ds i := by
        unfold dropAt
        rw [hdd.out]
        rcases hlast.out with ⟨ha, hb⟩ | ⟨ha, hb, hb2⟩
        · exact ⟨⟨by omega, by omega⟩, .inl ha⟩
        · exact ⟨⟨by omega, by omega⟩, .inr (by rw [← hb]; omega)⟩
      have hd1 : 1 ≤ d := by have := hat.1.1; rw [hdd.out] at this; exact this
      replace hat := Lib.hid hat
      replace hci := Lib.hid hci
      have hci2 := hci.out
      go_wp2_with (fail)
      clear hci2 x0 x1 x2 x3 x4 x5 xf0 xf1 xf2 xf3 xf4 xf5
      go_loopw [127] (fun v wr => ∃ j : Nat, v = .int .i64 j ∧ j ≤ n ∧ (∀ l, l < j → (ps.getD l zeroP).1 ≠ d) ∧ Below w1.heap.size w1 wr) (fun v _ => n - (intOf v).toNat)
      case atStart => exact ⟨0, rfl, Nat.zero_le _, fun l hl => absurd hl (by omega), hBl⟩
      case round =>
        obtain ⟨j, rfl, hj, hgj, hBj⟩ := hrel
        have hBwj := bl_then hB1 hBj
        replace hgj := Lib.hid hgj
        by_cases hjn : j < n
        · have hjn2 : decide ((j : Int) < (n : Int)) = true := decide_eq_true (by omega)
          have hj1 : (j : Int) < (n : Int) := by omega
          have hj2 : decide ((j : Int) < 0) = false := decide_eq_false (by omega)
          have hj4 : decide (n ≤ j) = false := decide_eq_false (by omega)
          obtain ⟨hok, bd, rfl, hrow⟩ := hp.out j (by rw [hn.out]; exact hjn)
          obtain ⟨x, hxx⟩ : ∃ x, ps.getD j zeroP = x := ⟨_, rfl⟩
          rw [hxx] at hok hrow
          replace hxx := Lib.hid hxx
          obtain ⟨y0, y1, y2, y3, y4, y5, y6, y7, y8, y9, y10, y11, y12⟩ := pol_cellsAt (hrow.far hBwj)
          by_cases he : x.1 = d
          · have he2 : decide (x.1 = d) = true := decide_eq_true he
            have hv : V = false := by
              rw [← hV.out]
              refine rightE_no (fun h => ?_)
              rcases h with ⟨h1, h2, h3, h4, h5, h6, h7⟩ | ⟨h1, h2, h3, h4, h5, h6⟩ | ⟨h1, h2, h3, h4, h5, h6⟩
              · have := ((dropsB_iff.1 h6).2 i (by rw [hmm.out]; exact hil)).2 j (by rw [hn.out]; exact hjn)
                rw [hxx.out, hdd.out] at this
                exact this he
              · omega
              · omega
            subst hv
            have he3 : (x.1 == d) = true := beq_iff_eq.2 he
            subst he
            go_wp2
            go_ret
            exact ⟨rfl, bl_alloc hBwj _⟩
          · have he2 : decide (x.1 = d) = false := decide_eq_false he
            have he3 : (x.1 == d) = false := beq_eq_false_iff_ne.2 he
            go_wp2
            refine ⟨⟨j + 1, by first | rfl | (congr 1; omega), by omega, fun l hl => ?_, bl_alloc hBj _⟩, by simp [intOf]; omega⟩
            rcases Nat.lt_or_ge l j with h | h
            · exact hgj.out l h
            · obtain rfl : l = j := by omega
              rw [hxx.out]
              exact he
        · have hjn2 : decide ((j : Int) < (n : Int)) = false := decide_eq_false (by omega)
          obtain rfl : j = n := by omega
          have hstep : dropGood ds ps i := ⟨hat.out, fun l hl => by rw [hdd.out]; exact hgj.out l (by rw [← hn.out]; exact hl)⟩
          replace hstep := Lib.hid hstep
          go_wp2
          refine ⟨⟨i + 1, d, by first | rfl | (congr 1; omega), rfl, by omega, .inr ⟨by omega, by rw [Nat.add_sub_cancel]; exact hdd.out.symm, hd1⟩, fun l hl => ?_, hBj⟩, by simp [intOf]; omega⟩
          rcases Nat.lt_or_ge l i with h | h
          · exact hg.out l h
          · obtain rfl : l = i := by omega
            exact hstep.out
    · have hil2 : decide ((i : Int) < (m : Int)) = false := decide_eq_false (by omega)
      obtain rfl : i = m := by omega
      have hdb : dropsB ds ps = true := dropsB_iff.2 ⟨by have := hmm.out; omega, fun j hj => hg.out j (by rw [← hmm.out]; exact hj)⟩
      have hVV : V = decide (0 < n + i) := by
        rw [← hV.out]
        unfold rightE
        refine decide_eq_decide.2 ⟨fun h => ?_, fun h => .inl ⟨rfl, rfl, rfl, rfl, ca, hdb, by rw [hn.out, hmm.out]; exact h⟩⟩
        rcases h with ⟨h1, h2, h3, h4, h5, h6, h7⟩ | ⟨h1, h2, h3, h4, h5, h6⟩ | ⟨h1, h2, h3, h4, h5, h6⟩
        · rw [hn.out, hmm.out] at h7; exact h7
        · omega
        · omega
      by_cases n0 : n = 0
      · by_cases m0 : i = 0
        · have hv : V = false := by rw [hVV]; exact decide_eq_false (by omega)
          have e1 : decide ((0 : Int) < (n : Int)) = false := decide_eq_false (by omega)
          have e2 : decide (0 < n) = false := decide_eq_false (by omega)
          have e3 : decide ((0 : Int) < (i : Int)) = false := decide_eq_false (by omega)
          have e4 : decide (0 < i) = false := decide_eq_false (by omega)
          clear hVV
          subst hv
          clear n0 m0
          go_wp2
          go_ret
          exact ⟨rfl, hBw⟩
        · have hv : V = true := by rw [hVV]; exact decide_eq_true (by omega)
          have e1 : decide ((0 : Int) < (n : Int)) = false := decide_eq_false (by omega)
          have e2 : decide (0 < n) = false := decide_eq_false (by omega)
          have e3 : decide ((0 : Int) < (i : Int)) = true := decide_eq_true (by omega)
          have e4 : decide (0 < i) = true := decide_eq_true (by omega)
          clear hVV
          subst hv
          clear n0 m0
          go_wp2
          go_ret
          exact ⟨rfl, hBw⟩
      · have hv : V = true := by rw [hVV]; exact decide_eq_true (by omega)
        have e1 : decide ((0 : Int) < (n : Int)) = true := decide_eq_true (by omega)
        have e2 : decide (0 < n) = true := decide_eq_true (by omega)
        clear hVV
        subst hv
        clear n0
        go_wp2
        go_ret
        exact ⟨rfl, hBw⟩
theorem reright_any (k s g p : Int) (A1 A2 : Option Addr) (c1 c2 : Nat) (ps : List Pol) (ds : List Int) (w : World) (hp : PolsAt w A1 ps) (hd : ReadsInt w .i64 A2 ds.length ds) (hm : ps.length ≤ 1000) (hm2 : ds.length ≤ 1000) (hcl : ps.length ≤ c1) (hcm : c1 ≤ 9223372036854775807) :
    Calls Try.prog 31 #[.agg #[.int .i64 k, .int .i64 s, .slice A1 ps.length c1, .slice A2 ds.length c2, .int .u64 g, .int .u64 p]] w fun e w' => e = .returned (.bool (rightE k s g p ps ds)) ∧ Below w.heap.size w w' :=
  reright_n k s g p A1 A2 c1 c2 ps ds w _ _ rfl rfl hp hd hm hm2 hcl hcm
end Go.Proofs.Ytfcekicjlgdmaaa
