/- The walk of RouteOrder. -/
import Derived.Test.YtebeknnjjoobnaaRouteW
import Derived.Test.YtebeknnjjoobnaaRouteQ
import Derived.Test.YtebeknnjjoobnaaRouteLaws
import Derived.Test.YtebeknnjjoobnaaRouteM
set_option linter.unusedVariables false
set_option linter.unusedSimpArgs false
set_option maxRecDepth 100000
namespace Go.Proofs.Ytebeknnjjoobnaa
open Go.RowKit Go.Proofs.YtebeknnjjoobnaaW.PrintWords
attribute [local go_sem] max2_int min2_int max_two min_two
attribute [local go_sem ↓] eql_nt neq_nt eql_ad net_addr net_bits

/-- The pairs that are set, the last one first. -/
def prs (ns : List Nt) (f : Nat → Nat) : Nat → List Rt
  | 0 => []
  | k + 1 => (ns.getD (f k) zeroN, (f k : Int)) :: prs ns f k
def setsR : List Rt → Routes
  | [] => []
  | p :: ps => setL (setsR ps) p.1 p.2
def tn (n t i : Nat) : Nat := if n ≤ i + t then i + t - n else i + t
theorem prs_len (ns : List Nt) (f : Nat → Nat) : ∀ k, (prs ns f k).length = k
  | 0 => rfl
  | k + 1 => by rw [prs, List.length_cons, prs_len ns f k]
theorem mem_prs {ns : List Nt} {f : Nat → Nat} {p : Rt} : ∀ {k}, p ∈ prs ns f k ↔ ∃ i, i < k ∧ p = (ns.getD (f i) zeroN, (f i : Int))
  | 0 => by simp [prs]
  | k + 1 => by
    rw [prs, List.mem_cons, mem_prs]
    constructor
    · rintro (h | ⟨i, h1, h2⟩)
      · exact ⟨k, by omega, h⟩
      · exact ⟨i, by omega, h2⟩
    · rintro ⟨i, h1, h2⟩
      rcases Nat.lt_or_ge i k with c | c
      · exact .inr ⟨i, c, h2⟩
      · obtain rfl : i = k := by omega
        exact .inl h2
theorem setsR_len : ∀ ps, (setsR ps).length ≤ ps.length
  | [] => Nat.le_refl _
  | p :: ps => by
    have h1 := setsR_len ps
    have h2 := setL_len (setsR ps) p.1 p.2
    rw [setsR, List.length_cons]; omega
theorem setsR_get : ∀ ps : List Rt, ps.length ≤ 64 → (ps.map (·.1)).Nodup → (∀ p ∈ ps, 0 ≤ p.2) → ∀ x v, mget (setsR ps) x = some v ↔ (x, v) ∈ ps ∧ rightT x = true
  | [], _, _, _, x, v => by simp [setsR, mget]
  | p :: ps, hl, hn, h0, x, v => by
    obtain ⟨p1, p2⟩ := p
    rw [List.length_cons] at hl
    rw [List.map_cons, List.nodup_cons] at hn
    have ih := setsR_get ps (by omega) hn.2 (fun q hq => h0 q (List.mem_cons_of_mem _ hq)) x v
    have h1 := setsR_len ps
    have h2 : (0 : Int) ≤ p2 := h0 (p1, p2) (List.mem_cons_self ..)
    have hok : setOk (setsR ps) p1 p2 = rightT p1 := by
      unfold setOk
      rw [decide_eq_true h2, decide_eq_true (by omega : (setsR ps).length < 64)]
      simp
    rw [setsR, setL]
    dsimp only
    rw [hok]
    cases hr : rightT p1 with
    | true =>
      rw [if_pos rfl, mget_put]
      by_cases e : x = p1
      · subst e
        rw [if_pos rfl]
        constructor
        · intro h
          obtain rfl := Option.some.inj h
          exact ⟨List.mem_cons_self .., hr⟩
        · rintro ⟨h, _⟩
          rcases List.mem_cons.1 h with h | h
          · rw [show v = p2 from (Prod.ext_iff.1 h).2]
          · exact absurd (List.mem_map.2 ⟨_, h, rfl⟩) hn.1
      · rw [if_neg e, ih]
        constructor
        · rintro ⟨h, h'⟩
          exact ⟨List.mem_cons_of_mem _ h, h'⟩
        · rintro ⟨h, h'⟩
          rcases List.mem_cons.1 h with h | h
          · exact absurd (Prod.ext_iff.1 h).1 e
          · exact ⟨h, h'⟩
    | false =>
      simp only [Bool.false_eq_true, if_false]
      rw [ih]
      constructor
      · rintro ⟨h, h'⟩
        exact ⟨List.mem_cons_of_mem _ h, h'⟩
      · rintro ⟨h, h'⟩
        rcases List.mem_cons.1 h with h | h
        · have := (Prod.ext_iff.1 h).1
          dsimp only at this
          rw [this, hr] at h'
          cases h'
        · exact ⟨h, h'⟩
def Unlike (ns : List Nt) : Prop := ∀ a b, a < b → b < ns.length → ns.getD a zeroN ≠ ns.getD b zeroN
theorem prs_nodup {ns : List Nt} (hu : Unlike ns) {f : Nat → Nat} : ∀ k, (∀ i, i < k → f i < ns.length) → (∀ i j, i < j → j < k → f i ≠ f j) → ((prs ns f k).map (·.1)).Nodup
  | 0, _, _ => List.nodup_nil
  | k + 1, hf, hi => by
    rw [prs, List.map_cons, List.nodup_cons]
    refine ⟨fun h => ?_, prs_nodup hu k (fun i h => hf i (by omega)) (fun i j h h' => hi i j h (by omega))⟩
    obtain ⟨q, hq, he⟩ := List.mem_map.1 h
    obtain ⟨i, h1, rfl⟩ := mem_prs.1 hq
    dsimp only at he
    have hne := hi i k h1 (by omega)
    rcases Nat.lt_or_ge (f i) (f k) with c | c
    · exact hu _ _ c (hf k (by omega)) he
    · exact hu _ _ (by omega : f k < f i) (hf i (by omega)) he.symm
theorem tn_lt {n t i : Nat} (ht : t < n) (hi : i < n) : tn n t i < n := by unfold tn; split <;> omega
theorem turn_same {ns : List Nt} (hu : Unlike ns) (hl : ns.length ≤ 60) {t : Nat} (ht : t < ns.length) (h1 : ((setsR (prs ns id ns.length)).map Prod.fst).Nodup) (h2 : ((setsR (prs ns (tn ns.length t) ns.length)).map Prod.fst).Nodup) (p : Rt) :
    p ∈ setsR (prs ns id ns.length) ↔ p ∈ setsR (prs ns (tn ns.length t) ns.length) := by
  have e1 := setsR_get (prs ns id ns.length) (by rw [prs_len]; omega) (prs_nodup hu _ (fun i h => h) (fun i j h _ => by show i ≠ j; omega)) (fun q hq => by obtain ⟨i, _, rfl⟩ := mem_prs.1 hq; exact Int.natCast_nonneg _) p.1 p.2
  have e2 := setsR_get (prs ns (tn ns.length t) ns.length) (by rw [prs_len]; omega) (prs_nodup hu _ (fun i h => tn_lt ht h) (fun i j h h' => by unfold tn; (repeat' split) <;> omega)) (fun q hq => by obtain ⟨i, _, rfl⟩ := mem_prs.1 hq; exact Int.natCast_nonneg _) p.1 p.2
  have m1 : p ∈ setsR (prs ns id ns.length) ↔ mget (setsR (prs ns id ns.length)) p.1 = some p.2 := ⟨fun h => mget_of_mem h1 h, mget_some_mem⟩
  have m2 : p ∈ setsR (prs ns (tn ns.length t) ns.length) ↔ mget (setsR (prs ns (tn ns.length t) ns.length)) p.1 = some p.2 := ⟨fun h => mget_of_mem h2 h, mget_some_mem⟩
  rw [m1, m2, e1, e2, mem_prs, mem_prs]
  refine and_congr_left fun _ => ⟨?_, ?_⟩
  · rintro ⟨i, hi, he⟩
    refine ⟨if t ≤ i then i - t else i + ns.length - t, by split <;> omega, ?_⟩
    have : tn ns.length t (if t ≤ i then i - t else i + ns.length - t) = i := by unfold tn; (repeat' split) <;> omega
    rw [this]; exact he
  · rintro ⟨i, hi, he⟩
    exact ⟨tn ns.length t i, tn_lt ht hi, he⟩
theorem sets_memOk {w : World} {A : Option Addr} {ns : List Nt} (hns : NtsAt w A ns) (hu : Unlike ns) (hl : ns.length ≤ 60) {f : Nat → Nat} (hf : ∀ i, i < ns.length → f i < ns.length) (hi : ∀ i j, i < j → j < ns.length → f i ≠ f j) (h1 : ((setsR (prs ns f ns.length)).map Prod.fst).Nodup) : ∀ p ∈ setsR (prs ns f ns.length), RtOk p := fun p hp => by
  have e1 := setsR_get (prs ns f ns.length) (by rw [prs_len]; omega) (prs_nodup hu _ hf hi) (fun q hq => by obtain ⟨i, _, rfl⟩ := mem_prs.1 hq; exact Int.natCast_nonneg _) p.1 p.2
  obtain ⟨i, h3, h4⟩ := mem_prs.1 (e1.1 (mget_of_mem h1 hp)).1
  have h4' : p = (ns.getD (f i) zeroN, (f i : Int)) := h4
  have h5 := hf i h3
  rw [h4']
  exact ⟨(hns _ h5).1, by dsimp only; omega, by dsimp only; omega⟩
/-- Two tables, each in its own blocks. -/
structure Two (w : World) (g t g' t' : Nat) (l l' : Routes) : Prop where
  a : Tb w g t l
  b : Tb w g' t' l'
  n1 : g ≠ t'
  n2 : t ≠ t'
  n3 : g' ≠ t
theorem Two.below {w w' : World} {g t g' t' : Nat} {l l' : Routes} (h : Two w g t g' t' l l') (hB : Below w.heap.size w w') : Two w' g t g' t' l l' := ⟨h.a.below hB, h.b.below hB, h.n1, h.n2, h.n3⟩
theorem Two.left {w w' : World} {g t g' t' : Nat} {l l' m : Routes} (h : Two w g t g' t' l l') (hb : Tb w' g t m) (hk : Kept (· = t) w w') : Two w' g t g' t' m l' := ⟨hb, h.b.kept hk h.n3 (Ne.symm h.n2), h.n1, h.n2, h.n3⟩
theorem Two.right {w w' : World} {g t g' t' : Nat} {l l' m : Routes} (h : Two w g t g' t' l l') (hb : Tb w' g' t' m) (hk : Kept (· = t') w w') : Two w' g t g' t' l m := ⟨h.a.kept hk h.n1 h.n2, hb, h.n1, h.n2, h.n3⟩
set_option maxHeartbeats 3200000 in
theorem order_any (A : Option Addr) (ns : List Nt) (cap t : Nat) {w : World} (hns : NtsAt w A ns) (hlc : ns.length ≤ cap) (h60 : ns.length ≤ 60) (ht : t < ns.length) :
    Calls Try.prog 5 #[.slice A ns.length cap, .int .i64 t] w fun e w' => e = .returned (.bool true) ∧ Below w.heap.size w w' := by
  replace hns := Lib.hid hns
  have q1 : decide ((ns.length : Int) < 1) = false := decide_eq_false (by omega)
  have q2 : decide ((60 : Int) < (ns.length : Int)) = false := decide_eq_false (by omega)
  have q3 : decide ((t : Int) < 0) = false := decide_eq_false (by omega)
  have q4 : decide ((ns.length : Int) ≤ (t : Int)) = false := decide_eq_false (by omega)
  have q5 : decide (ns.length ≤ t) = false := decide_eq_false (by omega)
  go_enter Try.func5, Try.ntmps5
  go_wp2_with (go_at_call 10; (with_reducible refine (routeAlive_any _).mono ?_); rintro e w0 ⟨rfl, hB0⟩)
  go_loopw [33] (fun v wr => ∃ i : Nat, v = .int .i64 i ∧ i ≤ ns.length ∧ (∀ a b, a < b → b < i → ns.getD a zeroN ≠ ns.getD b zeroN) ∧ Below w.heap.size w wr) (fun v _ => ns.length - (intOf v).toNat)
  case atStart => exact ⟨0, rfl, Nat.zero_le _, fun a b _ hb => absurd hb (by omega), hB0⟩
  case round =>
    obtain ⟨i, rfl, hi, hg, hBl⟩ := hrel
    replace hg := Lib.hid hg
    by_cases hil : i < ns.length
    · have hil2 : decide ((i : Int) < (ns.length : Int)) = true := decide_eq_true (by omega)
      have hi1 : (i : Int) < (ns.length : Int) := by omega
      have hi2 : decide ((i : Int) < 0) = false := decide_eq_false (by omega)
      have hi3 : decide ((ns.length : Int) ≤ (i : Int)) = false := decide_eq_false (by omega)
      have hi4 : decide (ns.length ≤ i) = false := decide_eq_false (by omega)
      have hic1 : (i : Int) ≤ (cap : Int) := by omega
      obtain ⟨hok, ad, rfl, hrow⟩ := hns.out i hil
      obtain ⟨x, hx⟩ : ∃ x, ns.getD i zeroN = x := ⟨_, rfl⟩
      rw [hx] at hok hrow
      replace hx := Lib.hid hx
      go_wp2_with (fail)
      go_loopw [40] (fun v wr => ∃ k : Nat, v = .int .i64 k ∧ k ≤ i ∧ (∀ a, a < k → ns.getD a zeroN ≠ ns.getD i zeroN) ∧ Below w.heap.size w wr) (fun v _ => i - (intOf v).toNat)
      case atStart => exact ⟨0, rfl, Nat.zero_le _, fun a ha => absurd ha (by omega), hBl⟩
      case round =>
        obtain ⟨k, rfl, hk, hgk, hBk⟩ := hrel
        replace hgk := Lib.hid hgk
        by_cases hki : k < i
        · have hki2 : decide ((k : Int) < (i : Int)) = true := decide_eq_true (by omega)
          have hk1 : (k : Int) < (ns.length : Int) := by omega
          have hk2 : decide ((k : Int) < 0) = false := decide_eq_false (by omega)
          have hk3 : decide ((ns.length : Int) ≤ (k : Int)) = false := decide_eq_false (by omega)
          have hk4 : decide (ns.length ≤ k) = false := decide_eq_false (by omega)
          obtain ⟨hoky, ad2, hade, hrowy⟩ := hns.out k (by omega)
          obtain rfl := Option.some.inj hade
          obtain ⟨y, hy⟩ : ∃ y, ns.getD k zeroN = y := ⟨_, rfl⟩
          rw [hy] at hoky hrowy
          replace hy := Lib.hid hy
          obtain ⟨b, hb⟩ : ∃ b, eqN (x.1, x.2.1, x.2.2.1, x.2.2.2.1, x.2.2.2.2) (y.1, y.2.1, y.2.2.1, y.2.2.2.1, y.2.2.2.2) = b := ⟨_, rfl⟩
          go_wp2_with (fail)
          refine wp_region_noPanic ?_
          refine wp_region_held_drew (S := fun w' => Below w.heap.size w w') (by kernel_rfl) (bl_drew hBk) (fun hHeld => ?_)
          refine wpAnyH_take (i := 0) (oi := { dst := some 43, op := Go.Op.move (Go.Operand.tmp 0), type := 32, pos := "law.go:120", after := #[], guard := none }) (v := ?_) rfl (by kernel_rfl) (by kernel_rfl) (by kernel_rfl) (fun _ _ _ h => h) (Or.inl ⟨by rfl, ?_⟩) (by assumption) ?_
          rotate_left 1
          · intro w' hSw
            first | (go_simp; done) | (go_simp; with_reducible rfl)
          try simp only [Act.put, List.getElem_toArray, List.getElem_cons_succ, List.getElem_cons_zero, List.setIfInBounds_toArray, List.set_cons_zero, List.set_cons_succ]
          refine wpAnyH_take (i := 1) (oi := { dst := some 44, op := Go.Op.move (Go.Operand.tmp 5), type := 3, pos := "law.go:120", after := #[], guard := none }) (v := ?_) rfl (by kernel_rfl) (by kernel_rfl) (by kernel_rfl) (fun _ _ _ h => h) (Or.inl ⟨by rfl, ?_⟩) (by assumption) ?_
          rotate_left 1
          · intro w' hSw
            first | (go_simp; done) | (go_simp; with_reducible rfl)
          try simp only [Act.put, List.getElem_toArray, List.getElem_cons_succ, List.getElem_cons_zero, List.setIfInBounds_toArray, List.set_cons_zero, List.set_cons_succ]
          refine wpAnyH_take (i := 2) (oi := { dst := some 45, op := Go.Op.indexAddr 32 (Go.Operand.tmp 43) (Go.Operand.tmp 44), type := 0, pos := "law.go:120", after := #[{ on := 0, ground := Go.Ground.data }, { on := 1, ground := Go.Ground.data }], guard := none }) (v := ?_) rfl (by kernel_rfl) (by kernel_rfl) (by kernel_rfl) (fun _ _ _ h => h) (Or.inl ⟨by rfl, ?_⟩) (by assumption) ?_
          rotate_left 1
          · intro w' hSw
            first | (go_simp; done) | (go_simp; with_reducible rfl)
          try simp only [Act.put, List.getElem_toArray, List.getElem_cons_succ, List.getElem_cons_zero, List.setIfInBounds_toArray, List.set_cons_zero, List.set_cons_succ]
          refine wpAnyH_take (i := 3) (oi := { dst := some 46, op := Go.Op.load 29 (Go.Operand.tmp 45), type := 29, pos := "law.go:120", after := #[{ on := 2, ground := Go.Ground.data }], guard := none }) (v := ?_) rfl (by kernel_rfl) (by kernel_rfl) (by kernel_rfl) (fun _ _ _ h => h) (Or.inl ⟨by rfl, ?_⟩) (by assumption) ?_
          rotate_left 1
          · intro w' hSw
            obtain ⟨c0, c1, c2, c3, c4⟩ := nt_cellsAt (hrow.far hSw)
            first | (go_simp; done) | (go_simp; with_reducible rfl)
          try simp only [Act.put, List.getElem_toArray, List.getElem_cons_succ, List.getElem_cons_zero, List.setIfInBounds_toArray, List.set_cons_zero, List.set_cons_succ]
          refine wpAnyH_take (i := 4) (oi := { dst := some 47, op := Go.Op.move (Go.Operand.tmp 0), type := 32, pos := "law.go:120", after := #[], guard := none }) (v := ?_) rfl (by kernel_rfl) (by kernel_rfl) (by kernel_rfl) (fun _ _ _ h => h) (Or.inl ⟨by rfl, ?_⟩) (by assumption) ?_
          rotate_left 1
          · intro w' hSw
            first | (go_simp; done) | (go_simp; with_reducible rfl)
          try simp only [Act.put, List.getElem_toArray, List.getElem_cons_succ, List.getElem_cons_zero, List.setIfInBounds_toArray, List.set_cons_zero, List.set_cons_succ]
          refine wpAnyH_take (i := 5) (oi := { dst := some 48, op := Go.Op.move (Go.Operand.tmp 6), type := 3, pos := "law.go:120", after := #[], guard := none }) (v := ?_) rfl (by kernel_rfl) (by kernel_rfl) (by kernel_rfl) (fun _ _ _ h => h) (Or.inl ⟨by rfl, ?_⟩) (by assumption) ?_
          rotate_left 1
          · intro w' hSw
            first | (go_simp; done) | (go_simp; with_reducible rfl)
          try simp only [Act.put, List.getElem_toArray, List.getElem_cons_succ, List.getElem_cons_zero, List.setIfInBounds_toArray, List.set_cons_zero, List.set_cons_succ]
          refine wpAnyH_take (i := 6) (oi := { dst := some 49, op := Go.Op.indexAddr 32 (Go.Operand.tmp 47) (Go.Operand.tmp 48), type := 0, pos := "law.go:120", after := #[{ on := 4, ground := Go.Ground.data }, { on := 5, ground := Go.Ground.data }], guard := none }) (v := ?_) rfl (by kernel_rfl) (by kernel_rfl) (by kernel_rfl) (fun _ _ _ h => h) (Or.inl ⟨by rfl, ?_⟩) (by assumption) ?_
          rotate_left 1
          · intro w' hSw
            first | (go_simp; done) | (go_simp; with_reducible rfl)
          try simp only [Act.put, List.getElem_toArray, List.getElem_cons_succ, List.getElem_cons_zero, List.setIfInBounds_toArray, List.set_cons_zero, List.set_cons_succ]
          refine wpAnyH_take (i := 7) (oi := { dst := some 50, op := Go.Op.load 29 (Go.Operand.tmp 49), type := 29, pos := "law.go:120", after := #[{ on := 6, ground := Go.Ground.data }], guard := none }) (v := ?_) rfl (by kernel_rfl) (by kernel_rfl) (by kernel_rfl) (fun _ _ _ h => h) (Or.inl ⟨by rfl, ?_⟩) (by assumption) ?_
          rotate_left 1
          · intro w' hSw
            obtain ⟨c0, c1, c2, c3, c4⟩ := nt_cellsAt (hrowy.far hSw)
            first | (go_simp; done) | (go_simp; with_reducible rfl)
          try simp only [Act.put, List.getElem_toArray, List.getElem_cons_succ, List.getElem_cons_zero, List.setIfInBounds_toArray, List.set_cons_zero, List.set_cons_succ]
          refine wpAnyH_take (i := 8) (oi := { dst := some 51, op := Go.Op.binOp Go.BinOp.eql 29 (Go.Operand.tmp 46) (Go.Operand.tmp 50) 29, type := 4, pos := "law.go:120", after := #[{ on := 3, ground := Go.Ground.data }, { on := 7, ground := Go.Ground.data }], guard := none }) (v := ?_) rfl (by kernel_rfl) (by kernel_rfl) (by kernel_rfl) (fun _ _ _ h => h) (Or.inl ⟨by rfl, ?_⟩) (by assumption) ?_
          rotate_left 1
          · intro w' hSw
            first | (go_simp; done) | (go_simp; with_reducible rfl)
          try simp only [Act.put, List.getElem_toArray, List.getElem_cons_succ, List.getElem_cons_zero, List.setIfInBounds_toArray, List.set_cons_zero, List.set_cons_succ]
          refine wpAnyH_done (by kernel_rfl) ?_ _
          refine NoPanic.normal ?_
          cases b with
          | true =>
            go_wp2
            go_ret
            exact ⟨rfl, bl_drew hBk⟩
          | false =>
            have hne : ns.getD k zeroN ≠ ns.getD i zeroN := fun e => by
              rw [hy.out, hx.out] at e
              rw [eqN_iff.2 e.symm] at hb
              cases hb
            replace hne := Lib.hid hne
            go_wp2
            refine ⟨⟨k + 1, by first | rfl | (congr 1; omega), by omega, fun a ha => ?_, bl_drew hBk⟩, by simp [intOf]; omega⟩
            rcases Nat.lt_or_ge a k with h | h
            · exact hgk.out a h
            · obtain rfl : a = k := by omega
              exact hne.out
        · have hki2 : decide ((k : Int) < (i : Int)) = false := decide_eq_false (by omega)
          have hki3 : k = i := by omega
          have hgi : ∀ a, a < i → ns.getD a zeroN ≠ ns.getD i zeroN := fun a ha => hgk.out a (by omega)
          clear hki3
          replace hgi := Lib.hid hgi
          go_wp2
          refine ⟨⟨i + 1, by first | rfl | (congr 1; omega), by omega, fun a b hab hb => ?_, hBk⟩, by simp [intOf]; omega⟩
          rcases Nat.lt_or_ge b i with h | h
          · exact hg.out a b hab h
          · obtain rfl : b = i := by omega
            exact hgi.out a hab
    · have hil2 : decide ((i : Int) < (ns.length : Int)) = false := decide_eq_false (by omega)
      have hu : Unlike ns := fun a b hab hb => hg.out a b hab (by omega)
      replace hu := Lib.hid hu
      go_wp2_with (fail)
      refine (tnew_any _).mono ?_; rintro e w1 ⟨g, b, rfl, k1, hg1, hb1, hB1⟩
      go_wp2_with (fail)
      refine (tnew_any _).mono ?_; rintro e w2 ⟨g2, b2, rfl, k2, hg2, hb2, hB2⟩
      have hgl := bk_lt k1.1
      have hbl := Mp.lt k1.2
      have h2 : Two w2 g b g2 b2 (setsR (prs ns id 0)) (setsR (prs ns (tn ns.length t) 0)) := ⟨k1.below hB2, k2, by omega, by omega, by omega⟩
      have hBw := bl_then (bl_then hBl hB1) hB2
      have hsz := hBl.size
      have hbw : w.heap.size ≤ b := by omega
      have hbw2 : w.heap.size ≤ b2 := by have := hB1.size; omega
      clear hg1 hb1 hg2 hb2 hgl hbl k1 k2 hB1 hB2 hsz
      replace hBw := Lib.hid hBw
      replace h2 := Lib.hid h2
      go_wp2_with (fail)
      go_loopw [58] (fun v wr => ∃ i : Nat, v = .int .i64 i ∧ i ≤ ns.length ∧ Two wr g b g2 b2 (setsR (prs ns id i)) (setsR (prs ns (tn ns.length t) i)) ∧ Below w.heap.size w wr) (fun v _ => ns.length - (intOf v).toNat)
      case atStart => exact ⟨0, rfl, Nat.zero_le _, h2.out, hBw.out⟩
      case round =>
        obtain ⟨i, rfl, hi, hT, hBr⟩ := hrel
        by_cases hil : i < ns.length
        · have hil2 : decide ((i : Int) < (ns.length : Int)) = true := decide_eq_true (by omega)
          have hi1 : (i : Int) < (ns.length : Int) := by omega
          have hi2 : decide ((i : Int) < 0) = false := decide_eq_false (by omega)
          have hi3 : decide ((ns.length : Int) ≤ (i : Int)) = false := decide_eq_false (by omega)
          have hi4 : decide (ns.length ≤ i) = false := decide_eq_false (by omega)
          obtain ⟨hok, ad, rfl, hrow⟩ := hns.out i hil
          obtain ⟨x, hx⟩ : ∃ x, ns.getD i zeroN = x := ⟨_, rfl⟩
          rw [hx] at hok hrow
          have hS1 : setL (setsR (prs ns id i)) (x.1, x.2.1, x.2.2.1, x.2.2.2.1, x.2.2.2.2) (i : Int) = setsR (prs ns id (i + 1)) := by rw [← hx]; rfl
          obtain ⟨K, hK⟩ : ∃ K, tn ns.length t i = K := ⟨_, rfl⟩
          have hKl : K < ns.length := hK ▸ tn_lt ht hil
          obtain ⟨hok2, ad2, hade, hrow2⟩ := hns.out K hKl
          obtain rfl := Option.some.inj hade
          obtain ⟨y, hy⟩ : ∃ y, ns.getD K zeroN = y := ⟨_, rfl⟩
          rw [hy] at hok2 hrow2
          have hS2 : setL (setsR (prs ns (tn ns.length t) i)) (y.1, y.2.1, y.2.2.1, y.2.2.2.1, y.2.2.2.2) (K : Int) = setsR (prs ns (tn ns.length t) (i + 1)) := by rw [← hy, ← hK]; rfl
          have hK1 : (K : Int) < (ns.length : Int) := by omega
          have hK2 : decide ((K : Int) < 0) = false := decide_eq_false (by omega)
          have hK3 : decide ((ns.length : Int) ≤ (K : Int)) = false := decide_eq_false (by omega)
          have hK4 : decide (ns.length ≤ K) = false := decide_eq_false (by omega)
          replace hS1 := Lib.hid hS1
          replace hS2 := Lib.hid hS2
          replace hx := Lib.hid hx
          replace hy := Lib.hid hy
          obtain ⟨c0, c1, c2, c3, c4⟩ := nt_cellsAt (hrow.far hBr)
          have hT' := Lib.hid hT
          clear hT
          by_cases hsum : ns.length ≤ i + t
          · have hKe : i + t - ns.length = K := by rw [← hK]; unfold tn; rw [if_pos hsum]
            replace hK := Lib.hid hK
            obtain ⟨s, hs⟩ : ∃ s, s = i + t := ⟨_, rfl⟩
            have hs1 : (i : Int) + (t : Int) = (s : Int) := by omega
            have hs2 : (s : Int) - (ns.length : Int) = (K : Int) := by omega
            have hs3 : decide ((ns.length : Int) ≤ (s : Int)) = true := decide_eq_true (by omega)
            have hs4 : decide (ns.length ≤ s) = true := decide_eq_true (by omega)
            have hs5 : s ≤ 120 := by omega
            clear hs
            go_wp2_with (fail)
            refine (set_at (a := x.1) (b := x.2.1) (c := x.2.2.1) (d := x.2.2.2.1) (n := x.2.2.2.2) hT'.out.a hok ⟨hS1.out, rfl⟩).mono ?_; rintro e w3 ⟨rfl, k3, hK9⟩
            have hT3 := hT'.out.left k3 hK9
            have hBa := Kept.bl hBr hK9 (fun j e => by subst e; exact hbw)
            obtain ⟨c0, c1, c2, c3, c4⟩ := nt_cellsAt (hrow2.far hBa)
            replace hT3 := Lib.hid hT3
            clear hT' k3 hK9
            go_wp2_with (fail)
            refine (set_at (a := y.1) (b := y.2.1) (c := y.2.2.1) (d := y.2.2.2.1) (n := y.2.2.2.2) hT3.out.b hok2 ⟨hS2.out, rfl⟩).mono ?_; rintro e w4 ⟨rfl, k4, hK9⟩
            have hT4 := hT3.out.right k4 hK9
            have hBb := Kept.bl hBa hK9 (fun j e => by subst e; exact hbw2)
            replace hT4 := Lib.hid hT4
            clear hT3 k4 hK9
            go_wp2
            exact ⟨⟨i + 1, by first | rfl | (congr 1; omega), by omega, hT4.out, hBb⟩, by simp [intOf]; omega⟩
          · have hKe : i + t = K := by rw [← hK]; unfold tn; rw [if_neg hsum]
            replace hK := Lib.hid hK
            have hs1 : (i : Int) + (t : Int) = (K : Int) := by omega
            clear hKe hsum
            go_wp2_with (fail)
            refine (set_at (a := x.1) (b := x.2.1) (c := x.2.2.1) (d := x.2.2.2.1) (n := x.2.2.2.2) hT'.out.a hok ⟨hS1.out, rfl⟩).mono ?_; rintro e w3 ⟨rfl, k3, hK9⟩
            have hT3 := hT'.out.left k3 hK9
            have hBa := Kept.bl hBr hK9 (fun j e => by subst e; exact hbw)
            obtain ⟨c0, c1, c2, c3, c4⟩ := nt_cellsAt (hrow2.far hBa)
            replace hT3 := Lib.hid hT3
            clear hT' k3 hK9
            go_wp2_with (fail)
            refine (set_at (a := y.1) (b := y.2.1) (c := y.2.2.1) (d := y.2.2.2.1) (n := y.2.2.2.2) hT3.out.b hok2 ⟨hS2.out, rfl⟩).mono ?_; rintro e w4 ⟨rfl, k4, hK9⟩
            have hT4 := hT3.out.right k4 hK9
            have hBb := Kept.bl hBa hK9 (fun j e => by subst e; exact hbw2)
            replace hT4 := Lib.hid hT4
            clear hT3 k4 hK9
            go_wp2
            exact ⟨⟨i + 1, by first | rfl | (congr 1; omega), by omega, hT4.out, hBb⟩, by simp [intOf]; omega⟩
        · have hil2 : decide ((i : Int) < (ns.length : Int)) = false := decide_eq_false (by omega)
          obtain rfl : i = ns.length := by omega
          have hn1 := Mp.nodup hT.a.2
          have hn2 := Mp.nodup hT.b.2
          have hm := turn_same hu.out h60 ht hn1 hn2
          have ho1 := sets_memOk hns.out hu.out h60 (f := id) (fun i h => h) (fun i j h _ => by show i ≠ j; omega) hn1
          have ho2 := sets_memOk hns.out hu.out h60 (f := tn ns.length t) (fun i h => tn_lt ht h) (fun i j h h' => by unfold tn; (repeat' split) <;> omega) hn2
          have hl1 : (setsR (prs ns id ns.length)).length ≤ 1000 := by have h1 := setsR_len (prs ns id ns.length); rw [prs_len] at h1; omega
          have hl2 : (setsR (prs ns (tn ns.length t) ns.length)).length ≤ 1000 := by have h1 := setsR_len (prs ns (tn ns.length t) ns.length); rw [prs_len] at h1; omega
          obtain ⟨L, hL⟩ : ∃ L, setsR (prs ns id ns.length) = L := ⟨_, rfl⟩
          obtain ⟨M, hM⟩ : ∃ M, setsR (prs ns (tn ns.length t) ns.length) = M := ⟨_, rfl⟩
          rw [hL, hM] at hT hm
          rw [hL] at hn1 ho1 hl1
          rw [hM] at hn2 ho2 hl2
          clear hL hM
          replace hT := Lib.hid hT
          replace hm := Lib.hid hm
          replace ho1 := Lib.hid ho1
          replace ho2 := Lib.hid ho2
          go_wp2_with (fail)
          refine (tlist_any hT.out.a (fun x hx => (ho1.out x hx).1) hl1).mono ?_; rintro e w3 ⟨B1, c1, d1, rfl, hr1, hd1, hp1, hB3⟩
          have hT3 := hT.out.b.below hB3
          have hBa := bl_then hBr hB3
          have hda : ∀ x ∈ d1, RtOk x := fun x hx => ho1.out x (hp1.mem_iff.1 hx)
          have hla : d1.length ≤ 1000 := by rw [hp1.length_eq]; exact hl1
          replace hT3 := Lib.hid hT3
          replace hr1 := Lib.hid hr1
          replace hda := Lib.hid hda
          go_wp2_with (fail)
          refine (tlist_any hT3.out (fun x hx => (ho2.out x hx).1) hl2).mono ?_; rintro e w4 ⟨B2, c2, d2, rfl, hr2, hd2, hp2, hB4⟩
          have hBb := bl_then hBa hB4
          have hdb : ∀ x ∈ d2, RtOk x := fun x hx => ho2.out x (hp2.mem_iff.1 hx)
          have hr3 := hr1.out.below hB4
          have heq : d1 = d2 := ordered_eq d1 d2 hd1 hd2 (fun x => by rw [hp1.mem_iff, hp2.mem_iff]; exact hm.out x)
          replace hr2 := Lib.hid hr2
          replace hr3 := Lib.hid hr3
          replace hdb := Lib.hid hdb
          replace heq := Lib.hid heq
          go_wp2_with (fail)
          refine (same_any B1 B2 c1 c2 d1 d2 _ hr3.out hr2.out hda.out hdb.out hla).mono ?_
          rw [decide_eq_true heq.out]
          rintro e w5 ⟨rfl, hB5⟩
          go_wp2
          go_ret
          exact ⟨rfl, bl_then hBb hB5⟩
set_option maxHeartbeats 1600000 in
theorem routeOrder_walk (A : Option Addr) (len cap : Nat) {w : World} (hz : IsFlat [.i .u8, .i .u8, .i .u8, .i .u8, .i .i64] w A len cap) (turn : Int) (hturn : -9223372036854775808 ≤ turn ∧ turn ≤ 9223372036854775807) :
    Calls Try.prog 5 #[.slice A len cap, .int .i64 turn] w fun e w' => e = .returned (.bool true) ∧ Below w.heap.size w w' := by
  have hlc : len ≤ cap := by rcases hz with ⟨_, rfl, h⟩ | ⟨x, rfl, hl, hm, hx⟩ <;> omega
  obtain ⟨ns, rfl, hns⟩ := nts_of hz
  clear hz
  replace hns := Lib.hid hns
  by_cases h1 : ns.length < 1
  · have q1 : decide ((ns.length : Int) < 1) = true := decide_eq_true (by omega)
    have h0 : ns.length = 0 := by omega
    obtain ⟨n, hn⟩ : ∃ n, ns.length = n := ⟨_, rfl⟩
    rw [hn] at h0 h1 hlc q1 ⊢
    subst h0
    go_enter Try.func5, Try.ntmps5
    go_wp2_with (go_at_call 10; (with_reducible refine (routeAlive_any _).mono ?_); rintro e w0 ⟨rfl, hB0⟩)
    go_ret
    exact ⟨rfl, hB0⟩
  have q1 : decide ((ns.length : Int) < 1) = false := decide_eq_false (by omega)
  by_cases h2 : 60 < ns.length
  · have q2 : decide ((60 : Int) < (ns.length : Int)) = true := decide_eq_true (by omega)
    go_enter Try.func5, Try.ntmps5
    go_wp2_with (go_at_call 10; (with_reducible refine (routeAlive_any _).mono ?_); rintro e w0 ⟨rfl, hB0⟩)
    go_ret
    exact ⟨rfl, hB0⟩
  have q2 : decide ((60 : Int) < (ns.length : Int)) = false := decide_eq_false (by omega)
  by_cases h3 : turn < 0
  · have q3 : decide (turn < 0) = true := decide_eq_true h3
    go_enter Try.func5, Try.ntmps5
    go_wp2_with (go_at_call 10; (with_reducible refine (routeAlive_any _).mono ?_); rintro e w0 ⟨rfl, hB0⟩)
    go_ret
    exact ⟨rfl, hB0⟩
  have q3 : decide (turn < 0) = false := decide_eq_false h3
  by_cases h4 : (ns.length : Int) ≤ turn
  · have q4 : decide ((ns.length : Int) ≤ turn) = true := decide_eq_true h4
    go_enter Try.func5, Try.ntmps5
    go_wp2_with (go_at_call 10; (with_reducible refine (routeAlive_any _).mono ?_); rintro e w0 ⟨rfl, hB0⟩)
    go_ret
    exact ⟨rfl, hB0⟩
  obtain ⟨t, rfl⟩ : ∃ t : Nat, turn = (t : Int) := ⟨turn.toNat, by omega⟩
  exact order_any A ns cap t hns.out hlc (by omega) (by omega)
end Go.Proofs.Ytebeknnjjoobnaa
