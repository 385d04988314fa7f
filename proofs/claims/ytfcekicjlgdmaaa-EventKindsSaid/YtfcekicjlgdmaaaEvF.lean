/- Contract: the event of any bytes. Contract: the event of any bytes, whole. Contract: the event of any bytes: a lease. Contract: the event of any bytes: a commit; all kinds. -/
import Derived.Test.YtfcekicjlgdmaaaEvE
set_option linter.unusedVariables false
set_option linter.unusedSimpArgs false
set_option maxRecDepth 100000
namespace Go.Proofs.Ytfcekicjlgdmaaa
open Go.RowKit Go.Shelf Go.Proofs.YtfcekicjlgdmaaaW.PrintWords
attribute [local go_sem] max2_int min2_int max_two min_two

/-- These numbers are no event's. -/
def NoEv (L : List Int) : Prop := ∀ (k s g p : Int) (ps : List Pol) (ds : List Int), RightE k s g p ps ds → OkAll ps → L ≠ evNums k s g p ps ds
def NoBytes (xs : List Int) : Prop := ∀ (k s g p : Int) (ps : List Pol) (ds : List Int), RightE k s g p ps ds → OkAll ps → xs ≠ encL (evNums k s g p ps ds)
def ReadPost (xs : List Int) (w : World) (e : Ending) (w' : World) : Prop :=
  (∃ (k s g p : Int) (ps : List Pol) (ds : List Int) (A1 A2 : Option Addr) (c1 c2 : Nat), e = .returned (.tuple #[.agg #[.int .i64 k, .int .i64 s, .slice A1 ps.length c1, .slice A2 ds.length c2, .int .u64 g, .int .u64 p], .int .i64 0]) ∧ RightE k s g p ps ds ∧ OkAll ps ∧ xs = encL (evNums k s g p ps ds) ∧ w'.ownsRow w.heap.size 28 13 (.slice A1 ps.length c1) ps.length (rows ps) ∧ w'.ownsRow w.heap.size 3 1 (.slice A2 ds.length c2) ds.length (nums .i64 ds) ∧ Below w.heap.size w w') ∨
  (NoBytes xs ∧ e = .returned (.tuple #[.agg #[.int .i64 0, .int .i64 0, .slice none 0 0, .slice none 0 0, .int .u64 0, .int .u64 0], .int .i64 121]) ∧ Below w.heap.size w w')
theorem noBytes_err {xs : List Int} (h : allV xs = ([], 21)) : NoBytes xs := fun k s g p ps ds hR ho e => by
  have := allV_ok (xs := xs) (l := evNums k s g p ps ds) ⟨evNums_u64 hR ho, by have := (evNums_len hR ho).2; omega, e⟩
  rw [h] at this
  have := congrArg Prod.snd this
  simp at this
theorem NoEv.bytes {xs L : List Int} (h : NoEv L) (hg : GoodL xs L) : NoBytes xs := fun k s g p ps ds hR ho e => h k s g p ps ds hR ho (encL_inj hg.1 (evNums_u64 hR ho) (hg.2.2.symm.trans e))
theorem noEv_short {L : List Int} (h : L.length ≤ 1) : NoEv L := fun k s g p ps ds hR ho e => by
  have := (evNums_len hR ho).1
  rw [← e] at this
  omega
theorem evNums_head {k s g p : Int} {ps : List Pol} {ds : List Int} (h : RightE k s g p ps ds) : (k = 1 ∨ k = 2 ∨ k = 3) ∧ ∃ t, evNums k s g p ps ds = k :: t := by
  rcases h with ⟨rfl, _⟩ | ⟨rfl, _⟩ | ⟨rfl, _⟩
  · exact ⟨.inl rfl, _, evNums_1 ..⟩
  · exact ⟨.inr (.inl rfl), _, evNums_2 ..⟩
  · exact ⟨.inr (.inr rfl), _, evNums_3 ..⟩
theorem noEv_kind {a : Int} {t : List Int} (h1 : a ≠ 1) (h2 : a ≠ 2) (h3 : a ≠ 3) : NoEv (a :: t) := fun k s g p ps ds hR ho e => by
  obtain ⟨hk, t', ht⟩ := evNums_head hR
  rw [ht] at e
  injection e with e1 _
  omega
theorem noEv_two {t : List Int} (h : t.length ≠ 2) : NoEv (2 :: t) := fun k s g p ps ds hR ho e => by
  obtain ⟨hk, t', ht⟩ := evNums_head hR
  have e' := e
  rw [ht] at e'
  injection e' with e1 _
  subst e1
  rw [evNums_2] at e
  injection e with _ e2
  rw [e2] at h
  simp at h
theorem noEv_three {t : List Int} (h : t.length ≠ 1) : NoEv (3 :: t) := fun k s g p ps ds hR ho e => by
  obtain ⟨hk, t', ht⟩ := evNums_head hR
  have e' := e
  rw [ht] at e'
  injection e' with e1 _
  subst e1
  rw [evNums_3] at e
  injection e with _ e2
  rw [e2] at h
  simp at h
theorem noEv_big {b c : Int} (h : 255 < b) : NoEv [2, b, c] := fun k s g p ps ds hR ho e => by
  rcases hR with ⟨rfl, _⟩ | ⟨rfl, h2, _⟩ | ⟨rfl, _⟩
  · rw [evNums_1] at e; injection e with e1 _; omega
  · rw [evNums_2] at e; injection e with _ e2; injection e2 with e3 _; omega
  · rw [evNums_3] at e; injection e with e1 _; omega
theorem noEv_commit {t : List Int} (h : ∀ (ps : List Pol) (ds : List Int), Rts ps → (∀ d ∈ ds, d ≤ 9223372036854775807) → t ≠ (ds.length : Int) :: (ds ++ flatN ps)) : NoEv (1 :: t) := fun k s g p ps ds hR ho e => by
  rcases hR with ⟨rfl, _, _, _, h5, h6, _⟩ | ⟨rfl, _⟩ | ⟨rfl, _⟩
  · rw [evNums_1] at e
    injection e with _ e2
    exact h ps ds (rts_of h5 ho) (fun d hd => by have := (drops_mem h6).2 d hd; omega) e2
  · rw [evNums_2] at e; injection e with e1 _; omega
  · rw [evNums_3] at e; injection e with e1 _; omega
theorem noEv_shape {k s g p : Int} {ps : List Pol} {ds : List Int} (hs : ShapeE k s g p ps ds) (h : ¬ RightE k s g p ps ds) : NoEv (evNums k s g p ps ds) := fun k' s' g' p' ps' ds' hR ho e => by
  obtain ⟨rfl, rfl, rfl, rfl, rfl, rfl⟩ := evNums_inj hs (hR.shape ho) e
  exact h hR
theorem own_capm {w : World} {base n m c size : Nat} {e : TypeId} {A : Option Addr} {xs : List Value} (h : w.ownsRow base e size (.slice A m c) n xs) : c ≤ 9223372036854775807 := by
  rcases h.2 with ⟨he, _⟩ | ⟨g, cap, cur, he, _, _, _, h1, _⟩
  · injection he with _ _ h3
    omega
  · injection he with _ _ h3
    simp only [maxLen] at h1
    omega
theorem rd_0 {w : World} {k : IntKind} {ad : Addr} {n : Nat} {xs : List Int} (h : ReadsInt w k (some ad) n xs) (hn : 0 < n) {a : Int} (ha : xs.getD 0 0 = a) : w.cell? ad = some (.int k a) := by
  obtain ⟨ad', e, hc⟩ := h.2.2 hn
  obtain rfl := Option.some.inj e
  have := hc 0 hn
  rw [ha] at this
  simpa [Addr.add] using this
theorem rd_j {w : World} {k : IntKind} {ad : Addr} {n : Nat} {xs : List Int} (h : ReadsInt w k (some ad) n xs) {j : Nat} (hn : j < n) (hj : j ≠ 0) {a : Int} (ha : xs.getD j 0 = a) : w.cell? ⟨ad.block, ad.off + j, none⟩ = some (.int k a) := by
  obtain ⟨ad', e, hc⟩ := h.2.2 (by omega)
  obtain rfl := Option.some.inj e
  have := hc j hn
  rw [ha, ad_pos ad hj] at this
  exact this
theorem res_read {w : World} {g : Nat} {v0 v1 v2 v3 v4 v5 : Value} {c : Int} {t : TypeId} (h : Bk w g #[v0, v1, v2, v3, v4, v5] t) (tmps : Array Value) (h2 : tmps[2]?.getD undef = .pointer (some ⟨g, 0, none⟩)) (h3 : tmps[3]?.getD undef = .int .i64 c) :
    (results Try.f26 tmps).run Try.prog w = .ok (.tuple #[.agg #[v0, v1, v2, v3, v4, v5], .int .i64 c]) w := by
  obtain ⟨z0, z1, z2, z3, z4, z5, _⟩ := cells6 h
  simp [results, Try.results26, go_sem, h2, h3, z0, z1, z2, z3, z4, z5]
theorem eright_zero (k s g p : Int) (W : World) : Calls Try.prog 30 #[.agg #[.int .i64 k, .int .i64 s, .slice none 0 0, .slice none 0 0, .int .u64 g, .int .u64 p]] W fun e w' => e = .returned (.bool (rightE k s g p [] [])) ∧ Below W.heap.size W w' :=
  eright_any k s g p none none 0 0 [] [] W (polsAt_none W) (ints_none W .i64) (by simp) (by simp) (by simp) (by simp)
set_option maxHeartbeats 3200000 in
theorem eread_err (A : Option Addr) (cap : Nat) (xs : List Int) (w : World) (hr : ReadsInt w .u8 A xs.length xs) (hcap : xs.length ≤ cap) (hcm : cap ≤ 9223372036854775807) (hb : ∀ x ∈ xs, 0 ≤ x ∧ x ≤ 255) (hv : allV xs = ([], 21)) :
    Calls Try.prog 26 #[.slice A xs.length cap] w (ReadPost xs w) := by
  have hx2 := bk_new w #[.int .i64 0, .int .i64 0, .slice none 0 0, .slice none 0 0, .int .u64 0, .int .u64 0] 53
  have hB0 := bl_alloc (Below.refl _ w) (.cells #[.int .i64 0, .int .i64 0, .slice none 0 0, .slice none 0 0, .int .u64 0, .int .u64 0] 53)
  have hr0 := hr.below hB0
  have hall := fun W hW => all_any A cap xs W hW hcap hcm hb
  unfold MakesAll at hall
  rw [hv] at hall
  have hno := noBytes_err hv
  dsimp only [List.length_nil] at hall
  replace hx2 := Lib.hid hx2
  replace hB0 := Lib.hid hB0
  replace hr0 := Lib.hid hr0
  replace hall := Lib.hid hall
  clear hr hb
  go_enter Try.func26, Try.ntmps26
  go_wp2_with (first | (go_at_call 46; (with_reducible refine (hall.out _ hr0.out).mono ?_); rintro e w1 ⟨v1, rfl, ho1, hq1⟩; obtain ⟨Al, cl, rfl, hrl⟩ := own_reads ho1; have hB1 := bl_then hB0.out hq1; have j2 := bk_below hq1 hx2.out; obtain ⟨x0, x1, x2, x3, x4, x5, xf0, xf1, xf2, xf3, xf4, xf5⟩ := cells6 j2))
  exact bodyPost_ret (res_read (bk_set6 j2) _ rfl rfl) rfl (.inr ⟨hno, rfl, bl_set6 hB1 (Nat.le_refl _)⟩)
set_option maxHeartbeats 3200000 in
theorem eread_nil (A : Option Addr) (cap : Nat) (xs : List Int) (w : World) (hr : ReadsInt w .u8 A xs.length xs) (hcap : xs.length ≤ cap) (hcm : cap ≤ 9223372036854775807) (hb : ∀ x ∈ xs, 0 ≤ x ∧ x ≤ 255) (hv : allV xs = ([], 0)) (hg : GoodL xs []) :
    Calls Try.prog 26 #[.slice A xs.length cap] w (ReadPost xs w) := by
  have hx2 := bk_new w #[.int .i64 0, .int .i64 0, .slice none 0 0, .slice none 0 0, .int .u64 0, .int .u64 0] 53
  have hB0 := bl_alloc (Below.refl _ w) (.cells #[.int .i64 0, .int .i64 0, .slice none 0 0, .slice none 0 0, .int .u64 0, .int .u64 0] 53)
  have hr0 := hr.below hB0
  have hall := fun W hW => all_any A cap xs W hW hcap hcm hb
  unfold MakesAll at hall
  rw [hv] at hall
  have hno := (noEv_short (L := []) (by simp)).bytes hg
  dsimp only [List.length_nil] at hall
  replace hx2 := Lib.hid hx2
  replace hB0 := Lib.hid hB0
  replace hr0 := Lib.hid hr0
  replace hall := Lib.hid hall
  clear hr hb
  go_enter Try.func26, Try.ntmps26
  go_wp2_with (first | (go_at_call 46; (with_reducible refine (hall.out _ hr0.out).mono ?_); rintro e w1 ⟨v1, rfl, ho1, hq1⟩; obtain ⟨Al, cl, rfl, hrl⟩ := own_reads ho1; have hB1 := bl_then hB0.out hq1; have j2 := bk_below hq1 hx2.out; obtain ⟨x0, x1, x2, x3, x4, x5, xf0, xf1, xf2, xf3, xf4, xf5⟩ := cells6 j2))
  exact bodyPost_ret (res_read (bk_set6 j2) _ rfl rfl) rfl (.inr ⟨hno, rfl, bl_set6 hB1 (Nat.le_refl _)⟩)
set_option maxHeartbeats 3200000 in
theorem eread_other (A : Option Addr) (cap : Nat) (xs : List Int) (w : World) (hr : ReadsInt w .u8 A xs.length xs) (hcap : xs.length ≤ cap) (hcm : cap ≤ 9223372036854775807) (hb : ∀ x ∈ xs, 0 ≤ x ∧ x ≤ 255) (a : Int) (t : List Int) (q : Nat) (hq : t.length = q) (hv : allV xs = (a :: t, 0)) (hg : GoodL xs (a :: t)) (h1 : a ≠ 1) (h2 : a ≠ 2) (h3 : a ≠ 3) :
    Calls Try.prog 26 #[.slice A xs.length cap] w (ReadPost xs w) := by
  have hx2 := bk_new w #[.int .i64 0, .int .i64 0, .slice none 0 0, .slice none 0 0, .int .u64 0, .int .u64 0] 53
  have hB0 := bl_alloc (Below.refl _ w) (.cells #[.int .i64 0, .int .i64 0, .slice none 0 0, .slice none 0 0, .int .u64 0, .int .u64 0] 53)
  have hr0 := hr.below hB0
  have hall := fun W hW => all_any A cap xs W hW hcap hcm hb
  unfold MakesAll at hall
  have hno := (noEv_kind (t := t) h1 h2 h3).bytes hg
  rw [hv] at hall
  obtain ⟨L, hL⟩ : ∃ L, a :: t = L := ⟨_, rfl⟩
  have hLl : L.length = q + 1 := by rw [← hL, List.length_cons, hq]
  have hL0 : L.getD 0 0 = a := by rw [← hL]; rfl
  rw [hL] at hall
  dsimp only at hall
  rw [hLl] at hall
  replace hL := Lib.hid hL
  replace hLl := Lib.hid hLl
  replace hL0 := Lib.hid hL0
  have hq7 : ((q : Int) + 1 == 0) = false := beq_eq_false_iff_ne.2 (by omega)
  have hq6 : decide ((q : Int) + 1 = 0) = false := decide_eq_false (by omega)
  have e1 : (a == 1) = false := beq_eq_false_iff_ne.2 h1
  have f1 : decide (a = 1) = false := decide_eq_false h1
  have e2 : (a == 2) = false := beq_eq_false_iff_ne.2 h2
  have f2 : decide (a = 2) = false := decide_eq_false h2
  have e3 : (a == 3) = false := beq_eq_false_iff_ne.2 h3
  have f3 : decide (a = 3) = false := decide_eq_false h3
  replace hx2 := Lib.hid hx2
  replace hB0 := Lib.hid hB0
  replace hr0 := Lib.hid hr0
  replace hall := Lib.hid hall
  clear hr hb
  go_enter Try.func26, Try.ntmps26
  go_wp2_with (first | (go_at_call 46; (with_reducible refine (hall.out _ hr0.out).mono ?_); rintro e w1 ⟨v1, rfl, ho1, hq1⟩; obtain ⟨Al, cl, rfl, hrl⟩ := own_reads ho1; have hB1 := bl_then hB0.out hq1; have j2 := bk_below hq1 hx2.out; obtain ⟨x0, x1, x2, x3, x4, x5, xf0, xf1, xf2, xf3, xf4, xf5⟩ := cells6 j2; obtain ⟨ad, rfl, _⟩ := hrl.2.2 (Nat.succ_pos _); have c0 := rd_0 hrl (Nat.succ_pos _) hL0.out; have hlt1 := World.block_lt_of_cell? w1 ad c0; have hne1 : ¬ ad.block = w1.heap.size := Nat.ne_of_lt hlt1; have hcle := own_le ho1; have hcmx := own_capm ho1; have hlt2 := bk_lt j2; have hne2 : ¬ w.heap.size = w1.heap.size := Nat.ne_of_lt hlt2))
  first | exact bodyPost_ret (res_read (bk_alloc (bk_set6 j2) _) _ rfl rfl) rfl (.inr ⟨hno, rfl, bl_alloc (bl_set6 hB1 (Nat.le_refl _)) _⟩) | exact bodyPost_ret (res_read (bk_set6 (bk_alloc j2 _)) _ rfl rfl) rfl (.inr ⟨hno, rfl, bl_set6 (bl_alloc hB1 _) (Nat.le_refl _)⟩)
set_option maxHeartbeats 3200000 in
theorem eread_two_len (A : Option Addr) (cap : Nat) (xs : List Int) (w : World) (hr : ReadsInt w .u8 A xs.length xs) (hcap : xs.length ≤ cap) (hcm : cap ≤ 9223372036854775807) (hb : ∀ x ∈ xs, 0 ≤ x ∧ x ≤ 255) (t : List Int) (q : Nat) (hq : t.length = q) (hv : allV xs = ((2 : Int) :: t, 0)) (hg : GoodL xs ((2 : Int) :: t)) (hne : q ≠ 2) :
    Calls Try.prog 26 #[.slice A xs.length cap] w (ReadPost xs w) := by
  have hx2 := bk_new w #[.int .i64 0, .int .i64 0, .slice none 0 0, .slice none 0 0, .int .u64 0, .int .u64 0] 53
  have hB0 := bl_alloc (Below.refl _ w) (.cells #[.int .i64 0, .int .i64 0, .slice none 0 0, .slice none 0 0, .int .u64 0, .int .u64 0] 53)
  have hr0 := hr.below hB0
  have hall := fun W hW => all_any A cap xs W hW hcap hcm hb
  unfold MakesAll at hall
  have hno := (noEv_two (t := t) (by omega)).bytes hg
  obtain ⟨a, ha⟩ : ∃ a : Int, a = 2 := ⟨_, rfl⟩
  rw [← ha] at hv
  rw [hv] at hall
  obtain ⟨L, hL⟩ : ∃ L, a :: t = L := ⟨_, rfl⟩
  have hLl : L.length = q + 1 := by rw [← hL, List.length_cons, hq]
  have hL0 : L.getD 0 0 = a := by rw [← hL]; rfl
  rw [hL] at hall
  dsimp only at hall
  rw [hLl] at hall
  replace hL := Lib.hid hL
  replace hLl := Lib.hid hLl
  replace hL0 := Lib.hid hL0
  have hq7 : ((q : Int) + 1 == 0) = false := beq_eq_false_iff_ne.2 (by omega)
  have hq6 : decide ((q : Int) + 1 = 0) = false := decide_eq_false (by omega)
  subst ha
  have e1 : ((q : Int) + 1 == 3) = false := beq_eq_false_iff_ne.2 (by omega)
  have e2 : decide ((q : Int) + 1 = 3) = false := decide_eq_false (by omega)
  have e3 : decide (q = 2) = false := decide_eq_false (by omega)
  have e4 : ((q : Int) == 2) = false := beq_eq_false_iff_ne.2 (by omega)
  replace hx2 := Lib.hid hx2
  replace hB0 := Lib.hid hB0
  replace hr0 := Lib.hid hr0
  replace hall := Lib.hid hall
  clear hr hb
  go_enter Try.func26, Try.ntmps26
  go_wp2_with (first | (go_at_call 46; (with_reducible refine (hall.out _ hr0.out).mono ?_); rintro e w1 ⟨v1, rfl, ho1, hq1⟩; obtain ⟨Al, cl, rfl, hrl⟩ := own_reads ho1; have hB1 := bl_then hB0.out hq1; have j2 := bk_below hq1 hx2.out; obtain ⟨x0, x1, x2, x3, x4, x5, xf0, xf1, xf2, xf3, xf4, xf5⟩ := cells6 j2; obtain ⟨ad, rfl, _⟩ := hrl.2.2 (Nat.succ_pos _); have c0 := rd_0 hrl (Nat.succ_pos _) hL0.out; have hlt1 := World.block_lt_of_cell? w1 ad c0; have hne1 : ¬ ad.block = w1.heap.size := Nat.ne_of_lt hlt1; have hcle := own_le ho1; have hcmx := own_capm ho1; have hlt2 := bk_lt j2; have hne2 : ¬ w.heap.size = w1.heap.size := Nat.ne_of_lt hlt2))
  first | exact bodyPost_ret (res_read (bk_alloc (bk_set6 j2) _) _ rfl rfl) rfl (.inr ⟨hno, rfl, bl_alloc (bl_set6 hB1 (Nat.le_refl _)) _⟩) | exact bodyPost_ret (res_read (bk_set6 (bk_alloc j2 _)) _ rfl rfl) rfl (.inr ⟨hno, rfl, bl_set6 (bl_alloc hB1 _) (Nat.le_refl _)⟩)
set_option maxHeartbeats 3200000 in
theorem eread_three_len (A : Option Addr) (cap : Nat) (xs : List Int) (w : World) (hr : ReadsInt w .u8 A xs.length xs) (hcap : xs.length ≤ cap) (hcm : cap ≤ 9223372036854775807) (hb : ∀ x ∈ xs, 0 ≤ x ∧ x ≤ 255) (t : List Int) (q : Nat) (hq : t.length = q) (hv : allV xs = ((3 : Int) :: t, 0)) (hg : GoodL xs ((3 : Int) :: t)) (hne : q ≠ 1) :
    Calls Try.prog 26 #[.slice A xs.length cap] w (ReadPost xs w) := by
  have hx2 := bk_new w #[.int .i64 0, .int .i64 0, .slice none 0 0, .slice none 0 0, .int .u64 0, .int .u64 0] 53
  have hB0 := bl_alloc (Below.refl _ w) (.cells #[.int .i64 0, .int .i64 0, .slice none 0 0, .slice none 0 0, .int .u64 0, .int .u64 0] 53)
  have hr0 := hr.below hB0
  have hall := fun W hW => all_any A cap xs W hW hcap hcm hb
  unfold MakesAll at hall
  have hno := (noEv_three (t := t) (by omega)).bytes hg
  obtain ⟨a, ha⟩ : ∃ a : Int, a = 3 := ⟨_, rfl⟩
  rw [← ha] at hv
  rw [hv] at hall
  obtain ⟨L, hL⟩ : ∃ L, a :: t = L := ⟨_, rfl⟩
  have hLl : L.length = q + 1 := by rw [← hL, List.length_cons, hq]
  have hL0 : L.getD 0 0 = a := by rw [← hL]; rfl
  rw [hL] at hall
  dsimp only at hall
  rw [hLl] at hall
  replace hL := Lib.hid hL
  replace hLl := Lib.hid hLl
  replace hL0 := Lib.hid hL0
  have hq7 : ((q : Int) + 1 == 0) = false := beq_eq_false_iff_ne.2 (by omega)
  have hq6 : decide ((q : Int) + 1 = 0) = false := decide_eq_false (by omega)
  subst ha
  have e1 : ((q : Int) + 1 == 2) = false := beq_eq_false_iff_ne.2 (by omega)
  have e2 : decide ((q : Int) + 1 = 2) = false := decide_eq_false (by omega)
  have e3 : decide (q = 1) = false := decide_eq_false (by omega)
  have e4 : ((q : Int) == 1) = false := beq_eq_false_iff_ne.2 (by omega)
  replace hx2 := Lib.hid hx2
  replace hB0 := Lib.hid hB0
  replace hr0 := Lib.hid hr0
  replace hall := Lib.hid hall
  clear hr hb
  go_enter Try.func26, Try.ntmps26
  go_wp2_with (first | (go_at_call 46; (with_reducible refine (hall.out _ hr0.out).mono ?_); rintro e w1 ⟨v1, rfl, ho1, hq1⟩; obtain ⟨Al, cl, rfl, hrl⟩ := own_reads ho1; have hB1 := bl_then hB0.out hq1; have j2 := bk_below hq1 hx2.out; obtain ⟨x0, x1, x2, x3, x4, x5, xf0, xf1, xf2, xf3, xf4, xf5⟩ := cells6 j2; obtain ⟨ad, rfl, _⟩ := hrl.2.2 (Nat.succ_pos _); have c0 := rd_0 hrl (Nat.succ_pos _) hL0.out; have hlt1 := World.block_lt_of_cell? w1 ad c0; have hne1 : ¬ ad.block = w1.heap.size := Nat.ne_of_lt hlt1; have hcle := own_le ho1; have hcmx := own_capm ho1; have hlt2 := bk_lt j2; have hne2 : ¬ w.heap.size = w1.heap.size := Nat.ne_of_lt hlt2))
  first | exact bodyPost_ret (res_read (bk_alloc (bk_set6 j2) _) _ rfl rfl) rfl (.inr ⟨hno, rfl, bl_alloc (bl_set6 hB1 (Nat.le_refl _)) _⟩) | exact bodyPost_ret (res_read (bk_set6 (bk_alloc j2 _)) _ rfl rfl) rfl (.inr ⟨hno, rfl, bl_set6 (bl_alloc hB1 _) (Nat.le_refl _)⟩)
end Go.Proofs.Ytfcekicjlgdmaaa
namespace Go.Proofs.Ytfcekicjlgdmaaa
open Go.RowKit Go.Shelf Go.Proofs.YtfcekicjlgdmaaaW.PrintWords
attribute [local go_sem] max2_int min2_int max_two min_two
set_option maxHeartbeats 3200000 in
theorem eread_3_yes (A : Option Addr) (cap : Nat) (xs : List Int) (w : World) (hr : ReadsInt w .u8 A xs.length xs) (hcap : xs.length ≤ cap) (hcm : cap ≤ 9223372036854775807) (hb : ∀ x ∈ xs, 0 ≤ x ∧ x ≤ 255) (p : Int) (hv : allV xs = ([3, p], 0)) (hg : GoodL xs [3, p]) (hR : RightE 3 0 0 p [] []) :
    Calls Try.prog 26 #[.slice A xs.length cap] w (ReadPost xs w) := by
  have hx2 := bk_new w #[.int .i64 0, .int .i64 0, .slice none 0 0, .slice none 0 0, .int .u64 0, .int .u64 0] 53
  have hB0 := bl_alloc (Below.refl _ w) (.cells #[.int .i64 0, .int .i64 0, .slice none 0 0, .slice none 0 0, .int .u64 0, .int .u64 0] 53)
  have hr0 := hr.below hB0
  have hall := fun W hW => all_any A cap xs W hW hcap hcm hb
  unfold MakesAll at hall
  have hright := fun W => eright_zero 3 0 0 p W
  rw [rightE_yes hR] at hright
  have hxs : xs = encL (evNums 3 0 0 p [] []) := hg.2.2
  replace hxs := Lib.hid hxs
  rw [hv] at hall
  obtain ⟨L, hL⟩ : ∃ L : List Int, [3, p] = L := ⟨_, rfl⟩
  have hLl : L.length = 2 := by rw [← hL]; rfl
  have hL0 : L.getD 0 0 = 3 := by rw [← hL]; rfl
  have hL1 : L.getD 1 0 = p := by rw [← hL]; rfl
  rw [hL] at hall
  dsimp only at hall
  rw [hLl] at hall
  replace hL := Lib.hid hL
  replace hLl := Lib.hid hLl
  replace hL0 := Lib.hid hL0
  replace hL1 := Lib.hid hL1
  replace hright := Lib.hid hright
  replace hx2 := Lib.hid hx2
  replace hB0 := Lib.hid hB0
  replace hr0 := Lib.hid hr0
  replace hall := Lib.hid hall
  clear hr hb
  go_enter Try.func26, Try.ntmps26
  go_wp2_with (first | (go_at_call 46; (with_reducible refine (hall.out _ hr0.out).mono ?_); rintro e w1 ⟨v1, rfl, ho1, hq1⟩; obtain ⟨Al, cl, rfl, hrl⟩ := own_reads ho1; have hB1 := bl_then hB0.out hq1; have j2 := bk_below hq1 hx2.out; obtain ⟨x0, x1, x2, x3, x4, x5, xf0, xf1, xf2, xf3, xf4, xf5⟩ := cells6 j2; obtain ⟨ad, rfl, _⟩ := hrl.2.2 (Nat.succ_pos _); have c0 := rd_0 hrl (Nat.succ_pos _) hL0.out; have hlt1 := World.block_lt_of_cell? w1 ad c0; have hne1 : ¬ ad.block = w1.heap.size := Nat.ne_of_lt hlt1; have hcle := own_le ho1; have hcmx := own_capm ho1; have hlt2 := bk_lt j2; have hne2 : ¬ w.heap.size = w1.heap.size := Nat.ne_of_lt hlt2; have c1 := rd_j hrl (j := 1) (by decide) (by decide) hL1.out) | (go_at_call 30; (with_reducible refine (hright.out _).mono ?_); rintro e w2 ⟨rfl, hq2⟩; have j6 := bk_below hq2 (bk_new w1 #[.int .i64 3, .int .i64 0, .slice none 0 0, .slice none 0 0, .int .u64 0, .int .u64 p] 53); have j2b := bk_below hq2 (bk_alloc j2 (.cells #[.int .i64 3, .int .i64 0, .slice none 0 0, .slice none 0 0, .int .u64 0, .int .u64 p] 53)); have hB2 := bl_then (bl_alloc hB1 (.cells #[.int .i64 3, .int .i64 0, .slice none 0 0, .slice none 0 0, .int .u64 0, .int .u64 p] 53)) hq2; obtain ⟨y0, y1, y2, y3, y4, y5, yf0, yf1, yf2, yf3, yf4, yf5⟩ := cells6 j6; obtain ⟨z0, z1, z2, z3, z4, z5, zf0, zf1, zf2, zf3, zf4, zf5⟩ := cells6 j2b))
  exact bodyPost_ret (res_read (bk_set6 j2b) _ rfl rfl) rfl (.inl ⟨3, 0, 0, p, [], [], none, none, 0, 0, rfl, hR, fun i hi => absurd hi (by simp), hxs.out, own_nil _ _ _ _, own_nil _ _ _ _, bl_set6 hB2 (Nat.le_refl _)⟩)
set_option maxHeartbeats 3200000 in
theorem eread_3_no (A : Option Addr) (cap : Nat) (xs : List Int) (w : World) (hr : ReadsInt w .u8 A xs.length xs) (hcap : xs.length ≤ cap) (hcm : cap ≤ 9223372036854775807) (hb : ∀ x ∈ xs, 0 ≤ x ∧ x ≤ 255) (p : Int) (hv : allV xs = ([3, p], 0)) (hg : GoodL xs [3, p]) (hR : ¬ RightE 3 0 0 p [] []) :
    Calls Try.prog 26 #[.slice A xs.length cap] w (ReadPost xs w) := by
  have hx2 := bk_new w #[.int .i64 0, .int .i64 0, .slice none 0 0, .slice none 0 0, .int .u64 0, .int .u64 0] 53
  have hB0 := bl_alloc (Below.refl _ w) (.cells #[.int .i64 0, .int .i64 0, .slice none 0 0, .slice none 0 0, .int .u64 0, .int .u64 0] 53)
  have hr0 := hr.below hB0
  have hall := fun W hW => all_any A cap xs W hW hcap hcm hb
  unfold MakesAll at hall
  have hright := fun W => eright_zero 3 0 0 p W
  rw [rightE_no hR] at hright
  have hno := (noEv_shape (k := 3) (s := 0) (g := 0) (p := p) (ps := []) (ds := []) (.inr (.inr ⟨rfl, rfl, rfl, rfl, rfl⟩)) hR).bytes hg
  rw [hv] at hall
  obtain ⟨L, hL⟩ : ∃ L : List Int, [3, p] = L := ⟨_, rfl⟩
  have hLl : L.length = 2 := by rw [← hL]; rfl
  have hL0 : L.getD 0 0 = 3 := by rw [← hL]; rfl
  have hL1 : L.getD 1 0 = p := by rw [← hL]; rfl
  rw [hL] at hall
  dsimp only at hall
  rw [hLl] at hall
  replace hL := Lib.hid hL
  replace hLl := Lib.hid hLl
  replace hL0 := Lib.hid hL0
  replace hL1 := Lib.hid hL1
  replace hright := Lib.hid hright
  replace hx2 := Lib.hid hx2
  replace hB0 := Lib.hid hB0
  replace hr0 := Lib.hid hr0
  replace hall := Lib.hid hall
  clear hr hb
  go_enter Try.func26, Try.ntmps26
  go_wp2_with (first | (go_at_call 46; (with_reducible refine (hall.out _ hr0.out).mono ?_); rintro e w1 ⟨v1, rfl, ho1, hq1⟩; obtain ⟨Al, cl, rfl, hrl⟩ := own_reads ho1; have hB1 := bl_then hB0.out hq1; have j2 := bk_below hq1 hx2.out; obtain ⟨x0, x1, x2, x3, x4, x5, xf0, xf1, xf2, xf3, xf4, xf5⟩ := cells6 j2; obtain ⟨ad, rfl, _⟩ := hrl.2.2 (Nat.succ_pos _); have c0 := rd_0 hrl (Nat.succ_pos _) hL0.out; have hlt1 := World.block_lt_of_cell? w1 ad c0; have hne1 : ¬ ad.block = w1.heap.size := Nat.ne_of_lt hlt1; have hcle := own_le ho1; have hcmx := own_capm ho1; have hlt2 := bk_lt j2; have hne2 : ¬ w.heap.size = w1.heap.size := Nat.ne_of_lt hlt2; have c1 := rd_j hrl (j := 1) (by decide) (by decide) hL1.out) | (go_at_call 30; (with_reducible refine (hright.out _).mono ?_); rintro e w2 ⟨rfl, hq2⟩; have j6 := bk_below hq2 (bk_new w1 #[.int .i64 3, .int .i64 0, .slice none 0 0, .slice none 0 0, .int .u64 0, .int .u64 p] 53); have j2b := bk_below hq2 (bk_alloc j2 (.cells #[.int .i64 3, .int .i64 0, .slice none 0 0, .slice none 0 0, .int .u64 0, .int .u64 p] 53)); have hB2 := bl_then (bl_alloc hB1 (.cells #[.int .i64 3, .int .i64 0, .slice none 0 0, .slice none 0 0, .int .u64 0, .int .u64 p] 53)) hq2; obtain ⟨y0, y1, y2, y3, y4, y5, yf0, yf1, yf2, yf3, yf4, yf5⟩ := cells6 j6; obtain ⟨z0, z1, z2, z3, z4, z5, zf0, zf1, zf2, zf3, zf4, zf5⟩ := cells6 j2b))
  exact bodyPost_ret (res_read (bk_set6 j2b) _ rfl rfl) rfl (.inr ⟨hno, rfl, bl_set6 hB2 (Nat.le_refl _)⟩)
end Go.Proofs.Ytfcekicjlgdmaaa
namespace Go.Proofs.Ytfcekicjlgdmaaa
open Go.RowKit Go.Shelf Go.Proofs.YtfcekicjlgdmaaaW.PrintWords
attribute [local go_sem] max2_int min2_int max_two min_two
set_option maxHeartbeats 3200000 in
theorem eread_2_yes (A : Option Addr) (cap : Nat) (xs : List Int) (w : World) (hr : ReadsInt w .u8 A xs.length xs) (hcap : xs.length ≤ cap) (hcm : cap ≤ 9223372036854775807) (hb : ∀ x ∈ xs, 0 ≤ x ∧ x ≤ 255) (b c : Int) (hv : allV xs = ([2, b, c], 0)) (hg : GoodL xs [2, b, c]) (hb2 : 0 ≤ b ∧ b ≤ 9223372036854775807) (hR : RightE 2 b c 0 [] []) :
    Calls Try.prog 26 #[.slice A xs.length cap] w (ReadPost xs w) := by
  have hx2 := bk_new w #[.int .i64 0, .int .i64 0, .slice none 0 0, .slice none 0 0, .int .u64 0, .int .u64 0] 53
  have hB0 := bl_alloc (Below.refl _ w) (.cells #[.int .i64 0, .int .i64 0, .slice none 0 0, .slice none 0 0, .int .u64 0, .int .u64 0] 53)
  have hr0 := hr.below hB0
  have hall := fun W hW => all_any A cap xs W hW hcap hcm hb
  unfold MakesAll at hall
  have hright := fun W => eright_zero 2 b c 0 W
  rw [rightE_yes hR] at hright
  have hint := fun W => int_any b W hb2.1 (by omega)
  rw [show satInt b = b from if_pos hb2.2, decide_eq_true hb2.2] at hint
  have hxs : xs = encL (evNums 2 b c 0 [] []) := hg.2.2
  replace hxs := Lib.hid hxs
  rw [hv] at hall
  obtain ⟨L, hL⟩ : ∃ L : List Int, [2, b, c] = L := ⟨_, rfl⟩
  have hLl : L.length = 3 := by rw [← hL]; rfl
  have hL0 : L.getD 0 0 = 2 := by rw [← hL]; rfl
  have hL1 : L.getD 1 0 = b := by rw [← hL]; rfl
  have hL2 : L.getD 2 0 = c := by rw [← hL]; rfl
  rw [hL] at hall
  dsimp only at hall
  rw [hLl] at hall
  replace hL := Lib.hid hL
  replace hLl := Lib.hid hLl
  replace hL0 := Lib.hid hL0
  replace hL1 := Lib.hid hL1
  replace hL2 := Lib.hid hL2
  replace hright := Lib.hid hright
  replace hint := Lib.hid hint
  replace hx2 := Lib.hid hx2
  replace hB0 := Lib.hid hB0
  replace hr0 := Lib.hid hr0
  replace hall := Lib.hid hall
  clear hr hb
  go_enter Try.func26, Try.ntmps26
  go_wp2_with (first | (go_at_call 46; (with_reducible refine (hall.out _ hr0.out).mono ?_); rintro e w1 ⟨v1, rfl, ho1, hq1⟩; obtain ⟨Al, cl, rfl, hrl⟩ := own_reads ho1; have hB1 := bl_then hB0.out hq1; have j2 := bk_below hq1 hx2.out; obtain ⟨x0, x1, x2, x3, x4, x5, xf0, xf1, xf2, xf3, xf4, xf5⟩ := cells6 j2; obtain ⟨ad, rfl, _⟩ := hrl.2.2 (Nat.succ_pos _); have c0 := rd_0 hrl (Nat.succ_pos _) hL0.out; have hlt1 := World.block_lt_of_cell? w1 ad c0; have hne1 : ¬ ad.block = w1.heap.size := Nat.ne_of_lt hlt1; have hcle := own_le ho1; have hcmx := own_capm ho1; have hlt2 := bk_lt j2; have hne2 : ¬ w.heap.size = w1.heap.size := Nat.ne_of_lt hlt2; have c1 := rd_j hrl (j := 1) (by decide) (by decide) hL1.out; have c2 := rd_j hrl (j := 2) (by decide) (by decide) hL2.out))
  go_region
  clear x0 x1 x2 x3 x4 x5 xf0 xf1 xf2 xf3 xf4 xf5
  go_wp2_with (first | (go_at_call 35; (with_reducible refine (hint.out _).mono ?_); rintro e w' ⟨rfl, rfl⟩) | (go_at_call 30; (with_reducible refine (hright.out _).mono ?_); rintro e w2 ⟨rfl, hq2⟩; have j6 := bk_below hq2 (bk_drew (bk_new w1 #[.int .i64 2, .int .i64 b, .slice none 0 0, .slice none 0 0, .int .u64 c, .int .u64 0] 53)); have j2b := bk_below hq2 (bk_drew (bk_alloc j2 (.cells #[.int .i64 2, .int .i64 b, .slice none 0 0, .slice none 0 0, .int .u64 c, .int .u64 0] 53))); have hB2 := bl_then (bl_drew (bl_alloc hB1 (.cells #[.int .i64 2, .int .i64 b, .slice none 0 0, .slice none 0 0, .int .u64 c, .int .u64 0] 53))) hq2; obtain ⟨y0, y1, y2, y3, y4, y5, yf0, yf1, yf2, yf3, yf4, yf5⟩ := cells6 j6; obtain ⟨z0, z1, z2, z3, z4, z5, zf0, zf1, zf2, zf3, zf4, zf5⟩ := cells6 j2b))
  exact bodyPost_ret (res_read (bk_set6 j2b) _ rfl rfl) rfl (.inl ⟨2, b, c, 0, [], [], none, none, 0, 0, rfl, hR, fun i hi => absurd hi (by simp), hxs.out, own_nil _ _ _ _, own_nil _ _ _ _, bl_set6 hB2 (Nat.le_refl _)⟩)
set_option maxHeartbeats 3200000 in
theorem eread_2_no (A : Option Addr) (cap : Nat) (xs : List Int) (w : World) (hr : ReadsInt w .u8 A xs.length xs) (hcap : xs.length ≤ cap) (hcm : cap ≤ 9223372036854775807) (hb : ∀ x ∈ xs, 0 ≤ x ∧ x ≤ 255) (b c : Int) (hv : allV xs = ([2, b, c], 0)) (hg : GoodL xs [2, b, c]) (hb2 : 0 ≤ b ∧ b ≤ 9223372036854775807) (hR : ¬ RightE 2 b c 0 [] []) :
    Calls Try.prog 26 #[.slice A xs.length cap] w (ReadPost xs w) := by
  have hx2 := bk_new w #[.int .i64 0, .int .i64 0, .slice none 0 0, .slice none 0 0, .int .u64 0, .int .u64 0] 53
  have hB0 := bl_alloc (Below.refl _ w) (.cells #[.int .i64 0, .int .i64 0, .slice none 0 0, .slice none 0 0, .int .u64 0, .int .u64 0] 53)
  have hr0 := hr.below hB0
  have hall := fun W hW => all_any A cap xs W hW hcap hcm hb
  unfold MakesAll at hall
  have hright := fun W => eright_zero 2 b c 0 W
  rw [rightE_no hR] at hright
  have hint := fun W => int_any b W hb2.1 (by omega)
  rw [show satInt b = b from if_pos hb2.2, decide_eq_true hb2.2] at hint
  have hno := (noEv_shape (k := 2) (s := b) (g := c) (p := 0) (ps := []) (ds := []) (.inr (.inl ⟨rfl, rfl, rfl, rfl⟩)) hR).bytes hg
  rw [hv] at hall
  obtain ⟨L, hL⟩ : ∃ L : List Int, [2, b, c] = L := ⟨_, rfl⟩
  have hLl : L.length = 3 := by rw [← hL]; rfl
  have hL0 : L.getD 0 0 = 2 := by rw [← hL]; rfl
  have hL1 : L.getD 1 0 = b := by rw [← hL]; rfl
  have hL2 : L.getD 2 0 = c := by rw [← hL]; rfl
  rw [hL] at hall
  dsimp only at hall
  rw [hLl] at hall
  replace hL := Lib.hid hL
  replace hLl := Lib.hid hLl
  replace hL0 := Lib.hid hL0
  replace hL1 := Lib.hid hL1
  replace hL2 := Lib.hid hL2
  replace hright := Lib.hid hright
  replace hint := Lib.hid hint
  replace hx2 := Lib.hid hx2
  replace hB0 := Lib.hid hB0
  replace hr0 := Lib.hid hr0
  replace hall := Lib.hid hall
  clear hr hb
  go_enter Try.func26, Try.ntmps26
  go_wp2_with (first | (go_at_call 46; (with_reducible refine (hall.out _ hr0.out).mono ?_); rintro e w1 ⟨v1, rfl, ho1, hq1⟩; obtain ⟨Al, cl, rfl, hrl⟩ := own_reads ho1; have hB1 := bl_then hB0.out hq1; have j2 := bk_below hq1 hx2.out; obtain ⟨x0, x1, x2, x3, x4, x5, xf0, xf1, xf2, xf3, xf4, xf5⟩ := cells6 j2; obtain ⟨ad, rfl, _⟩ := hrl.2.2 (Nat.succ_pos _); have c0 := rd_0 hrl (Nat.succ_pos _) hL0.out; have hlt1 := World.block_lt_of_cell? w1 ad c0; have hne1 : ¬ ad.block = w1.heap.size := Nat.ne_of_lt hlt1; have hcle := own_le ho1; have hcmx := own_capm ho1; have hlt2 := bk_lt j2; have hne2 : ¬ w.heap.size = w1.heap.size := Nat.ne_of_lt hlt2; have c1 := rd_j hrl (j := 1) (by decide) (by decide) hL1.out; have c2 := rd_j hrl (j := 2) (by decide) (by decide) hL2.out))
  go_region
  clear x0 x1 x2 x3 x4 x5 xf0 xf1 xf2 xf3 xf4 xf5
  go_wp2_with (first | (go_at_call 35; (with_reducible refine (hint.out _).mono ?_); rintro e w' ⟨rfl, rfl⟩) | (go_at_call 30; (with_reducible refine (hright.out _).mono ?_); rintro e w2 ⟨rfl, hq2⟩; have j6 := bk_below hq2 (bk_drew (bk_new w1 #[.int .i64 2, .int .i64 b, .slice none 0 0, .slice none 0 0, .int .u64 c, .int .u64 0] 53)); have j2b := bk_below hq2 (bk_drew (bk_alloc j2 (.cells #[.int .i64 2, .int .i64 b, .slice none 0 0, .slice none 0 0, .int .u64 c, .int .u64 0] 53))); have hB2 := bl_then (bl_drew (bl_alloc hB1 (.cells #[.int .i64 2, .int .i64 b, .slice none 0 0, .slice none 0 0, .int .u64 c, .int .u64 0] 53))) hq2; obtain ⟨y0, y1, y2, y3, y4, y5, yf0, yf1, yf2, yf3, yf4, yf5⟩ := cells6 j6; obtain ⟨z0, z1, z2, z3, z4, z5, zf0, zf1, zf2, zf3, zf4, zf5⟩ := cells6 j2b))
  exact bodyPost_ret (res_read (bk_set6 j2b) _ rfl rfl) rfl (.inr ⟨hno, rfl, bl_set6 hB2 (Nat.le_refl _)⟩)
set_option maxHeartbeats 3200000 in
theorem eread_2_big (A : Option Addr) (cap : Nat) (xs : List Int) (w : World) (hr : ReadsInt w .u8 A xs.length xs) (hcap : xs.length ≤ cap) (hcm : cap ≤ 9223372036854775807) (hb : ∀ x ∈ xs, 0 ≤ x ∧ x ≤ 255) (b c : Int) (hv : allV xs = ([2, b, c], 0)) (hg : GoodL xs [2, b, c]) (hb2 : 9223372036854775807 < b ∧ b ≤ 18446744073709551615) :
    Calls Try.prog 26 #[.slice A xs.length cap] w (ReadPost xs w) := by
  have hx2 := bk_new w #[.int .i64 0, .int .i64 0, .slice none 0 0, .slice none 0 0, .int .u64 0, .int .u64 0] 53
  have hB0 := bl_alloc (Below.refl _ w) (.cells #[.int .i64 0, .int .i64 0, .slice none 0 0, .slice none 0 0, .int .u64 0, .int .u64 0] 53)
  have hr0 := hr.below hB0
  have hall := fun W hW => all_any A cap xs W hW hcap hcm hb
  unfold MakesAll at hall
  have hint := fun W => int_any b W (by omega) hb2.2
  rw [show satInt b = 0 from if_neg (by omega), decide_eq_false (by omega)] at hint
  have hno := (noEv_big (b := b) (c := c) (by omega)).bytes hg
  rw [hv] at hall
  obtain ⟨L, hL⟩ : ∃ L : List Int, [2, b, c] = L := ⟨_, rfl⟩
  have hLl : L.length = 3 := by rw [← hL]; rfl
  have hL0 : L.getD 0 0 = 2 := by rw [← hL]; rfl
  have hL1 : L.getD 1 0 = b := by rw [← hL]; rfl
  have hL2 : L.getD 2 0 = c := by rw [← hL]; rfl
  rw [hL] at hall
  dsimp only at hall
  rw [hLl] at hall
  replace hL := Lib.hid hL
  replace hLl := Lib.hid hLl
  replace hL0 := Lib.hid hL0
  replace hL1 := Lib.hid hL1
  replace hL2 := Lib.hid hL2
  replace hint := Lib.hid hint
  replace hx2 := Lib.hid hx2
  replace hB0 := Lib.hid hB0
  replace hr0 := Lib.hid hr0
  replace hall := Lib.hid hall
  clear hr hb
  go_enter Try.func26, Try.ntmps26
  go_wp2_with (first | (go_at_call 46; (with_reducible refine (hall.out _ hr0.out).mono ?_); rintro e w1 ⟨v1, rfl, ho1, hq1⟩; obtain ⟨Al, cl, rfl, hrl⟩ := own_reads ho1; have hB1 := bl_then hB0.out hq1; have j2 := bk_below hq1 hx2.out; obtain ⟨x0, x1, x2, x3, x4, x5, xf0, xf1, xf2, xf3, xf4, xf5⟩ := cells6 j2; obtain ⟨ad, rfl, _⟩ := hrl.2.2 (Nat.succ_pos _); have c0 := rd_0 hrl (Nat.succ_pos _) hL0.out; have hlt1 := World.block_lt_of_cell? w1 ad c0; have hne1 : ¬ ad.block = w1.heap.size := Nat.ne_of_lt hlt1; have hcle := own_le ho1; have hcmx := own_capm ho1; have hlt2 := bk_lt j2; have hne2 : ¬ w.heap.size = w1.heap.size := Nat.ne_of_lt hlt2; have c1 := rd_j hrl (j := 1) (by decide) (by decide) hL1.out; have c2 := rd_j hrl (j := 2) (by decide) (by decide) hL2.out))
  go_region
  go_wp2_with (first | (go_at_call 35; (with_reducible refine (hint.out _).mono ?_); rintro e w' ⟨rfl, rfl⟩))
  first | exact bodyPost_ret (res_read (bk_drew (bk_alloc (bk_set6 j2) _)) _ rfl rfl) rfl (.inr ⟨hno, rfl, bl_drew (bl_alloc (bl_set6 hB1 (Nat.le_refl _)) _)⟩) | exact bodyPost_ret (res_read (bk_set6 (bk_drew (bk_alloc j2 _))) _ rfl rfl) rfl (.inr ⟨hno, rfl, bl_set6 (bl_drew (bl_alloc hB1 _)) (Nat.le_refl _)⟩)
end Go.Proofs.Ytfcekicjlgdmaaa
namespace Go.Proofs.Ytfcekicjlgdmaaa
open Go.RowKit Go.Shelf Go.Proofs.YtfcekicjlgdmaaaW.PrintWords
attribute [local go_sem] max2_int min2_int max_two min_two
set_option maxHeartbeats 3200000 in
theorem eread_1 (A : Option Addr) (cap : Nat) (xs : List Int) (w : World) (hr : ReadsInt w .u8 A xs.length xs) (hcap : xs.length ≤ cap) (hcm : cap ≤ 9223372036854775807) (hb : ∀ x ∈ xs, 0 ≤ x ∧ x ≤ 255) (t : List Int) (q : Nat) (hq : t.length = q) (hv : allV xs = ((1 : Int) :: t, 0)) (hg : GoodL xs ((1 : Int) :: t)) :
    Calls Try.prog 26 #[.slice A xs.length cap] w (ReadPost xs w) := by
  have hx2 := bk_new w #[.int .i64 0, .int .i64 0, .slice none 0 0, .slice none 0 0, .int .u64 0, .int .u64 0] 53
  have hB0 := bl_alloc (Below.refl _ w) (.cells #[.int .i64 0, .int .i64 0, .slice none 0 0, .slice none 0 0, .int .u64 0, .int .u64 0] 53)
  have hr0 := hr.below hB0
  have hall := fun W hW => all_any A cap xs W hW hcap hcm hb
  unfold MakesAll at hall
  have hUt : U64 t := fun n hn => hg.1 n (List.mem_cons_of_mem _ hn)
  have hq127 : q ≤ 127 := by have := hg.2.1; rw [List.length_cons, hq] at this; omega
  have hcom : ∀ (A : Option Addr) (c : Nat) (W : World), ReadsInt W .u64 A q t → q ≤ c → c ≤ 9223372036854775807 → Calls Try.prog 47 #[.slice A q c] W (CommitPost t W) := by
    subst hq
    exact fun A c W h1 h2 h3 => commit_any A c t W h1 hUt (by omega) h2 h3
  have hnob : NoEv (1 :: t) → NoBytes xs := fun h => h.bytes hg
  have hxs : xs = encL (1 :: t) := hg.2.2
  replace hcom := Lib.hid hcom
  replace hnob := Lib.hid hnob
  replace hxs := Lib.hid hxs
  obtain ⟨a, ha⟩ : ∃ a : Int, a = 1 := ⟨_, rfl⟩
  rw [← ha] at hv
  rw [hv] at hall
  obtain ⟨L, hL⟩ : ∃ L, a :: t = L := ⟨_, rfl⟩
  have hLl : L.length = q + 1 := by rw [← hL, List.length_cons, hq]
  have hL0 : L.getD 0 0 = a := by rw [← hL]; rfl
  rw [hL] at hall
  dsimp only at hall
  rw [hLl] at hall
  replace hL := Lib.hid hL
  replace hLl := Lib.hid hLl
  replace hL0 := Lib.hid hL0
  have hq7 : ((q : Int) + 1 == 0) = false := beq_eq_false_iff_ne.2 (by omega)
  have hq6 : decide ((q : Int) + 1 = 0) = false := decide_eq_false (by omega)
  subst ha
  replace hq := Lib.hid hq
  replace hx2 := Lib.hid hx2
  replace hB0 := Lib.hid hB0
  replace hr0 := Lib.hid hr0
  replace hall := Lib.hid hall
  clear hr hb
  go_enter Try.func26, Try.ntmps26
  go_wp2_with (first | (go_at_call 46; (with_reducible refine (hall.out _ hr0.out).mono ?_); rintro e w1 ⟨v1, rfl, ho1, hq1⟩; obtain ⟨Al, cl, rfl, hrl⟩ := own_reads ho1; have hB1 := bl_then hB0.out hq1; have j2 := bk_below hq1 hx2.out; obtain ⟨x0, x1, x2, x3, x4, x5, xf0, xf1, xf2, xf3, xf4, xf5⟩ := cells6 j2; obtain ⟨ad, rfl, _⟩ := hrl.2.2 (Nat.succ_pos _); have c0 := rd_0 hrl (Nat.succ_pos _) hL0.out; have hlt1 := World.block_lt_of_cell? w1 ad c0; have hne1 : ¬ ad.block = w1.heap.size := Nat.ne_of_lt hlt1; have hcle := own_le ho1; have hcmx := own_capm ho1; have hlt2 := bk_lt j2; have hne2 : ¬ w.heap.size = w1.heap.size := Nat.ne_of_lt hlt2; obtain ⟨A', hs1, hr1⟩ := cut_l ad (q + 1) cl 1 1 rfl (Nat.le_add_left _ _) hcle; have hrt := hr1 w1 L hrl; rw [← hL.out, List.drop_succ_cons, List.drop_zero] at hrt; rw [Nat.add_sub_cancel] at hrt hs1; have hrt2 := hrt.below (bl_alloc (Below.refl _ w1) (.cells #[.int .i64 0, .int .i64 0, .slice none 0 0, .slice none 0 0, .int .u64 0, .int .u64 0] 53))))
  have hne3 : w.heap.size ≠ w1.heap.size := hne2
  have hqcl : q ≤ cl - 1 := by omega
  have hclm : cl - 1 ≤ 9223372036854775807 := by omega
  clear x0 x1 x2 x3 x4 x5 xf0 xf1 xf2 xf3 xf4 xf5
  have j2a := bk_alloc j2 (.cells #[.int .i64 0, .int .i64 0, .slice none 0 0, .slice none 0 0, .int .u64 0, .int .u64 0] 53)
  have hB1a := bl_alloc hB1 (.cells #[.int .i64 0, .int .i64 0, .slice none 0 0, .slice none 0 0, .int .u64 0, .int .u64 0] 53)
  refine (hcom.out A' (cl - 1) _ hrt2 hqcl hclm).mono ?_
  rintro e w2 (⟨ps, ds, A1, A2, c1, c2, rfl, ht, hrts, ko, kd, hq2⟩ | ⟨hno, rfl, hq2⟩)
  · have hlen : 1 + ds.length + 10 * ps.length = q := by
      have := congrArg List.length ht
      rw [hq.out, List.length_cons, List.length_append, flatN_len hrts] at this
      omega
    have hfin : xs = encL (evNums 1 0 0 0 ps ds) := by rw [evNums_1, ← ht]; exact hxs.out
    have hev : 1 :: t = evNums 1 0 0 0 ps ds := by rw [evNums_1, ← ht]
    have j6 := bk_below hq2 (bk_new w1 #[.int .i64 0, .int .i64 0, .slice none 0 0, .slice none 0 0, .int .u64 0, .int .u64 0] 53)
    have j2c := bk_below hq2 j2a
    have hB2a := bl_then hB1a hq2
    have j6' := bk_set6 (a' := .int .i64 1) (b' := .int .i64 0) (c' := .slice A1 ps.length c1) (d' := .slice A2 ds.length c2) (e' := .int .u64 0) (f' := .int .u64 0) j6
    have j2f := far6 (a := .int .i64 1) (b := .int .i64 0) (c := .slice A1 ps.length c1) (d := .slice A2 ds.length c2) (e := .int .u64 0) (f := .int .u64 0) j2c hne3
    have hle6 : w.heap.size ≤ w1.heap.size := hB1.size
    have hB2 := bl_set6 (a := .int .i64 1) (b := .int .i64 0) (c := .slice A1 ps.length c1) (d := .slice A2 ds.length c2) (e := .int .u64 0) (f := .int .u64 0) hB2a hle6
    have ko6 := own6 (a := .int .i64 1) (b := .int .i64 0) (c := .slice A1 ps.length c1) (d := .slice A2 ds.length c2) (e := .int .u64 0) (f := .int .u64 0) ko (own_ne ko j6 (by decide))
    have kd6 := own6 (a := .int .i64 1) (b := .int .i64 0) (c := .slice A1 ps.length c1) (d := .slice A2 ds.length c2) (e := .int .u64 0) (f := .int .u64 0) kd (own_ne kd j6 (by decide))
    obtain ⟨A9, c9, e9, hp6, hpl, hpm⟩ := pols_own ko6 hrts.ok
    cases e9
    have hd6 := own_reads' kd6
    obtain ⟨y0, y1, y2, y3, y4, y5, yf0, yf1, yf2, yf3, yf4, yf5⟩ := cells6 j6
    obtain ⟨p0, p1, p2, p3, p4, p5, pf0, pf1, pf2, pf3, pf4, pf5⟩ := cells6 j6'
    have hright := fun W h1 h2 => eright_any 1 0 0 0 A1 A2 c1 c2 ps ds W h1 h2 (by omega) (by omega) hpl hpm
    have hw1le : w.heap.size ≤ (w1.alloc (.cells #[.int .i64 0, .int .i64 0, .slice none 0 0, .slice none 0 0, .int .u64 0, .int .u64 0] 53)).heap.size := hB1a.size
    replace hlen := Lib.hid hlen
    replace hev := Lib.hid hev
    replace hfin := Lib.hid hfin
    replace ht := Lib.hid ht
    by_cases hR : RightE 1 0 0 0 ps ds
    · rw [rightE_yes hR] at hright
      replace hright := Lib.hid hright
      go_wp2_with (first | (go_at_call 30; (with_reducible refine (hright.out _ hp6 hd6).mono ?_); rintro e w3 ⟨rfl, hq3⟩; have j6b := bk_below hq3 j6'; have j2b := bk_below hq3 j2f; have hB3 := bl_then hB2 hq3; have k3 := pw_own_below ko6 hq3; have kd3 := pw_own_below kd6 hq3; obtain ⟨y0, y1, y2, y3, y4, y5, yf0, yf1, yf2, yf3, yf4, yf5⟩ := cells6 j6b; obtain ⟨z0, z1, z2, z3, z4, z5, zf0, zf1, zf2, zf3, zf4, zf5⟩ := cells6 j2b))
      exact bodyPost_ret (res_read (bk_set6 j2b) _ rfl rfl) rfl (.inl ⟨1, 0, 0, 0, ps, ds, A1, A2, c1, c2, rfl, hR, hrts.ok, hfin.out, own6 (own_weaken k3 hw1le) (own_ne k3 j2b (by decide)), own6 (own_weaken kd3 hw1le) (own_ne kd3 j2b (by decide)), bl_set6 hB3 (Nat.le_refl _)⟩)
    · rw [rightE_no hR] at hright
      have hnoE : NoBytes xs := hnob.out (by rw [hev.out]; exact noEv_shape (.inl ⟨rfl, rfl, rfl, rfl, hrts⟩) hR)
      replace hright := Lib.hid hright
      go_wp2_with (first | (go_at_call 30; (with_reducible refine (hright.out _ hp6 hd6).mono ?_); rintro e w3 ⟨rfl, hq3⟩; have j6b := bk_below hq3 j6'; have j2b := bk_below hq3 j2f; have hB3 := bl_then hB2 hq3; have k3 := pw_own_below ko6 hq3; have kd3 := pw_own_below kd6 hq3; obtain ⟨y0, y1, y2, y3, y4, y5, yf0, yf1, yf2, yf3, yf4, yf5⟩ := cells6 j6b; obtain ⟨z0, z1, z2, z3, z4, z5, zf0, zf1, zf2, zf3, zf4, zf5⟩ := cells6 j2b))
      exact bodyPost_ret (res_read (bk_set6 j2b) _ rfl rfl) rfl (.inr ⟨hnoE, rfl, bl_set6 hB3 (Nat.le_refl _)⟩)
  · have hnoE : NoBytes xs := hnob.out (noEv_commit hno)
    have j6 := bk_below hq2 (bk_new w1 #[.int .i64 0, .int .i64 0, .slice none 0 0, .slice none 0 0, .int .u64 0, .int .u64 0] 53)
    have j2c := bk_below hq2 j2a
    have hB2a := bl_then hB1a hq2
    have j2f := far6 (a := .int .i64 0) (b := .int .i64 0) (c := .slice none 0 0) (d := .slice none 0 0) (e := .int .u64 0) (f := .int .u64 0) j2c hne3
    have hle6 : w.heap.size ≤ w1.heap.size := hB1.size
    obtain ⟨y0, y1, y2, y3, y4, y5, yf0, yf1, yf2, yf3, yf4, yf5⟩ := cells6 j6
    obtain ⟨p0, p1, p2, p3, p4, p5, pf0, pf1, pf2, pf3, pf4, pf5⟩ := cells6 j2f
    replace hno := Lib.hid hno
    go_wp2
    exact bodyPost_ret (res_read (bk_set6 j2f) _ rfl rfl) rfl (.inr ⟨hnoE, rfl, bl_set6 (bl_set6 hB2a hle6) (Nat.le_refl _)⟩)
theorem eread_any (A : Option Addr) (cap : Nat) (xs : List Int) (w : World) (hr : ReadsInt w .u8 A xs.length xs) (hcap : xs.length ≤ cap) (hcm : cap ≤ 9223372036854775807) (hb : ∀ x ∈ xs, 0 ≤ x ∧ x ≤ 255) :
    Calls Try.prog 26 #[.slice A xs.length cap] w (ReadPost xs w) := by
  rcases allV_cases xs with ⟨L, hg, hv⟩ | hv
  rotate_left 1
  · exact eread_err A cap xs w hr hcap hcm hb hv
  match L, hg, hv with
  | [], hg, hv => exact eread_nil A cap xs w hr hcap hcm hb hv hg
  | a :: t, hg, hv =>
    by_cases h1 : a = 1
    · subst h1
      exact eread_1 A cap xs w hr hcap hcm hb t t.length rfl hv hg
    by_cases h2 : a = 2
    · subst h2
      match t, hg, hv with
      | [b, c], hg, hv =>
        have hbU := hg.1 b (by simp)
        by_cases hbig : b ≤ 9223372036854775807
        · by_cases hR : RightE 2 b c 0 [] []
          · exact eread_2_yes A cap xs w hr hcap hcm hb b c hv hg ⟨hbU.1, hbig⟩ hR
          · exact eread_2_no A cap xs w hr hcap hcm hb b c hv hg ⟨hbU.1, hbig⟩ hR
        · exact eread_2_big A cap xs w hr hcap hcm hb b c hv hg ⟨by omega, hbU.2⟩
      | [], hg, hv => exact eread_two_len A cap xs w hr hcap hcm hb [] 0 rfl hv hg (by omega)
      | [_], hg, hv => exact eread_two_len A cap xs w hr hcap hcm hb [_] 1 rfl hv hg (by omega)
      | b :: c :: d :: t', hg, hv => exact eread_two_len A cap xs w hr hcap hcm hb (b :: c :: d :: t') (t'.length + 3) rfl hv hg (by omega)
    by_cases h3 : a = 3
    · subst h3
      match t, hg, hv with
      | [p], hg, hv =>
        by_cases hR : RightE 3 0 0 p [] []
        · exact eread_3_yes A cap xs w hr hcap hcm hb p hv hg hR
        · exact eread_3_no A cap xs w hr hcap hcm hb p hv hg hR
      | [], hg, hv => exact eread_three_len A cap xs w hr hcap hcm hb [] 0 rfl hv hg (by omega)
      | b :: c :: t', hg, hv => exact eread_three_len A cap xs w hr hcap hcm hb (b :: c :: t') (t'.length + 2) rfl hv hg (by omega)
    exact eread_other A cap xs w hr hcap hcm hb a t t.length rfl hv hg h1 h2 h3
end Go.Proofs.Ytfcekicjlgdmaaa
