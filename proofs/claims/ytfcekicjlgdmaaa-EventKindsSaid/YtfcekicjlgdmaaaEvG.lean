/- Contract: the event of any bytes (the reference's): all kinds but commits. Words for the reference's reading of a commit. -/
import Derived.Test.YtfcekicjlgdmaaaEvF
import Derived.Test.YtfcekicjlgdmaaaEvD
import Derived.Test.YtfcekicjlgdmaaaPolN
set_option linter.unusedVariables false
set_option linter.unusedSimpArgs false
set_option maxRecDepth 100000
namespace Go.Proofs.Ytfcekicjlgdmaaa
open Go.RowKit Go.Shelf Go.Proofs.YtfcekicjlgdmaaaW.PrintWords
attribute [local go_sem] max2_int min2_int max_two min_two

theorem res_rread {w : World} {g : Nat} {v0 v1 v2 v3 v4 v5 : Value} {c : Int} {t : TypeId} (h : Bk w g #[v0, v1, v2, v3, v4, v5] t) (tmps : Array Value) (h2 : tmps[2]?.getD undef = .pointer (some ⟨g, 0, none⟩)) (h3 : tmps[3]?.getD undef = .int .i64 c) :
    (results Try.f34 tmps).run Try.prog w = .ok (.tuple #[.agg #[v0, v1, v2, v3, v4, v5], .int .i64 c]) w := by
  obtain ⟨z0, z1, z2, z3, z4, z5, _⟩ := cells6 h
  simp [results, Try.results34, go_sem, h2, h3, z0, z1, z2, z3, z4, z5]
/-- If these numbers are an event's that can be, it is this one. -/
def Cand (L : List Int) (k s g p : Int) (ps : List Pol) (ds : List Int) : Prop := ∀ (k' s' g' p' : Int) (ps' : List Pol) (ds' : List Int), RightE k' s' g' p' ps' ds' → OkAll ps' → L = evNums k' s' g' p' ps' ds' → k' = k ∧ s' = s ∧ g' = g ∧ p' = p ∧ ps' = ps ∧ ds' = ds
theorem NoEv.cand {L : List Int} (h : NoEv L) (k s g p : Int) (ps : List Pol) (ds : List Int) : Cand L k s g p ps ds := fun k' s' g' p' ps' ds' hR ho e => absurd e (h k' s' g' p' ps' ds' hR ho)
theorem Cand.no {L : List Int} {k s g p : Int} {ps : List Pol} {ds : List Int} (h : Cand L k s g p ps ds) (hR : ¬ RightE k s g p ps ds) : NoEv L := fun k' s' g' p' ps' ds' hR' ho e => by
  obtain ⟨rfl, rfl, rfl, rfl, rfl, rfl⟩ := h k' s' g' p' ps' ds' hR' ho e
  exact hR hR'
theorem Cand.ne {xs L : List Int} {k s g p : Int} {ps : List Pol} {ds : List Int} (h : Cand L k s g p ps ds) (hg : GoodL xs L) (hx : encL (evNums k s g p ps ds) ≠ xs) : NoBytes xs := fun k' s' g' p' ps' ds' hR' ho e => by
  obtain ⟨rfl, rfl, rfl, rfl, rfl, rfl⟩ := h k' s' g' p' ps' ds' hR' ho (encL_inj hg.1 (evNums_u64 hR' ho) (hg.2.2.symm.trans e))
  exact hx e.symm
theorem cand_2 (b c : Int) : Cand [2, b, c] 2 b c 0 [] [] := fun k' s' g' p' ps' ds' hR ho e => by
  obtain ⟨e1, e2, e3, e4, e5, e6⟩ := evNums_inj (k := 2) (s := b) (g := c) (p := 0) (ps := []) (ds := []) (.inr (.inl ⟨rfl, rfl, rfl, rfl⟩)) (hR.shape ho) e
  exact ⟨e1.symm, e2.symm, e3.symm, e4.symm, e5.symm, e6.symm⟩
theorem cand_3 (p : Int) (t : List Int) : Cand (3 :: p :: t) 3 0 0 p [] [] := fun k' s' g' p' ps' ds' hR ho e => by
  have hR0 := hR
  obtain ⟨hk, t', ht⟩ := evNums_head hR
  have e' := e
  rw [ht] at e'
  injection e' with e1 _
  subst e1
  rcases hR with ⟨h1, _⟩ | ⟨h1, _⟩ | ⟨_, h2, h3, _, h5, h6⟩
  · omega
  · omega
  · rw [evNums_3] at e
    injection e with _ e2
    injection e2 with e3 _
    exact ⟨rfl, h2, h3, e3.symm, h5, h6⟩
theorem cv8 (W : World) (A : Option Addr) (c : Nat) (X : List Int) (h : ReadsInt W .u8 A X.length X) : (convert 48 9 (.slice A X.length c)).run Try.prog W = .ok (.string (strOfNums X)) W := string_of_reads (P := Try.prog) (c := c) Try.underlying48 Try.underlying5 Try.underlying9 h
theorem rbytes_zero (k s g p : Int) (W : World) : Calls Try.prog 29 #[.agg #[.int .i64 k, .int .i64 s, .slice none 0 0, .slice none 0 0, .int .u64 g, .int .u64 p]] W (MakesBytes (bytesV k s g p [] []) W) :=
  rbytes_any k s g p none none 0 0 [] [] W (polsAt_none W) (ints_none W .i64) (by simp) (by simp) (by simp) (by simp)
set_option maxHeartbeats 3200000 in
theorem rread_err (A : Option Addr) (cap : Nat) (xs : List Int) (w : World) (hr : ReadsInt w .u8 A xs.length xs) (hcap : xs.length ≤ cap) (hcm : cap ≤ 9223372036854775807) (hb : ∀ x ∈ xs, 0 ≤ x ∧ x ≤ 255) (hv : allV xs = ([], 21)) :
    Calls Try.prog 34 #[.slice A xs.length cap] w (ReadPost xs w) := by
  have hx2 := bk_new w #[.int .i64 0, .int .i64 0, .slice none 0 0, .slice none 0 0, .int .u64 0, .int .u64 0] 53
  have hB0 := bl_alloc (Below.refl _ w) (.cells #[.int .i64 0, .int .i64 0, .slice none 0 0, .slice none 0 0, .int .u64 0, .int .u64 0] 53)
  have hr0 := hr.below hB0
  have hall := fun W hW => rall_any A cap xs W hW hcap hcm hb
  unfold MakesAll at hall
  rw [hv] at hall
  have hno := noBytes_err hv
  dsimp only [List.length_nil] at hall
  replace hx2 := Lib.hid hx2
  replace hB0 := Lib.hid hB0
  replace hr0 := Lib.hid hr0
  replace hall := Lib.hid hall
  clear hr hb
  go_enter Try.func34, Try.ntmps34
  go_wp2_with (first | (go_at_call 54; (with_reducible refine (hall.out _ hr0.out).mono ?_); rintro e w1 ⟨v1, rfl, ho1, hq1⟩; obtain ⟨Al, cl, rfl, hrl⟩ := own_reads ho1; have hB1 := bl_then hB0.out hq1; have j2 := bk_below hq1 hx2.out; obtain ⟨x0, x1, x2, x3, x4, x5, xf0, xf1, xf2, xf3, xf4, xf5⟩ := cells6 j2))
  first | exact bodyPost_ret (res_rread (bk_set6 j2) _ rfl rfl) rfl (.inr ⟨hno, rfl, bl_set6 hB1 (Nat.le_refl _)⟩) | exact bodyPost_ret (res_rread (bk_alloc (bk_set6 j2) _) _ rfl rfl) rfl (.inr ⟨hno, rfl, bl_alloc (bl_set6 hB1 (Nat.le_refl _)) _⟩) | exact bodyPost_ret (res_rread (bk_set6 (bk_alloc j2 _)) _ rfl rfl) rfl (.inr ⟨hno, rfl, bl_set6 (bl_alloc hB1 _) (Nat.le_refl _)⟩)
set_option maxHeartbeats 3200000 in
theorem rread_nil (A : Option Addr) (cap : Nat) (xs : List Int) (w : World) (hr : ReadsInt w .u8 A xs.length xs) (hcap : xs.length ≤ cap) (hcm : cap ≤ 9223372036854775807) (hb : ∀ x ∈ xs, 0 ≤ x ∧ x ≤ 255) (hv : allV xs = ([], 0)) (hg : GoodL xs []) :
    Calls Try.prog 34 #[.slice A xs.length cap] w (ReadPost xs w) := by
  have hx2 := bk_new w #[.int .i64 0, .int .i64 0, .slice none 0 0, .slice none 0 0, .int .u64 0, .int .u64 0] 53
  have hB0 := bl_alloc (Below.refl _ w) (.cells #[.int .i64 0, .int .i64 0, .slice none 0 0, .slice none 0 0, .int .u64 0, .int .u64 0] 53)
  have hr0 := hr.below hB0
  have hall := fun W hW => rall_any A cap xs W hW hcap hcm hb
  unfold MakesAll at hall
  rw [hv] at hall
  have hno := (noEv_short (L := []) (by simp)).bytes hg
  dsimp only [List.length_nil] at hall
  replace hx2 := Lib.hid hx2
  replace hB0 := Lib.hid hB0
  replace hr0 := Lib.hid hr0
  replace hall := Lib.hid hall
  clear hr hb
  go_enter Try.func34, Try.ntmps34
  go_wp2_with (first | (go_at_call 54; (with_reducible refine (hall.out _ hr0.out).mono ?_); rintro e w1 ⟨v1, rfl, ho1, hq1⟩; obtain ⟨Al, cl, rfl, hrl⟩ := own_reads ho1; have hB1 := bl_then hB0.out hq1; have j2 := bk_below hq1 hx2.out; obtain ⟨x0, x1, x2, x3, x4, x5, xf0, xf1, xf2, xf3, xf4, xf5⟩ := cells6 j2))
  first | exact bodyPost_ret (res_rread (bk_set6 j2) _ rfl rfl) rfl (.inr ⟨hno, rfl, bl_set6 hB1 (Nat.le_refl _)⟩) | exact bodyPost_ret (res_rread (bk_alloc (bk_set6 j2) _) _ rfl rfl) rfl (.inr ⟨hno, rfl, bl_alloc (bl_set6 hB1 (Nat.le_refl _)) _⟩) | exact bodyPost_ret (res_rread (bk_set6 (bk_alloc j2 _)) _ rfl rfl) rfl (.inr ⟨hno, rfl, bl_set6 (bl_alloc hB1 _) (Nat.le_refl _)⟩)
set_option maxHeartbeats 3200000 in
theorem rread_one (A : Option Addr) (cap : Nat) (xs : List Int) (w : World) (hr : ReadsInt w .u8 A xs.length xs) (hcap : xs.length ≤ cap) (hcm : cap ≤ 9223372036854775807) (hb : ∀ x ∈ xs, 0 ≤ x ∧ x ≤ 255) (a : Int) (hv : allV xs = ([a], 0)) (hg : GoodL xs [a]) :
    Calls Try.prog 34 #[.slice A xs.length cap] w (ReadPost xs w) := by
  have hx2 := bk_new w #[.int .i64 0, .int .i64 0, .slice none 0 0, .slice none 0 0, .int .u64 0, .int .u64 0] 53
  have hB0 := bl_alloc (Below.refl _ w) (.cells #[.int .i64 0, .int .i64 0, .slice none 0 0, .slice none 0 0, .int .u64 0, .int .u64 0] 53)
  have hr0 := hr.below hB0
  have hall := fun W hW => rall_any A cap xs W hW hcap hcm hb
  unfold MakesAll at hall
  have hno := (noEv_short (L := [a]) (by simp)).bytes hg
  rw [hv] at hall
  obtain ⟨L, hL⟩ : ∃ L : List Int, [a] = L := ⟨_, rfl⟩
  have hLl : L.length = 1 := by rw [← hL]; rfl
  have hL0 : L.getD 0 0 = a := by rw [← hL]; rfl
  rw [hL] at hall
  dsimp only at hall
  rw [hLl] at hall
  replace hL := Lib.hid hL
  replace hLl := Lib.hid hLl
  replace hL0 := Lib.hid hL0
  replace hx2 := Lib.hid hx2
  replace hB0 := Lib.hid hB0
  replace hr0 := Lib.hid hr0
  replace hall := Lib.hid hall
  clear hr hb
  go_enter Try.func34, Try.ntmps34
  go_wp2_with (first | (go_at_call 54; (with_reducible refine (hall.out _ hr0.out).mono ?_); rintro e w1 ⟨v1, rfl, ho1, hq1⟩; obtain ⟨Al, cl, rfl, hrl⟩ := own_reads ho1; have hB1 := bl_then hB0.out hq1; have j2 := bk_below hq1 hx2.out; obtain ⟨x0, x1, x2, x3, x4, x5, xf0, xf1, xf2, xf3, xf4, xf5⟩ := cells6 j2; obtain ⟨ad, rfl, _⟩ := hrl.2.2 (Nat.succ_pos _); have c0 := rd_0 hrl (Nat.succ_pos _) hL0.out; have hlt1 := World.block_lt_of_cell? w1 ad c0; have hne1 : ¬ ad.block = w1.heap.size := Nat.ne_of_lt hlt1; have hcle := own_le ho1; have hcmx := own_capm ho1; have hlt2 := bk_lt j2; have hne2 : ¬ w.heap.size = w1.heap.size := Nat.ne_of_lt hlt2))
  first | exact bodyPost_ret (res_rread (bk_set6 j2) _ rfl rfl) rfl (.inr ⟨hno, rfl, bl_set6 hB1 (Nat.le_refl _)⟩) | exact bodyPost_ret (res_rread (bk_alloc (bk_set6 j2) _) _ rfl rfl) rfl (.inr ⟨hno, rfl, bl_alloc (bl_set6 hB1 (Nat.le_refl _)) _⟩) | exact bodyPost_ret (res_rread (bk_set6 (bk_alloc j2 _)) _ rfl rfl) rfl (.inr ⟨hno, rfl, bl_set6 (bl_alloc hB1 _) (Nat.le_refl _)⟩)
set_option maxHeartbeats 3200000 in
theorem rread_over (A : Option Addr) (cap : Nat) (xs : List Int) (w : World) (hr : ReadsInt w .u8 A xs.length xs) (hcap : xs.length ≤ cap) (hcm : cap ≤ 9223372036854775807) (hb : ∀ x ∈ xs, 0 ≤ x ∧ x ≤ 255) (a b : Int) (t : List Int) (q : Nat) (hq : t.length = q) (hv : allV xs = (a :: b :: t, 0)) (hg : GoodL xs (a :: b :: t)) (h3 : 3 < a) :
    Calls Try.prog 34 #[.slice A xs.length cap] w (ReadPost xs w) := by
  have hx2 := bk_new w #[.int .i64 0, .int .i64 0, .slice none 0 0, .slice none 0 0, .int .u64 0, .int .u64 0] 53
  have hB0 := bl_alloc (Below.refl _ w) (.cells #[.int .i64 0, .int .i64 0, .slice none 0 0, .slice none 0 0, .int .u64 0, .int .u64 0] 53)
  have hr0 := hr.below hB0
  have hall := fun W hW => rall_any A cap xs W hW hcap hcm hb
  unfold MakesAll at hall
  have hno := (noEv_kind (a := a) (t := b :: t) (by omega) (by omega) (by omega)).bytes hg
  rw [hv] at hall
  obtain ⟨L, hL⟩ : ∃ L, a :: b :: t = L := ⟨_, rfl⟩
  have hLl : L.length = q + 2 := by rw [← hL, List.length_cons, List.length_cons, hq]
  have hL0 : L.getD 0 0 = a := by rw [← hL]; rfl
  have hL1 : L.getD 1 0 = b := by rw [← hL]; rfl
  rw [hL] at hall
  dsimp only at hall
  rw [hLl] at hall
  replace hL := Lib.hid hL
  replace hLl := Lib.hid hLl
  replace hL0 := Lib.hid hL0
  replace hL1 := Lib.hid hL1
  have hq7 : decide ((q : Int) + 2 < 2) = false := decide_eq_false (by omega)
  have e1 : decide (3 < a) = true := decide_eq_true h3
  replace hx2 := Lib.hid hx2
  replace hB0 := Lib.hid hB0
  replace hr0 := Lib.hid hr0
  replace hall := Lib.hid hall
  clear hr hb
  go_enter Try.func34, Try.ntmps34
  go_wp2_with (first | (go_at_call 54; (with_reducible refine (hall.out _ hr0.out).mono ?_); rintro e w1 ⟨v1, rfl, ho1, hq1⟩; obtain ⟨Al, cl, rfl, hrl⟩ := own_reads ho1; have hB1 := bl_then hB0.out hq1; have j2 := bk_below hq1 hx2.out; obtain ⟨x0, x1, x2, x3, x4, x5, xf0, xf1, xf2, xf3, xf4, xf5⟩ := cells6 j2; obtain ⟨ad, rfl, _⟩ := hrl.2.2 (Nat.succ_pos _); have c0 := rd_0 hrl (Nat.succ_pos _) hL0.out; have hlt1 := World.block_lt_of_cell? w1 ad c0; have hne1 : ¬ ad.block = w1.heap.size := Nat.ne_of_lt hlt1; have hcle := own_le ho1; have hcmx := own_capm ho1; have hlt2 := bk_lt j2; have hne2 : ¬ w.heap.size = w1.heap.size := Nat.ne_of_lt hlt2))
  first | exact bodyPost_ret (res_rread (bk_set6 j2) _ rfl rfl) rfl (.inr ⟨hno, rfl, bl_set6 hB1 (Nat.le_refl _)⟩) | exact bodyPost_ret (res_rread (bk_alloc (bk_set6 j2) _) _ rfl rfl) rfl (.inr ⟨hno, rfl, bl_alloc (bl_set6 hB1 (Nat.le_refl _)) _⟩) | exact bodyPost_ret (res_rread (bk_set6 (bk_alloc j2 _)) _ rfl rfl) rfl (.inr ⟨hno, rfl, bl_set6 (bl_alloc hB1 _) (Nat.le_refl _)⟩)
set_option maxHeartbeats 3200000 in
theorem rread_2_len (A : Option Addr) (cap : Nat) (xs : List Int) (w : World) (hr : ReadsInt w .u8 A xs.length xs) (hcap : xs.length ≤ cap) (hcm : cap ≤ 9223372036854775807) (hb : ∀ x ∈ xs, 0 ≤ x ∧ x ≤ 255) (a b : Int) (t : List Int) (q : Nat) (hq : t.length = q) (hv : allV xs = (a :: b :: t, 0)) (hg : GoodL xs (a :: b :: t)) (ha : a = 2) (hne : q ≠ 1) :
    Calls Try.prog 34 #[.slice A xs.length cap] w (ReadPost xs w) := by
  have hx2 := bk_new w #[.int .i64 0, .int .i64 0, .slice none 0 0, .slice none 0 0, .int .u64 0, .int .u64 0] 53
  have hB0 := bl_alloc (Below.refl _ w) (.cells #[.int .i64 0, .int .i64 0, .slice none 0 0, .slice none 0 0, .int .u64 0, .int .u64 0] 53)
  have hr0 := hr.below hB0
  have hall := fun W hW => rall_any A cap xs W hW hcap hcm hb
  unfold MakesAll at hall
  have hno : NoBytes xs := by
    refine NoEv.bytes ?_ hg
    rw [ha]
    exact noEv_two (by rw [List.length_cons]; omega)
  rw [hv] at hall
  obtain ⟨L, hL⟩ : ∃ L, a :: b :: t = L := ⟨_, rfl⟩
  have hLl : L.length = q + 2 := by rw [← hL, List.length_cons, List.length_cons, hq]
  have hL0 : L.getD 0 0 = a := by rw [← hL]; rfl
  have hL1 : L.getD 1 0 = b := by rw [← hL]; rfl
  rw [hL] at hall
  dsimp only at hall
  rw [hLl] at hall
  replace hL := Lib.hid hL
  replace hLl := Lib.hid hLl
  replace hL0 := Lib.hid hL0
  replace hL1 := Lib.hid hL1
  have hq7 : decide ((q : Int) + 2 < 2) = false := decide_eq_false (by omega)
  subst ha
  have e1 : ((q : Int) + 2 != 3) = true := bne_iff_ne.2 (by omega)
  have e2 : ((q : Int) + 2 == 3) = false := beq_eq_false_iff_ne.2 (by omega)
  have e3 : decide (q = 1) = false := decide_eq_false (by omega)
  replace hx2 := Lib.hid hx2
  replace hB0 := Lib.hid hB0
  replace hr0 := Lib.hid hr0
  replace hall := Lib.hid hall
  clear hr hb
  go_enter Try.func34, Try.ntmps34
  go_wp2_with (first | (go_at_call 54; (with_reducible refine (hall.out _ hr0.out).mono ?_); rintro e w1 ⟨v1, rfl, ho1, hq1⟩; obtain ⟨Al, cl, rfl, hrl⟩ := own_reads ho1; have hB1 := bl_then hB0.out hq1; have j2 := bk_below hq1 hx2.out; obtain ⟨x0, x1, x2, x3, x4, x5, xf0, xf1, xf2, xf3, xf4, xf5⟩ := cells6 j2; obtain ⟨ad, rfl, _⟩ := hrl.2.2 (Nat.succ_pos _); have c0 := rd_0 hrl (Nat.succ_pos _) hL0.out; have hlt1 := World.block_lt_of_cell? w1 ad c0; have hne1 : ¬ ad.block = w1.heap.size := Nat.ne_of_lt hlt1; have hcle := own_le ho1; have hcmx := own_capm ho1; have hlt2 := bk_lt j2; have hne2 : ¬ w.heap.size = w1.heap.size := Nat.ne_of_lt hlt2; have c1 := rd_j hrl (j := 1) (Nat.succ_lt_succ (Nat.succ_pos _)) (by decide) hL1.out))
  exact bodyPost_ret (res_rread (bk_alloc (bk_set6 j2) _) _ rfl rfl) rfl (.inr ⟨hno, rfl, bl_alloc (bl_set6 hB1 (Nat.le_refl _)) _⟩)
set_option maxHeartbeats 3200000 in
theorem rread_2_big (A : Option Addr) (cap : Nat) (xs : List Int) (w : World) (hr : ReadsInt w .u8 A xs.length xs) (hcap : xs.length ≤ cap) (hcm : cap ≤ 9223372036854775807) (hb : ∀ x ∈ xs, 0 ≤ x ∧ x ≤ 255) (b c : Int) (hv : allV xs = ([2, b, c], 0)) (hg : GoodL xs [2, b, c]) (hbig : 255 < b) :
    Calls Try.prog 34 #[.slice A xs.length cap] w (ReadPost xs w) := by
  have hx2 := bk_new w #[.int .i64 0, .int .i64 0, .slice none 0 0, .slice none 0 0, .int .u64 0, .int .u64 0] 53
  have hB0 := bl_alloc (Below.refl _ w) (.cells #[.int .i64 0, .int .i64 0, .slice none 0 0, .slice none 0 0, .int .u64 0, .int .u64 0] 53)
  have hr0 := hr.below hB0
  have hall := fun W hW => rall_any A cap xs W hW hcap hcm hb
  unfold MakesAll at hall
  have hno := (noEv_big (b := b) (c := c) hbig).bytes hg
  have e1 : decide (255 < b) = true := decide_eq_true hbig
  rw [hv] at hall
  obtain ⟨L, hL⟩ : ∃ L : List Int, [2, b, c] = L := ⟨_, rfl⟩
  have hLl : L.length = 3 := by rw [← hL]; rfl
  have hL0 : L.getD 0 0 = 2 := by rw [← hL]; rfl
  have hL1 : L.getD 1 0 = b := by rw [← hL]; rfl
  have hL2 : L.getD 2 0 = c := by rw [← hL]; rfl
  rw [hL] at hall
  dsimp only at hall
  rw [hLl] at hall
  replace hL := Lib.hid hL
  replace hLl := Lib.hid hLl
  replace hL0 := Lib.hid hL0
  replace hL1 := Lib.hid hL1
  replace hL2 := Lib.hid hL2
  replace hx2 := Lib.hid hx2
  replace hB0 := Lib.hid hB0
  replace hr0 := Lib.hid hr0
  replace hall := Lib.hid hall
  clear hr hb
  go_enter Try.func34, Try.ntmps34
  go_wp2_with (first | (go_at_call 54; (with_reducible refine (hall.out _ hr0.out).mono ?_); rintro e w1 ⟨v1, rfl, ho1, hq1⟩; obtain ⟨Al, cl, rfl, hrl⟩ := own_reads ho1; have hB1 := bl_then hB0.out hq1; have j2 := bk_below hq1 hx2.out; obtain ⟨x0, x1, x2, x3, x4, x5, xf0, xf1, xf2, xf3, xf4, xf5⟩ := cells6 j2; obtain ⟨ad, rfl, _⟩ := hrl.2.2 (Nat.succ_pos _); have c0 := rd_0 hrl (Nat.succ_pos _) hL0.out; have hlt1 := World.block_lt_of_cell? w1 ad c0; have hne1 : ¬ ad.block = w1.heap.size := Nat.ne_of_lt hlt1; have hcle := own_le ho1; have hcmx := own_capm ho1; have hlt2 := bk_lt j2; have hne2 : ¬ w.heap.size = w1.heap.size := Nat.ne_of_lt hlt2; have c1 := rd_j hrl (j := 1) (by decide) (by decide) hL1.out; have c2 := rd_j hrl (j := 2) (by decide) (by decide) hL2.out))
  exact bodyPost_ret (res_rread (bk_alloc (bk_set6 j2) _) _ rfl rfl) rfl (.inr ⟨hno, rfl, bl_alloc (bl_set6 hB1 (Nat.le_refl _)) _⟩)
set_option maxHeartbeats 3200000 in
theorem rread_2_no (A : Option Addr) (cap : Nat) (xs : List Int) (w : World) (hr : ReadsInt w .u8 A xs.length xs) (hcap : xs.length ≤ cap) (hcm : cap ≤ 9223372036854775807) (hb : ∀ x ∈ xs, 0 ≤ x ∧ x ≤ 255) (b c : Int) (hv : allV xs = ([2, b, c], 0)) (hg : GoodL xs [2, b, c]) (hb0 : 0 ≤ b) (hbig : b ≤ 255) (hR : ¬ RightE 2 b c 0 [] []) :
    Calls Try.prog 34 #[.slice A xs.length cap] w (ReadPost xs w) := by
  have hx2 := bk_new w #[.int .i64 0, .int .i64 0, .slice none 0 0, .slice none 0 0, .int .u64 0, .int .u64 0] 53
  have hB0 := bl_alloc (Below.refl _ w) (.cells #[.int .i64 0, .int .i64 0, .slice none 0 0, .slice none 0 0, .int .u64 0, .int .u64 0] 53)
  have hr0 := hr.below hB0
  have hall := fun W hW => rall_any A cap xs W hW hcap hcm hb
  unfold MakesAll at hall
  have hcand := cand_2 b c
  have hby := fun W => rbytes_zero 2 b c 0 W
  unfold MakesBytes at hby
  have hxb := hb
  rw [bytesV_no hR] at hby
  have hno := (hcand.no hR).bytes hg
  dsimp only [List.length_nil] at hby
  clear hcand hxb
  replace hby := Lib.hid hby
  rw [hv] at hall
  obtain ⟨L, hL⟩ : ∃ L : List Int, [2, b, c] = L := ⟨_, rfl⟩
  have hLl : L.length = 3 := by rw [← hL]; rfl
  have hL0 : L.getD 0 0 = 2 := by rw [← hL]; rfl
  have hL1 : L.getD 1 0 = b := by rw [← hL]; rfl
  have hL2 : L.getD 2 0 = c := by rw [← hL]; rfl
  rw [hL] at hall
  dsimp only at hall
  rw [hLl] at hall
  replace hL := Lib.hid hL
  replace hLl := Lib.hid hLl
  replace hL0 := Lib.hid hL0
  replace hL1 := Lib.hid hL1
  replace hL2 := Lib.hid hL2
  have e1 : decide (255 < b) = false := decide_eq_false (by omega)
  have e2 : IntKind.i64.wrap b = b := by rw [IntKind.wrap_i64]; omega
  replace hx2 := Lib.hid hx2
  replace hB0 := Lib.hid hB0
  replace hr0 := Lib.hid hr0
  replace hall := Lib.hid hall
  clear hr hb
  go_enter Try.func34, Try.ntmps34
  go_wp2_with (first | (go_at_call 54; (with_reducible refine (hall.out _ hr0.out).mono ?_); rintro e w1 ⟨v1, rfl, ho1, hq1⟩; obtain ⟨Al, cl, rfl, hrl⟩ := own_reads ho1; have hB1 := bl_then hB0.out hq1; have j2 := bk_below hq1 hx2.out; obtain ⟨x0, x1, x2, x3, x4, x5, xf0, xf1, xf2, xf3, xf4, xf5⟩ := cells6 j2; obtain ⟨ad, rfl, _⟩ := hrl.2.2 (Nat.succ_pos _); have c0 := rd_0 hrl (Nat.succ_pos _) hL0.out; have hlt1 := World.block_lt_of_cell? w1 ad c0; have hne1 : ¬ ad.block = w1.heap.size := Nat.ne_of_lt hlt1; have hcle := own_le ho1; have hcmx := own_capm ho1; have hlt2 := bk_lt j2; have hne2 : ¬ w.heap.size = w1.heap.size := Nat.ne_of_lt hlt2; have c1 := rd_j hrl (j := 1) (by decide) (by decide) hL1.out; have c2 := rd_j hrl (j := 2) (by decide) (by decide) hL2.out) | (go_at_call 29; (with_reducible refine (hby.out _).mono ?_); rintro e w3 ⟨v3, rfl, ho3, hq3⟩; obtain ⟨Ao, co, rfl, hro⟩ := own_reads ho3; have j6b := bk_below hq3 (bk_new w1 #[.int .i64 2, .int .i64 b, .slice none 0 0, .slice none 0 0, .int .u64 c, .int .u64 0] 53); have j2b := bk_below hq3 (bk_alloc j2 (.cells #[.int .i64 2, .int .i64 b, .slice none 0 0, .slice none 0 0, .int .u64 c, .int .u64 0] 53)); have hB3 := bl_then (bl_alloc hB1 (.cells #[.int .i64 2, .int .i64 b, .slice none 0 0, .slice none 0 0, .int .u64 c, .int .u64 0] 53)) hq3; obtain ⟨y0, y1, y2, y3, y4, y5, yf0, yf1, yf2, yf3, yf4, yf5⟩ := cells6 j6b; obtain ⟨z0, z1, z2, z3, z4, z5, zf0, zf1, zf2, zf3, zf4, zf5⟩ := cells6 j2b))
  exact bodyPost_ret (res_rread (bk_set6 j2b) _ rfl rfl) rfl (.inr ⟨hno, rfl, bl_set6 hB3 (Nat.le_refl _)⟩)
set_option maxHeartbeats 3200000 in
theorem rread_2_eq (A : Option Addr) (cap : Nat) (xs : List Int) (w : World) (hr : ReadsInt w .u8 A xs.length xs) (hcap : xs.length ≤ cap) (hcm : cap ≤ 9223372036854775807) (hb : ∀ x ∈ xs, 0 ≤ x ∧ x ≤ 255) (b c : Int) (hv : allV xs = ([2, b, c], 0)) (hg : GoodL xs [2, b, c]) (hb0 : 0 ≤ b) (hbig : b ≤ 255) (hR : RightE 2 b c 0 [] []) (hX : encL (evNums 2 b c 0 [] []) = xs) :
    Calls Try.prog 34 #[.slice A xs.length cap] w (ReadPost xs w) := by
  have hx2 := bk_new w #[.int .i64 0, .int .i64 0, .slice none 0 0, .slice none 0 0, .int .u64 0, .int .u64 0] 53
  have hB0 := bl_alloc (Below.refl _ w) (.cells #[.int .i64 0, .int .i64 0, .slice none 0 0, .slice none 0 0, .int .u64 0, .int .u64 0] 53)
  have hr0 := hr.below hB0
  have hall := fun W hW => rall_any A cap xs W hW hcap hcm hb
  unfold MakesAll at hall
  have hcand := cand_2 b c
  have hby := fun W => rbytes_zero 2 b c 0 W
  unfold MakesBytes at hby
  have hxb := hb
  rw [bytesV_yes hR] at hby
  dsimp only at hby
  have hst := strs_eq hX
  have hXX := hX.symm
  replace hXX := Lib.hid hXX
  have cv1 := fun W A cc h => cv8 W A cc (encL (evNums 2 b c 0 [] [])) h
  have cv2 := fun W A cc h => cv8 W A cc xs h
  obtain ⟨S1, hS1⟩ : ∃ S, strOfNums (encL (evNums 2 b c 0 [] [])) = S := ⟨_, rfl⟩
  obtain ⟨S2, hS2⟩ : ∃ S, strOfNums xs = S := ⟨_, rfl⟩
  rw [hS1] at cv1 hst
  rw [hS2] at cv2 hst
  obtain ⟨X, hXe⟩ : ∃ X, encL (evNums 2 b c 0 [] []) = X := ⟨_, rfl⟩
  rw [hXe] at cv1 hby
  obtain ⟨hst1, hst2⟩ := hst
  clear hS1 hS2 hX
  replace hXe := Lib.hid hXe
  replace cv1 := Lib.hid cv1
  replace cv2 := Lib.hid cv2
  clear hcand hxb
  replace hby := Lib.hid hby
  rw [hv] at hall
  obtain ⟨L, hL⟩ : ∃ L : List Int, [2, b, c] = L := ⟨_, rfl⟩
  have hLl : L.length = 3 := by rw [← hL]; rfl
  have hL0 : L.getD 0 0 = 2 := by rw [← hL]; rfl
  have hL1 : L.getD 1 0 = b := by rw [← hL]; rfl
  have hL2 : L.getD 2 0 = c := by rw [← hL]; rfl
  rw [hL] at hall
  dsimp only at hall
  rw [hLl] at hall
  replace hL := Lib.hid hL
  replace hLl := Lib.hid hLl
  replace hL0 := Lib.hid hL0
  replace hL1 := Lib.hid hL1
  replace hL2 := Lib.hid hL2
  have e1 : decide (255 < b) = false := decide_eq_false (by omega)
  have e2 : IntKind.i64.wrap b = b := by rw [IntKind.wrap_i64]; omega
  replace hx2 := Lib.hid hx2
  replace hB0 := Lib.hid hB0
  replace hr0 := Lib.hid hr0
  replace hall := Lib.hid hall
  clear hr hb
  go_enter Try.func34, Try.ntmps34
  go_wp2_with (first | (go_at_call 54; (with_reducible refine (hall.out _ hr0.out).mono ?_); rintro e w1 ⟨v1, rfl, ho1, hq1⟩; obtain ⟨Al, cl, rfl, hrl⟩ := own_reads ho1; have hB1 := bl_then hB0.out hq1; have j2 := bk_below hq1 hx2.out; obtain ⟨x0, x1, x2, x3, x4, x5, xf0, xf1, xf2, xf3, xf4, xf5⟩ := cells6 j2; obtain ⟨ad, rfl, _⟩ := hrl.2.2 (Nat.succ_pos _); have c0 := rd_0 hrl (Nat.succ_pos _) hL0.out; have hlt1 := World.block_lt_of_cell? w1 ad c0; have hne1 : ¬ ad.block = w1.heap.size := Nat.ne_of_lt hlt1; have hcle := own_le ho1; have hcmx := own_capm ho1; have hlt2 := bk_lt j2; have hne2 : ¬ w.heap.size = w1.heap.size := Nat.ne_of_lt hlt2; have c1 := rd_j hrl (j := 1) (by decide) (by decide) hL1.out; have c2 := rd_j hrl (j := 2) (by decide) (by decide) hL2.out) | (go_at_call 29; (with_reducible refine (hby.out _).mono ?_); rintro e w3 ⟨v3, rfl, ho3, hq3⟩; obtain ⟨Ao, co, rfl, hro⟩ := own_reads ho3; have j6b := bk_below hq3 (bk_new w1 #[.int .i64 2, .int .i64 b, .slice none 0 0, .slice none 0 0, .int .u64 c, .int .u64 0] 53); have j2b := bk_below hq3 (bk_alloc j2 (.cells #[.int .i64 2, .int .i64 b, .slice none 0 0, .slice none 0 0, .int .u64 c, .int .u64 0] 53)); have hB3 := bl_then (bl_alloc hB1 (.cells #[.int .i64 2, .int .i64 b, .slice none 0 0, .slice none 0 0, .int .u64 c, .int .u64 0] 53)) hq3; obtain ⟨y0, y1, y2, y3, y4, y5, yf0, yf1, yf2, yf3, yf4, yf5⟩ := cells6 j6b; obtain ⟨z0, z1, z2, z3, z4, z5, zf0, zf1, zf2, zf3, zf4, zf5⟩ := cells6 j2b; have k1 := cv1.out w3 Ao co hro; have k2 := cv2.out w3 A cap (hr0.out.below (bl_then (bl_then hq1 (bl_alloc (Below.refl _ w1) (.cells #[.int .i64 2, .int .i64 b, .slice none 0 0, .slice none 0 0, .int .u64 c, .int .u64 0] 53))) hq3))))
  exact bodyPost_ret (res_rread (bk_set6 j2b) _ rfl rfl) rfl (.inl ⟨2, b, c, 0, [], [], none, none, 0, 0, rfl, hR, fun i hi => absurd hi (by simp), hXX.out, own_nil _ _ _ _, own_nil _ _ _ _, bl_set6 hB3 (Nat.le_refl _)⟩)
set_option maxHeartbeats 3200000 in
theorem rread_2_ne (A : Option Addr) (cap : Nat) (xs : List Int) (w : World) (hr : ReadsInt w .u8 A xs.length xs) (hcap : xs.length ≤ cap) (hcm : cap ≤ 9223372036854775807) (hb : ∀ x ∈ xs, 0 ≤ x ∧ x ≤ 255) (b c : Int) (hv : allV xs = ([2, b, c], 0)) (hg : GoodL xs [2, b, c]) (hb0 : 0 ≤ b) (hbig : b ≤ 255) (hR : RightE 2 b c 0 [] []) (hX : encL (evNums 2 b c 0 [] []) ≠ xs) :
    Calls Try.prog 34 #[.slice A xs.length cap] w (ReadPost xs w) := by
  have hx2 := bk_new w #[.int .i64 0, .int .i64 0, .slice none 0 0, .slice none 0 0, .int .u64 0, .int .u64 0] 53
  have hB0 := bl_alloc (Below.refl _ w) (.cells #[.int .i64 0, .int .i64 0, .slice none 0 0, .slice none 0 0, .int .u64 0, .int .u64 0] 53)
  have hr0 := hr.below hB0
  have hall := fun W hW => rall_any A cap xs W hW hcap hcm hb
  unfold MakesAll at hall
  have hcand := cand_2 b c
  have hby := fun W => rbytes_zero 2 b c 0 W
  unfold MakesBytes at hby
  have hxb := hb
  rw [bytesV_yes hR] at hby
  dsimp only at hby
  have hno := hcand.ne hg hX
  have hst := strs_ne (encL_bytes _) hb hX
  have cv1 := fun W A cc h => cv8 W A cc (encL (evNums 2 b c 0 [] [])) h
  have cv2 := fun W A cc h => cv8 W A cc xs h
  obtain ⟨S1, hS1⟩ : ∃ S, strOfNums (encL (evNums 2 b c 0 [] [])) = S := ⟨_, rfl⟩
  obtain ⟨S2, hS2⟩ : ∃ S, strOfNums xs = S := ⟨_, rfl⟩
  rw [hS1] at cv1 hst
  rw [hS2] at cv2 hst
  obtain ⟨X, hXe⟩ : ∃ X, encL (evNums 2 b c 0 [] []) = X := ⟨_, rfl⟩
  rw [hXe] at cv1 hby
  obtain ⟨hst1, hst2⟩ := hst
  clear hS1 hS2 hX
  replace hXe := Lib.hid hXe
  replace cv1 := Lib.hid cv1
  replace cv2 := Lib.hid cv2
  clear hcand hxb
  replace hby := Lib.hid hby
  rw [hv] at hall
  obtain ⟨L, hL⟩ : ∃ L : List Int, [2, b, c] = L := ⟨_, rfl⟩
  have hLl : L.length = 3 := by rw [← hL]; rfl
  have hL0 : L.getD 0 0 = 2 := by rw [← hL]; rfl
  have hL1 : L.getD 1 0 = b := by rw [← hL]; rfl
  have hL2 : L.getD 2 0 = c := by rw [← hL]; rfl
  rw [hL] at hall
  dsimp only at hall
  rw [hLl] at hall
  replace hL := Lib.hid hL
  replace hLl := Lib.hid hLl
  replace hL0 := Lib.hid hL0
  replace hL1 := Lib.hid hL1
  replace hL2 := Lib.hid hL2
  have e1 : decide (255 < b) = false := decide_eq_false (by omega)
  have e2 : IntKind.i64.wrap b = b := by rw [IntKind.wrap_i64]; omega
  replace hx2 := Lib.hid hx2
  replace hB0 := Lib.hid hB0
  replace hr0 := Lib.hid hr0
  replace hall := Lib.hid hall
  clear hr hb
  go_enter Try.func34, Try.ntmps34
  go_wp2_with (first | (go_at_call 54; (with_reducible refine (hall.out _ hr0.out).mono ?_); rintro e w1 ⟨v1, rfl, ho1, hq1⟩; obtain ⟨Al, cl, rfl, hrl⟩ := own_reads ho1; have hB1 := bl_then hB0.out hq1; have j2 := bk_below hq1 hx2.out; obtain ⟨x0, x1, x2, x3, x4, x5, xf0, xf1, xf2, xf3, xf4, xf5⟩ := cells6 j2; obtain ⟨ad, rfl, _⟩ := hrl.2.2 (Nat.succ_pos _); have c0 := rd_0 hrl (Nat.succ_pos _) hL0.out; have hlt1 := World.block_lt_of_cell? w1 ad c0; have hne1 : ¬ ad.block = w1.heap.size := Nat.ne_of_lt hlt1; have hcle := own_le ho1; have hcmx := own_capm ho1; have hlt2 := bk_lt j2; have hne2 : ¬ w.heap.size = w1.heap.size := Nat.ne_of_lt hlt2; have c1 := rd_j hrl (j := 1) (by decide) (by decide) hL1.out; have c2 := rd_j hrl (j := 2) (by decide) (by decide) hL2.out) | (go_at_call 29; (with_reducible refine (hby.out _).mono ?_); rintro e w3 ⟨v3, rfl, ho3, hq3⟩; obtain ⟨Ao, co, rfl, hro⟩ := own_reads ho3; have j6b := bk_below hq3 (bk_new w1 #[.int .i64 2, .int .i64 b, .slice none 0 0, .slice none 0 0, .int .u64 c, .int .u64 0] 53); have j2b := bk_below hq3 (bk_alloc j2 (.cells #[.int .i64 2, .int .i64 b, .slice none 0 0, .slice none 0 0, .int .u64 c, .int .u64 0] 53)); have hB3 := bl_then (bl_alloc hB1 (.cells #[.int .i64 2, .int .i64 b, .slice none 0 0, .slice none 0 0, .int .u64 c, .int .u64 0] 53)) hq3; obtain ⟨y0, y1, y2, y3, y4, y5, yf0, yf1, yf2, yf3, yf4, yf5⟩ := cells6 j6b; obtain ⟨z0, z1, z2, z3, z4, z5, zf0, zf1, zf2, zf3, zf4, zf5⟩ := cells6 j2b; have k1 := cv1.out w3 Ao co hro; have k2 := cv2.out w3 A cap (hr0.out.below (bl_then (bl_then hq1 (bl_alloc (Below.refl _ w1) (.cells #[.int .i64 2, .int .i64 b, .slice none 0 0, .slice none 0 0, .int .u64 c, .int .u64 0] 53))) hq3))))
  exact bodyPost_ret (res_rread (bk_set6 j2b) _ rfl rfl) rfl (.inr ⟨hno, rfl, bl_set6 hB3 (Nat.le_refl _)⟩)
set_option maxHeartbeats 3200000 in
theorem rread_3_no (A : Option Addr) (cap : Nat) (xs : List Int) (w : World) (hr : ReadsInt w .u8 A xs.length xs) (hcap : xs.length ≤ cap) (hcm : cap ≤ 9223372036854775807) (hb : ∀ x ∈ xs, 0 ≤ x ∧ x ≤ 255) (b : Int) (t : List Int) (q : Nat) (hq : t.length = q) (hv : allV xs = ((3 : Int) :: b :: t, 0)) (hg : GoodL xs ((3 : Int) :: b :: t)) (hR : ¬ RightE 3 0 0 b [] []) :
    Calls Try.prog 34 #[.slice A xs.length cap] w (ReadPost xs w) := by
  have hx2 := bk_new w #[.int .i64 0, .int .i64 0, .slice none 0 0, .slice none 0 0, .int .u64 0, .int .u64 0] 53
  have hB0 := bl_alloc (Below.refl _ w) (.cells #[.int .i64 0, .int .i64 0, .slice none 0 0, .slice none 0 0, .int .u64 0, .int .u64 0] 53)
  have hr0 := hr.below hB0
  have hall := fun W hW => rall_any A cap xs W hW hcap hcm hb
  unfold MakesAll at hall
  have hcand := cand_3 b t
  have hby := fun W => rbytes_zero 3 0 0 b W
  unfold MakesBytes at hby
  have hxb := hb
  rw [bytesV_no hR] at hby
  have hno := (hcand.no hR).bytes hg
  dsimp only [List.length_nil] at hby
  clear hcand hxb
  replace hby := Lib.hid hby
  obtain ⟨a, ha⟩ : ∃ a : Int, a = 3 := ⟨_, rfl⟩
  rw [← ha] at hv
  rw [hv] at hall
  obtain ⟨L, hL⟩ : ∃ L, a :: b :: t = L := ⟨_, rfl⟩
  have hLl : L.length = q + 2 := by rw [← hL, List.length_cons, List.length_cons, hq]
  have hL0 : L.getD 0 0 = a := by rw [← hL]; rfl
  have hL1 : L.getD 1 0 = b := by rw [← hL]; rfl
  rw [hL] at hall
  dsimp only at hall
  rw [hLl] at hall
  replace hL := Lib.hid hL
  replace hLl := Lib.hid hLl
  replace hL0 := Lib.hid hL0
  replace hL1 := Lib.hid hL1
  have hq7 : decide ((q : Int) + 2 < 2) = false := decide_eq_false (by omega)
  subst ha
  replace hx2 := Lib.hid hx2
  replace hB0 := Lib.hid hB0
  replace hr0 := Lib.hid hr0
  replace hall := Lib.hid hall
  clear hr hb
  go_enter Try.func34, Try.ntmps34
  go_wp2_with (first | (go_at_call 54; (with_reducible refine (hall.out _ hr0.out).mono ?_); rintro e w1 ⟨v1, rfl, ho1, hq1⟩; obtain ⟨Al, cl, rfl, hrl⟩ := own_reads ho1; have hB1 := bl_then hB0.out hq1; have j2 := bk_below hq1 hx2.out; obtain ⟨x0, x1, x2, x3, x4, x5, xf0, xf1, xf2, xf3, xf4, xf5⟩ := cells6 j2; obtain ⟨ad, rfl, _⟩ := hrl.2.2 (Nat.succ_pos _); have c0 := rd_0 hrl (Nat.succ_pos _) hL0.out; have hlt1 := World.block_lt_of_cell? w1 ad c0; have hne1 : ¬ ad.block = w1.heap.size := Nat.ne_of_lt hlt1; have hcle := own_le ho1; have hcmx := own_capm ho1; have hlt2 := bk_lt j2; have hne2 : ¬ w.heap.size = w1.heap.size := Nat.ne_of_lt hlt2; have c1 := rd_j hrl (j := 1) (Nat.succ_lt_succ (Nat.succ_pos _)) (by decide) hL1.out) | (go_at_call 29; (with_reducible refine (hby.out _).mono ?_); rintro e w3 ⟨v3, rfl, ho3, hq3⟩; obtain ⟨Ao, co, rfl, hro⟩ := own_reads ho3; have j6b := bk_below hq3 (bk_new w1 #[.int .i64 3, .int .i64 0, .slice none 0 0, .slice none 0 0, .int .u64 0, .int .u64 b] 53); have j2b := bk_below hq3 (bk_alloc j2 (.cells #[.int .i64 3, .int .i64 0, .slice none 0 0, .slice none 0 0, .int .u64 0, .int .u64 b] 53)); have hB3 := bl_then (bl_alloc hB1 (.cells #[.int .i64 3, .int .i64 0, .slice none 0 0, .slice none 0 0, .int .u64 0, .int .u64 b] 53)) hq3; obtain ⟨y0, y1, y2, y3, y4, y5, yf0, yf1, yf2, yf3, yf4, yf5⟩ := cells6 j6b; obtain ⟨z0, z1, z2, z3, z4, z5, zf0, zf1, zf2, zf3, zf4, zf5⟩ := cells6 j2b))
  exact bodyPost_ret (res_rread (bk_set6 j2b) _ rfl rfl) rfl (.inr ⟨hno, rfl, bl_set6 hB3 (Nat.le_refl _)⟩)
set_option maxHeartbeats 3200000 in
theorem rread_3_eq (A : Option Addr) (cap : Nat) (xs : List Int) (w : World) (hr : ReadsInt w .u8 A xs.length xs) (hcap : xs.length ≤ cap) (hcm : cap ≤ 9223372036854775807) (hb : ∀ x ∈ xs, 0 ≤ x ∧ x ≤ 255) (b : Int) (t : List Int) (q : Nat) (hq : t.length = q) (hv : allV xs = ((3 : Int) :: b :: t, 0)) (hg : GoodL xs ((3 : Int) :: b :: t)) (hR : RightE 3 0 0 b [] []) (hX : encL (evNums 3 0 0 b [] []) = xs) :
    Calls Try.prog 34 #[.slice A xs.length cap] w (ReadPost xs w) := by
  have hx2 := bk_new w #[.int .i64 0, .int .i64 0, .slice none 0 0, .slice none 0 0, .int .u64 0, .int .u64 0] 53
  have hB0 := bl_alloc (Below.refl _ w) (.cells #[.int .i64 0, .int .i64 0, .slice none 0 0, .slice none 0 0, .int .u64 0, .int .u64 0] 53)
  have hr0 := hr.below hB0
  have hall := fun W hW => rall_any A cap xs W hW hcap hcm hb
  unfold MakesAll at hall
  have hcand := cand_3 b t
  have hby := fun W => rbytes_zero 3 0 0 b W
  unfold MakesBytes at hby
  have hxb := hb
  rw [bytesV_yes hR] at hby
  dsimp only at hby
  have hst := strs_eq hX
  have hXX := hX.symm
  replace hXX := Lib.hid hXX
  have cv1 := fun W A cc h => cv8 W A cc (encL (evNums 3 0 0 b [] [])) h
  have cv2 := fun W A cc h => cv8 W A cc xs h
  obtain ⟨S1, hS1⟩ : ∃ S, strOfNums (encL (evNums 3 0 0 b [] [])) = S := ⟨_, rfl⟩
  obtain ⟨S2, hS2⟩ : ∃ S, strOfNums xs = S := ⟨_, rfl⟩
  rw [hS1] at cv1 hst
  rw [hS2] at cv2 hst
  obtain ⟨X, hXe⟩ : ∃ X, encL (evNums 3 0 0 b [] []) = X := ⟨_, rfl⟩
  rw [hXe] at cv1 hby
  obtain ⟨hst1, hst2⟩ := hst
  clear hS1 hS2 hX
  replace hXe := Lib.hid hXe
  replace cv1 := Lib.hid cv1
  replace cv2 := Lib.hid cv2
  clear hcand hxb
  replace hby := Lib.hid hby
  obtain ⟨a, ha⟩ : ∃ a : Int, a = 3 := ⟨_, rfl⟩
  rw [← ha] at hv
  rw [hv] at hall
  obtain ⟨L, hL⟩ : ∃ L, a :: b :: t = L := ⟨_, rfl⟩
  have hLl : L.length = q + 2 := by rw [← hL, List.length_cons, List.length_cons, hq]
  have hL0 : L.getD 0 0 = a := by rw [← hL]; rfl
  have hL1 : L.getD 1 0 = b := by rw [← hL]; rfl
  rw [hL] at hall
  dsimp only at hall
  rw [hLl] at hall
  replace hL := Lib.hid hL
  replace hLl := Lib.hid hLl
  replace hL0 := Lib.hid hL0
  replace hL1 := Lib.hid hL1
  have hq7 : decide ((q : Int) + 2 < 2) = false := decide_eq_false (by omega)
  subst ha
  replace hx2 := Lib.hid hx2
  replace hB0 := Lib.hid hB0
  replace hr0 := Lib.hid hr0
  replace hall := Lib.hid hall
  clear hr hb
  go_enter Try.func34, Try.ntmps34
  go_wp2_with (first | (go_at_call 54; (with_reducible refine (hall.out _ hr0.out).mono ?_); rintro e w1 ⟨v1, rfl, ho1, hq1⟩; obtain ⟨Al, cl, rfl, hrl⟩ := own_reads ho1; have hB1 := bl_then hB0.out hq1; have j2 := bk_below hq1 hx2.out; obtain ⟨x0, x1, x2, x3, x4, x5, xf0, xf1, xf2, xf3, xf4, xf5⟩ := cells6 j2; obtain ⟨ad, rfl, _⟩ := hrl.2.2 (Nat.succ_pos _); have c0 := rd_0 hrl (Nat.succ_pos _) hL0.out; have hlt1 := World.block_lt_of_cell? w1 ad c0; have hne1 : ¬ ad.block = w1.heap.size := Nat.ne_of_lt hlt1; have hcle := own_le ho1; have hcmx := own_capm ho1; have hlt2 := bk_lt j2; have hne2 : ¬ w.heap.size = w1.heap.size := Nat.ne_of_lt hlt2; have c1 := rd_j hrl (j := 1) (Nat.succ_lt_succ (Nat.succ_pos _)) (by decide) hL1.out) | (go_at_call 29; (with_reducible refine (hby.out _).mono ?_); rintro e w3 ⟨v3, rfl, ho3, hq3⟩; obtain ⟨Ao, co, rfl, hro⟩ := own_reads ho3; have j6b := bk_below hq3 (bk_new w1 #[.int .i64 3, .int .i64 0, .slice none 0 0, .slice none 0 0, .int .u64 0, .int .u64 b] 53); have j2b := bk_below hq3 (bk_alloc j2 (.cells #[.int .i64 3, .int .i64 0, .slice none 0 0, .slice none 0 0, .int .u64 0, .int .u64 b] 53)); have hB3 := bl_then (bl_alloc hB1 (.cells #[.int .i64 3, .int .i64 0, .slice none 0 0, .slice none 0 0, .int .u64 0, .int .u64 b] 53)) hq3; obtain ⟨y0, y1, y2, y3, y4, y5, yf0, yf1, yf2, yf3, yf4, yf5⟩ := cells6 j6b; obtain ⟨z0, z1, z2, z3, z4, z5, zf0, zf1, zf2, zf3, zf4, zf5⟩ := cells6 j2b; have k1 := cv1.out w3 Ao co hro; have k2 := cv2.out w3 A cap (hr0.out.below (bl_then (bl_then hq1 (bl_alloc (Below.refl _ w1) (.cells #[.int .i64 3, .int .i64 0, .slice none 0 0, .slice none 0 0, .int .u64 0, .int .u64 b] 53))) hq3))))
  exact bodyPost_ret (res_rread (bk_set6 j2b) _ rfl rfl) rfl (.inl ⟨3, 0, 0, b, [], [], none, none, 0, 0, rfl, hR, fun i hi => absurd hi (by simp), hXX.out, own_nil _ _ _ _, own_nil _ _ _ _, bl_set6 hB3 (Nat.le_refl _)⟩)
set_option maxHeartbeats 3200000 in
theorem rread_3_ne (A : Option Addr) (cap : Nat) (xs : List Int) (w : World) (hr : ReadsInt w .u8 A xs.length xs) (hcap : xs.length ≤ cap) (hcm : cap ≤ 9223372036854775807) (hb : ∀ x ∈ xs, 0 ≤ x ∧ x ≤ 255) (b : Int) (t : List Int) (q : Nat) (hq : t.length = q) (hv : allV xs = ((3 : Int) :: b :: t, 0)) (hg : GoodL xs ((3 : Int) :: b :: t)) (hR : RightE 3 0 0 b [] []) (hX : encL (evNums 3 0 0 b [] []) ≠ xs) :
    Calls Try.prog 34 #[.slice A xs.length cap] w (ReadPost xs w) := by
  have hx2 := bk_new w #[.int .i64 0, .int .i64 0, .slice none 0 0, .slice none 0 0, .int .u64 0, .int .u64 0] 53
  have hB0 := bl_alloc (Below.refl _ w) (.cells #[.int .i64 0, .int .i64 0, .slice none 0 0, .slice none 0 0, .int .u64 0, .int .u64 0] 53)
  have hr0 := hr.below hB0
  have hall := fun W hW => rall_any A cap xs W hW hcap hcm hb
  unfold MakesAll at hall
  have hcand := cand_3 b t
  have hby := fun W => rbytes_zero 3 0 0 b W
  unfold MakesBytes at hby
  have hxb := hb
  rw [bytesV_yes hR] at hby
  dsimp only at hby
  have hno := hcand.ne hg hX
  have hst := strs_ne (encL_bytes _) hb hX
  have cv1 := fun W A cc h => cv8 W A cc (encL (evNums 3 0 0 b [] [])) h
  have cv2 := fun W A cc h => cv8 W A cc xs h
  obtain ⟨S1, hS1⟩ : ∃ S, strOfNums (encL (evNums 3 0 0 b [] [])) = S := ⟨_, rfl⟩
  obtain ⟨S2, hS2⟩ : ∃ S, strOfNums xs = S := ⟨_, rfl⟩
  rw [hS1] at cv1 hst
  rw [hS2] at cv2 hst
  obtain ⟨X, hXe⟩ : ∃ X, encL (evNums 3 0 0 b [] []) = X := ⟨_, rfl⟩
  rw [hXe] at cv1 hby
  obtain ⟨hst1, hst2⟩ := hst
  clear hS1 hS2 hX
  replace hXe := Lib.hid hXe
  replace cv1 := Lib.hid cv1
  replace cv2 := Lib.hid cv2
  clear hcand hxb
  replace hby := Lib.hid hby
  obtain ⟨a, ha⟩ : ∃ a : Int, a = 3 := ⟨_, rfl⟩
  rw [← ha] at hv
  rw [hv] at hall
  obtain ⟨L, hL⟩ : ∃ L, a :: b :: t = L := ⟨_, rfl⟩
  have hLl : L.length = q + 2 := by rw [← hL, List.length_cons, List.length_cons, hq]
  have hL0 : L.getD 0 0 = a := by rw [← hL]; rfl
  have hL1 : L.getD 1 0 = b := by rw [← hL]; rfl
  rw [hL] at hall
  dsimp only at hall
  rw [hLl] at hall
  replace hL := Lib.hid hL
  replace hLl := Lib.hid hLl
  replace hL0 := Lib.hid hL0
  replace hL1 := Lib.hid hL1
  have hq7 : decide ((q : Int) + 2 < 2) = false := decide_eq_false (by omega)
  subst ha
  replace hx2 := Lib.hid hx2
  replace hB0 := Lib.hid hB0
  replace hr0 := Lib.hid hr0
  replace hall := Lib.hid hall
  clear hr hb
  go_enter Try.func34, Try.ntmps34
  go_wp2_with (first | (go_at_call 54; (with_reducible refine (hall.out _ hr0.out).mono ?_); rintro e w1 ⟨v1, rfl, ho1, hq1⟩; obtain ⟨Al, cl, rfl, hrl⟩ := own_reads ho1; have hB1 := bl_then hB0.out hq1; have j2 := bk_below hq1 hx2.out; obtain ⟨x0, x1, x2, x3, x4, x5, xf0, xf1, xf2, xf3, xf4, xf5⟩ := cells6 j2; obtain ⟨ad, rfl, _⟩ := hrl.2.2 (Nat.succ_pos _); have c0 := rd_0 hrl (Nat.succ_pos _) hL0.out; have hlt1 := World.block_lt_of_cell? w1 ad c0; have hne1 : ¬ ad.block = w1.heap.size := Nat.ne_of_lt hlt1; have hcle := own_le ho1; have hcmx := own_capm ho1; have hlt2 := bk_lt j2; have hne2 : ¬ w.heap.size = w1.heap.size := Nat.ne_of_lt hlt2; have c1 := rd_j hrl (j := 1) (Nat.succ_lt_succ (Nat.succ_pos _)) (by decide) hL1.out) | (go_at_call 29; (with_reducible refine (hby.out _).mono ?_); rintro e w3 ⟨v3, rfl, ho3, hq3⟩; obtain ⟨Ao, co, rfl, hro⟩ := own_reads ho3; have j6b := bk_below hq3 (bk_new w1 #[.int .i64 3, .int .i64 0, .slice none 0 0, .slice none 0 0, .int .u64 0, .int .u64 b] 53); have j2b := bk_below hq3 (bk_alloc j2 (.cells #[.int .i64 3, .int .i64 0, .slice none 0 0, .slice none 0 0, .int .u64 0, .int .u64 b] 53)); have hB3 := bl_then (bl_alloc hB1 (.cells #[.int .i64 3, .int .i64 0, .slice none 0 0, .slice none 0 0, .int .u64 0, .int .u64 b] 53)) hq3; obtain ⟨y0, y1, y2, y3, y4, y5, yf0, yf1, yf2, yf3, yf4, yf5⟩ := cells6 j6b; obtain ⟨z0, z1, z2, z3, z4, z5, zf0, zf1, zf2, zf3, zf4, zf5⟩ := cells6 j2b; have k1 := cv1.out w3 Ao co hro; have k2 := cv2.out w3 A cap (hr0.out.below (bl_then (bl_then hq1 (bl_alloc (Below.refl _ w1) (.cells #[.int .i64 3, .int .i64 0, .slice none 0 0, .slice none 0 0, .int .u64 0, .int .u64 b] 53))) hq3))))
  exact bodyPost_ret (res_rread (bk_set6 j2b) _ rfl rfl) rfl (.inr ⟨hno, rfl, bl_set6 hB3 (Nat.le_refl _)⟩)
set_option maxHeartbeats 3200000 in
theorem rread_0_no (A : Option Addr) (cap : Nat) (xs : List Int) (w : World) (hr : ReadsInt w .u8 A xs.length xs) (hcap : xs.length ≤ cap) (hcm : cap ≤ 9223372036854775807) (hb : ∀ x ∈ xs, 0 ≤ x ∧ x ≤ 255) (b : Int) (t : List Int) (q : Nat) (hq : t.length = q) (hv : allV xs = ((0 : Int) :: b :: t, 0)) (hg : GoodL xs ((0 : Int) :: b :: t)) (hR : ¬ RightE 0 0 0 0 [] []) :
    Calls Try.prog 34 #[.slice A xs.length cap] w (ReadPost xs w) := by
  have hx2 := bk_new w #[.int .i64 0, .int .i64 0, .slice none 0 0, .slice none 0 0, .int .u64 0, .int .u64 0] 53
  have hB0 := bl_alloc (Below.refl _ w) (.cells #[.int .i64 0, .int .i64 0, .slice none 0 0, .slice none 0 0, .int .u64 0, .int .u64 0] 53)
  have hr0 := hr.below hB0
  have hall := fun W hW => rall_any A cap xs W hW hcap hcm hb
  unfold MakesAll at hall
  have hcand := (noEv_kind (a := 0) (t := b :: t) (by decide) (by decide) (by decide)).cand 0 0 0 0 [] []
  have hby := fun W => rbytes_zero 0 0 0 0 W
  unfold MakesBytes at hby
  have hxb := hb
  rw [bytesV_no hR] at hby
  have hno := (hcand.no hR).bytes hg
  dsimp only [List.length_nil] at hby
  clear hcand hxb
  replace hby := Lib.hid hby
  obtain ⟨a, ha⟩ : ∃ a : Int, a = 0 := ⟨_, rfl⟩
  rw [← ha] at hv
  rw [hv] at hall
  obtain ⟨L, hL⟩ : ∃ L, a :: b :: t = L := ⟨_, rfl⟩
  have hLl : L.length = q + 2 := by rw [← hL, List.length_cons, List.length_cons, hq]
  have hL0 : L.getD 0 0 = a := by rw [← hL]; rfl
  have hL1 : L.getD 1 0 = b := by rw [← hL]; rfl
  rw [hL] at hall
  dsimp only at hall
  rw [hLl] at hall
  replace hL := Lib.hid hL
  replace hLl := Lib.hid hLl
  replace hL0 := Lib.hid hL0
  replace hL1 := Lib.hid hL1
  have hq7 : decide ((q : Int) + 2 < 2) = false := decide_eq_false (by omega)
  subst ha
  replace hx2 := Lib.hid hx2
  replace hB0 := Lib.hid hB0
  replace hr0 := Lib.hid hr0
  replace hall := Lib.hid hall
  clear hr hb
  go_enter Try.func34, Try.ntmps34
  go_wp2_with (first | (go_at_call 54; (with_reducible refine (hall.out _ hr0.out).mono ?_); rintro e w1 ⟨v1, rfl, ho1, hq1⟩; obtain ⟨Al, cl, rfl, hrl⟩ := own_reads ho1; have hB1 := bl_then hB0.out hq1; have j2 := bk_below hq1 hx2.out; obtain ⟨x0, x1, x2, x3, x4, x5, xf0, xf1, xf2, xf3, xf4, xf5⟩ := cells6 j2; obtain ⟨ad, rfl, _⟩ := hrl.2.2 (Nat.succ_pos _); have c0 := rd_0 hrl (Nat.succ_pos _) hL0.out; have hlt1 := World.block_lt_of_cell? w1 ad c0; have hne1 : ¬ ad.block = w1.heap.size := Nat.ne_of_lt hlt1; have hcle := own_le ho1; have hcmx := own_capm ho1; have hlt2 := bk_lt j2; have hne2 : ¬ w.heap.size = w1.heap.size := Nat.ne_of_lt hlt2; have c1 := rd_j hrl (j := 1) (Nat.succ_lt_succ (Nat.succ_pos _)) (by decide) hL1.out) | (go_at_call 29; (with_reducible refine (hby.out _).mono ?_); rintro e w3 ⟨v3, rfl, ho3, hq3⟩; obtain ⟨Ao, co, rfl, hro⟩ := own_reads ho3; have j6b := bk_below hq3 (bk_new w1 #[.int .i64 0, .int .i64 0, .slice none 0 0, .slice none 0 0, .int .u64 0, .int .u64 0] 53); have j2b := bk_below hq3 (bk_alloc j2 (.cells #[.int .i64 0, .int .i64 0, .slice none 0 0, .slice none 0 0, .int .u64 0, .int .u64 0] 53)); have hB3 := bl_then (bl_alloc hB1 (.cells #[.int .i64 0, .int .i64 0, .slice none 0 0, .slice none 0 0, .int .u64 0, .int .u64 0] 53)) hq3; obtain ⟨y0, y1, y2, y3, y4, y5, yf0, yf1, yf2, yf3, yf4, yf5⟩ := cells6 j6b; obtain ⟨z0, z1, z2, z3, z4, z5, zf0, zf1, zf2, zf3, zf4, zf5⟩ := cells6 j2b))
  exact bodyPost_ret (res_rread (bk_set6 j2b) _ rfl rfl) rfl (.inr ⟨hno, rfl, bl_set6 hB3 (Nat.le_refl _)⟩)
set_option maxHeartbeats 3200000 in
theorem rread_0_eq (A : Option Addr) (cap : Nat) (xs : List Int) (w : World) (hr : ReadsInt w .u8 A xs.length xs) (hcap : xs.length ≤ cap) (hcm : cap ≤ 9223372036854775807) (hb : ∀ x ∈ xs, 0 ≤ x ∧ x ≤ 255) (b : Int) (t : List Int) (q : Nat) (hq : t.length = q) (hv : allV xs = ((0 : Int) :: b :: t, 0)) (hg : GoodL xs ((0 : Int) :: b :: t)) (hR : RightE 0 0 0 0 [] []) (hX : encL (evNums 0 0 0 0 [] []) = xs) :
    Calls Try.prog 34 #[.slice A xs.length cap] w (ReadPost xs w) := by
  have hx2 := bk_new w #[.int .i64 0, .int .i64 0, .slice none 0 0, .slice none 0 0, .int .u64 0, .int .u64 0] 53
  have hB0 := bl_alloc (Below.refl _ w) (.cells #[.int .i64 0, .int .i64 0, .slice none 0 0, .slice none 0 0, .int .u64 0, .int .u64 0] 53)
  have hr0 := hr.below hB0
  have hall := fun W hW => rall_any A cap xs W hW hcap hcm hb
  unfold MakesAll at hall
  have hcand := (noEv_kind (a := 0) (t := b :: t) (by decide) (by decide) (by decide)).cand 0 0 0 0 [] []
  have hby := fun W => rbytes_zero 0 0 0 0 W
  unfold MakesBytes at hby
  have hxb := hb
  rw [bytesV_yes hR] at hby
  dsimp only at hby
  have hst := strs_eq hX
  have hXX := hX.symm
  replace hXX := Lib.hid hXX
  have cv1 := fun W A cc h => cv8 W A cc (encL (evNums 0 0 0 0 [] [])) h
  have cv2 := fun W A cc h => cv8 W A cc xs h
  obtain ⟨S1, hS1⟩ : ∃ S, strOfNums (encL (evNums 0 0 0 0 [] [])) = S := ⟨_, rfl⟩
  obtain ⟨S2, hS2⟩ : ∃ S, strOfNums xs = S := ⟨_, rfl⟩
  rw [hS1] at cv1 hst
  rw [hS2] at cv2 hst
  obtain ⟨X, hXe⟩ : ∃ X, encL (evNums 0 0 0 0 [] []) = X := ⟨_, rfl⟩
  rw [hXe] at cv1 hby
  obtain ⟨hst1, hst2⟩ := hst
  clear hS1 hS2 hX
  replace hXe := Lib.hid hXe
  replace cv1 := Lib.hid cv1
  replace cv2 := Lib.hid cv2
  clear hcand hxb
  replace hby := Lib.hid hby
  obtain ⟨a, ha⟩ : ∃ a : Int, a = 0 := ⟨_, rfl⟩
  rw [← ha] at hv
  rw [hv] at hall
  obtain ⟨L, hL⟩ : ∃ L, a :: b :: t = L := ⟨_, rfl⟩
  have hLl : L.length = q + 2 := by rw [← hL, List.length_cons, List.length_cons, hq]
  have hL0 : L.getD 0 0 = a := by rw [← hL]; rfl
  have hL1 : L.getD 1 0 = b := by rw [← hL]; rfl
  rw [hL] at hall
  dsimp only at hall
  rw [hLl] at hall
  replace hL := Lib.hid hL
  replace hLl := Lib.hid hLl
  replace hL0 := Lib.hid hL0
  replace hL1 := Lib.hid hL1
  have hq7 : decide ((q : Int) + 2 < 2) = false := decide_eq_false (by omega)
  subst ha
  replace hx2 := Lib.hid hx2
  replace hB0 := Lib.hid hB0
  replace hr0 := Lib.hid hr0
  replace hall := Lib.hid hall
  clear hr hb
  go_enter Try.func34, Try.ntmps34
  go_wp2_with (first | (go_at_call 54; (with_reducible refine (hall.out _ hr0.out).mono ?_); rintro e w1 ⟨v1, rfl, ho1, hq1⟩; obtain ⟨Al, cl, rfl, hrl⟩ := own_reads ho1; have hB1 := bl_then hB0.out hq1; have j2 := bk_below hq1 hx2.out; obtain ⟨x0, x1, x2, x3, x4, x5, xf0, xf1, xf2, xf3, xf4, xf5⟩ := cells6 j2; obtain ⟨ad, rfl, _⟩ := hrl.2.2 (Nat.succ_pos _); have c0 := rd_0 hrl (Nat.succ_pos _) hL0.out; have hlt1 := World.block_lt_of_cell? w1 ad c0; have hne1 : ¬ ad.block = w1.heap.size := Nat.ne_of_lt hlt1; have hcle := own_le ho1; have hcmx := own_capm ho1; have hlt2 := bk_lt j2; have hne2 : ¬ w.heap.size = w1.heap.size := Nat.ne_of_lt hlt2; have c1 := rd_j hrl (j := 1) (Nat.succ_lt_succ (Nat.succ_pos _)) (by decide) hL1.out) | (go_at_call 29; (with_reducible refine (hby.out _).mono ?_); rintro e w3 ⟨v3, rfl, ho3, hq3⟩; obtain ⟨Ao, co, rfl, hro⟩ := own_reads ho3; have j6b := bk_below hq3 (bk_new w1 #[.int .i64 0, .int .i64 0, .slice none 0 0, .slice none 0 0, .int .u64 0, .int .u64 0] 53); have j2b := bk_below hq3 (bk_alloc j2 (.cells #[.int .i64 0, .int .i64 0, .slice none 0 0, .slice none 0 0, .int .u64 0, .int .u64 0] 53)); have hB3 := bl_then (bl_alloc hB1 (.cells #[.int .i64 0, .int .i64 0, .slice none 0 0, .slice none 0 0, .int .u64 0, .int .u64 0] 53)) hq3; obtain ⟨y0, y1, y2, y3, y4, y5, yf0, yf1, yf2, yf3, yf4, yf5⟩ := cells6 j6b; obtain ⟨z0, z1, z2, z3, z4, z5, zf0, zf1, zf2, zf3, zf4, zf5⟩ := cells6 j2b; have k1 := cv1.out w3 Ao co hro; have k2 := cv2.out w3 A cap (hr0.out.below (bl_then (bl_then hq1 (bl_alloc (Below.refl _ w1) (.cells #[.int .i64 0, .int .i64 0, .slice none 0 0, .slice none 0 0, .int .u64 0, .int .u64 0] 53))) hq3))))
  exact bodyPost_ret (res_rread (bk_set6 j2b) _ rfl rfl) rfl (.inl ⟨0, 0, 0, 0, [], [], none, none, 0, 0, rfl, hR, fun i hi => absurd hi (by simp), hXX.out, own_nil _ _ _ _, own_nil _ _ _ _, bl_set6 hB3 (Nat.le_refl _)⟩)
set_option maxHeartbeats 3200000 in
theorem rread_0_ne (A : Option Addr) (cap : Nat) (xs : List Int) (w : World) (hr : ReadsInt w .u8 A xs.length xs) (hcap : xs.length ≤ cap) (hcm : cap ≤ 9223372036854775807) (hb : ∀ x ∈ xs, 0 ≤ x ∧ x ≤ 255) (b : Int) (t : List Int) (q : Nat) (hq : t.length = q) (hv : allV xs = ((0 : Int) :: b :: t, 0)) (hg : GoodL xs ((0 : Int) :: b :: t)) (hR : RightE 0 0 0 0 [] []) (hX : encL (evNums 0 0 0 0 [] []) ≠ xs) :
    Calls Try.prog 34 #[.slice A xs.length cap] w (ReadPost xs w) := by
  have hx2 := bk_new w #[.int .i64 0, .int .i64 0, .slice none 0 0, .slice none 0 0, .int .u64 0, .int .u64 0] 53
  have hB0 := bl_alloc (Below.refl _ w) (.cells #[.int .i64 0, .int .i64 0, .slice none 0 0, .slice none 0 0, .int .u64 0, .int .u64 0] 53)
  have hr0 := hr.below hB0
  have hall := fun W hW => rall_any A cap xs W hW hcap hcm hb
  unfold MakesAll at hall
  have hcand := (noEv_kind (a := 0) (t := b :: t) (by decide) (by decide) (by decide)).cand 0 0 0 0 [] []
  have hby := fun W => rbytes_zero 0 0 0 0 W
  unfold MakesBytes at hby
  have hxb := hb
  rw [bytesV_yes hR] at hby
  dsimp only at hby
  have hno := hcand.ne hg hX
  have hst := strs_ne (encL_bytes _) hb hX
  have cv1 := fun W A cc h => cv8 W A cc (encL (evNums 0 0 0 0 [] [])) h
  have cv2 := fun W A cc h => cv8 W A cc xs h
  obtain ⟨S1, hS1⟩ : ∃ S, strOfNums (encL (evNums 0 0 0 0 [] [])) = S := ⟨_, rfl⟩
  obtain ⟨S2, hS2⟩ : ∃ S, strOfNums xs = S := ⟨_, rfl⟩
  rw [hS1] at cv1 hst
  rw [hS2] at cv2 hst
  obtain ⟨X, hXe⟩ : ∃ X, encL (evNums 0 0 0 0 [] []) = X := ⟨_, rfl⟩
  rw [hXe] at cv1 hby
  obtain ⟨hst1, hst2⟩ := hst
  clear hS1 hS2 hX
  replace hXe := Lib.hid hXe
  replace cv1 := Lib.hid cv1
  replace cv2 := Lib.hid cv2
  clear hcand hxb
  replace hby := Lib.hid hby
  obtain ⟨a, ha⟩ : ∃ a : Int, a = 0 := ⟨_, rfl⟩
  rw [← ha] at hv
  rw [hv] at hall
  obtain ⟨L, hL⟩ : ∃ L, a :: b :: t = L := ⟨_, rfl⟩
  have hLl : L.length = q + 2 := by rw [← hL, List.length_cons, List.length_cons, hq]
  have hL0 : L.getD 0 0 = a := by rw [← hL]; rfl
  have hL1 : L.getD 1 0 = b := by rw [← hL]; rfl
  rw [hL] at hall
  dsimp only at hall
  rw [hLl] at hall
  replace hL := Lib.hid hL
  replace hLl := Lib.hid hLl
  replace hL0 := Lib.hid hL0
  replace hL1 := Lib.hid hL1
  have hq7 : decide ((q : Int) + 2 < 2) = false := decide_eq_false (by omega)
  subst ha
  replace hx2 := Lib.hid hx2
  replace hB0 := Lib.hid hB0
  replace hr0 := Lib.hid hr0
  replace hall := Lib.hid hall
  clear hr hb
  go_enter Try.func34, Try.ntmps34
  go_wp2_with (first | (go_at_call 54; (with_reducible refine (hall.out _ hr0.out).mono ?_); rintro e w1 ⟨v1, rfl, ho1, hq1⟩; obtain ⟨Al, cl, rfl, hrl⟩ := own_reads ho1; have hB1 := bl_then hB0.out hq1; have j2 := bk_below hq1 hx2.out; obtain ⟨x0, x1, x2, x3, x4, x5, xf0, xf1, xf2, xf3, xf4, xf5⟩ := cells6 j2; obtain ⟨ad, rfl, _⟩ := hrl.2.2 (Nat.succ_pos _); have c0 := rd_0 hrl (Nat.succ_pos _) hL0.out; have hlt1 := World.block_lt_of_cell? w1 ad c0; have hne1 : ¬ ad.block = w1.heap.size := Nat.ne_of_lt hlt1; have hcle := own_le ho1; have hcmx := own_capm ho1; have hlt2 := bk_lt j2; have hne2 : ¬ w.heap.size = w1.heap.size := Nat.ne_of_lt hlt2; have c1 := rd_j hrl (j := 1) (Nat.succ_lt_succ (Nat.succ_pos _)) (by decide) hL1.out) | (go_at_call 29; (with_reducible refine (hby.out _).mono ?_); rintro e w3 ⟨v3, rfl, ho3, hq3⟩; obtain ⟨Ao, co, rfl, hro⟩ := own_reads ho3; have j6b := bk_below hq3 (bk_new w1 #[.int .i64 0, .int .i64 0, .slice none 0 0, .slice none 0 0, .int .u64 0, .int .u64 0] 53); have j2b := bk_below hq3 (bk_alloc j2 (.cells #[.int .i64 0, .int .i64 0, .slice none 0 0, .slice none 0 0, .int .u64 0, .int .u64 0] 53)); have hB3 := bl_then (bl_alloc hB1 (.cells #[.int .i64 0, .int .i64 0, .slice none 0 0, .slice none 0 0, .int .u64 0, .int .u64 0] 53)) hq3; obtain ⟨y0, y1, y2, y3, y4, y5, yf0, yf1, yf2, yf3, yf4, yf5⟩ := cells6 j6b; obtain ⟨z0, z1, z2, z3, z4, z5, zf0, zf1, zf2, zf3, zf4, zf5⟩ := cells6 j2b; have k1 := cv1.out w3 Ao co hro; have k2 := cv2.out w3 A cap (hr0.out.below (bl_then (bl_then hq1 (bl_alloc (Below.refl _ w1) (.cells #[.int .i64 0, .int .i64 0, .slice none 0 0, .slice none 0 0, .int .u64 0, .int .u64 0] 53))) hq3))))
  exact bodyPost_ret (res_rread (bk_set6 j2b) _ rfl rfl) rfl (.inr ⟨hno, rfl, bl_set6 hB3 (Nat.le_refl _)⟩)
end Go.Proofs.Ytfcekicjlgdmaaa
namespace Go.Proofs.Ytfcekicjlgdmaaa
open Go.RowKit Go.Shelf Go.Proofs.YtfcekicjlgdmaaaW.PrintWords

theorem append_pol1 {ops : Array Oper} {rest : List Oper} {o : Oper} {a : Act} {Q : Exit → Act → World → Prop} {W : World} (base : Nat) (hgd : o.guard = none) (s x : Operand)
    (ho : o.op = .call { callee := .builtin .append, args := #[s, x], argTypes := #[43, 43] })
    (v : Value) (ps : List Pol) (P : Pol) (ad : Addr) (hs : a.eval s = v) (hx : a.eval x = .slice (some ad) 1 1)
    (HO : W.ownsRow base 28 13 v ps.length (rows ps)) (hc : ∀ j u, (polRow P)[j]? = some u → W.cell? (ad.add j) = some u) (hl : ps.length ≤ 1000) (hbase : base ≤ W.heap.size)
    (h : ∀ v1 w1, w1.ownsRow base 28 13 v1 (ps.length + 1) (rows ps ++ polRow P) → W.grownBy w1 v.ownBlock → wpList Try.prog ops Q rest (a.put o.dst v1) w1) :
    wpList Try.prog ops Q (o :: rest) a W := by
  obtain ⟨i0, hi, hzz⟩ := Option.map_eq_some_iff.1 inf_pol
  simp only [Prod.mk.injEq] at hzz
  obtain ⟨hz0, hz1, hz2⟩ := hzz
  obtain ⟨v1, w1, hr, h1, h2, _⟩ := run_append_own (P := Try.prog) W base 43 o.type 28 i0 _ 13 80 Try.underlying43 hi hz0 hz1 hz2 rfl (by omega) v ps.length (rows ps) HO ad 1 1 (polRow P) rfl hc (pol_one P) (by simp only [maxLen]; omega) (by omega) hbase
  refine wpList_step fun K hK => ?_
  rw [if_pos (by simp [Region.wanted, hgd])]
  unfold Oper.wp execOp
  simp only [ho, resolve, invoke, builtin, Sem.run_bind, Sem.run_pure, Result.andThen_ok, List.map_toArray, List.map_cons, List.map_nil, hs, hx, hr]
  exact hK _ _ (h v1 w1 h1 h2)
theorem run_append_int (W : World) (base : Nat) (ty : TypeId) (v : Value) (xs : List Int) (y : Int) (HO : W.ownsRow base 3 1 v xs.length (nums .i64 xs)) (hl : xs.length ≤ 1000) (hbase : base ≤ W.heap.size) :
    ∃ v1 w1, (Builtin.append_ #[51, 51] ty #[v, .slice (some ⟨W.heap.size, 0, none⟩) 1 1]).run Try.prog (W.alloc (.cells #[.int .i64 y] 3)) = .ok v1 w1 ∧ w1.ownsRow base 3 1 v1 (xs ++ [y]).length (nums .i64 (xs ++ [y])) ∧ (W.alloc (.cells #[.int .i64 y] 3)).grownBy w1 v.ownBlock := by
  obtain ⟨i0, hi, hzz⟩ := Option.map_eq_some_iff.1 info_int
  simp only [Prod.mk.injEq] at hzz
  obtain ⟨hz0, hz1, hz2⟩ := hzz
  obtain ⟨v1, w1, hr, h1, h2, _⟩ := run_append_own (P := Try.prog) (W.alloc (.cells #[.int .i64 y] 3)) base 51 ty 3 i0 _ 1 8 Try.underlying51 hi hz0 hz1 hz2 rfl (by omega) v xs.length (nums .i64 xs) (pw_own_below HO (bl_alloc (Below.refl _ _) _)) ⟨W.heap.size, 0, none⟩ 1 1 [.int .i64 y] rfl (fun j u hu => by
      cases j with
      | zero =>
        have : u = .int .i64 y := by simpa using hu.symm
        subst this
        simp [Addr.add]
      | succ j => simp at hu) (fun u hu => by obtain rfl := List.mem_singleton.1 hu; rfl) (by simp only [maxLen]; omega) (by omega) (by simp; omega)
  refine ⟨v1, w1, hr, ?_, h2⟩
  rw [nums_append, List.length_append]
  exact h1
theorem one_of {m : Int} {r : List Int} {k s g p : Int} {ps : List Pol} {ds : List Int} (hR : RightE k s g p ps ds) (ho : OkAll ps) (e : 1 :: m :: r = evNums k s g p ps ds) :
    k = 1 ∧ s = 0 ∧ g = 0 ∧ p = 0 ∧ m = (ds.length : Int) ∧ r = ds ++ flatN ps ∧ Rts ps ∧ ∀ d ∈ ds, d ≤ 255 := by
  rcases hR with ⟨rfl, h2, h3, h4, h5, h6, _⟩ | ⟨rfl, _⟩ | ⟨rfl, _⟩
  · rw [evNums_1] at e
    injection e with _ e2
    injection e2 with e3 e4
    exact ⟨rfl, h2, h3, h4, e3, e4, rts_of h5 ho, fun d hd => ((drops_mem h6).2 d hd).2⟩
  · rw [evNums_2] at e; injection e with e1 _; omega
  · rw [evNums_3] at e; injection e with e1 _; omega
theorem noEv_drop {m : Int} {r : List Int} {i : Nat} (hi : i < r.length) (him : (i : Int) < m) (hbig : 255 < r.getD i 0) : NoEv (1 :: m :: r) := fun k s g p ps ds hR ho e => by
  obtain ⟨_, _, _, _, e1, e2, _, h⟩ := one_of hR ho e
  have hid : i < ds.length := by omega
  have := h (ds.getD i 0) (by rw [List.getD_eq_getElem?_getD, List.getElem?_eq_getElem hid]; exact List.getElem_mem hid)
  rw [e2, List.getD_eq_getElem?_getD, List.getElem?_append_left hid, ← List.getD_eq_getElem?_getD] at hbig
  omega
theorem one_cut {m : Int} {r : List Int} {i : Nat} (hi : i ≤ r.length) (him : (i : Int) ≤ m) (hstop : m ≤ (i : Int) ∨ r.length ≤ i) {k s g p : Int} {ps : List Pol} {ds : List Int} (hR : RightE k s g p ps ds) (ho : OkAll ps) (e : 1 :: m :: r = evNums k s g p ps ds) :
    k = 1 ∧ s = 0 ∧ g = 0 ∧ p = 0 ∧ r.take i = ds ∧ r.drop i = flatN ps ∧ Rts ps := by
  obtain ⟨h1, h2, h3, h4, e1, e2, h5, h6⟩ := one_of hR ho e
  have hl := congrArg List.length e2
  rw [List.length_append] at hl
  have hid : i = ds.length := by omega
  refine ⟨h1, h2, h3, h4, ?_, ?_, h5⟩
  · rw [e2, hid, List.take_left]
  · rw [e2, hid, List.drop_left]
theorem noEv_chunk {m : Int} {r : List Int} {i j : Nat} (hi : i ≤ r.length) (him : (i : Int) ≤ m) (hstop : m ≤ (i : Int) ∨ r.length ≤ i) (hj : 10 * j + 10 ≤ (r.drop i).length) (hb : ofB (chunkOf (r.drop i) j) = false) : NoEv (1 :: m :: r) := fun k s g p ps ds hR ho e => by
  obtain ⟨_, _, _, _, _, e2, h5⟩ := one_cut hi him hstop hR ho e
  rw [chunks_of h5 e2 (by omega)] at hb
  cases hb
theorem cand_1 {m : Int} {r : List Int} {i j : Nat} (hU : U64 r) (hi : i ≤ r.length) (him : (i : Int) ≤ m) (hstop : m ≤ (i : Int) ∨ r.length ≤ i) (hj : 10 * j ≤ (r.drop i).length) (hj2 : (r.drop i).length < 10 * j + 10) (hb : ∀ x, x < j → ofB (chunkOf (r.drop i) x) = true) :
    Cand (1 :: m :: r) 1 0 0 0 ((List.range j).map (chunkP (r.drop i))) (r.take i) := fun k s g p ps ds hR ho e => by
  obtain ⟨h1, h2, h3, h4, e1, e2, h5⟩ := one_cut hi him hstop hR ho e
  obtain ⟨hf, hr⟩ := flat_chunks (r.drop i) (U64.drop hU i) j hb
  have hl := congrArg List.length e2
  rw [flatN_len h5] at hl
  have hfull : flatN ((List.range j).map (chunkP (r.drop i))) ++ [] = flatN ps := by rw [hf, List.append_nil, ← e2, List.take_of_length_le (by omega)]
  obtain ⟨rs, e3, e4⟩ := flatN_prefix _ _ _ hr h5 hfull
  have hrs : rs = [] := flatN_ne (fun q hq => h5 q (by rw [e3]; exact List.mem_append_right _ hq)) e4
  rw [hrs, List.append_nil] at e3
  exact ⟨h1, h2, h3, h4, e3, e1.symm⟩
end Go.Proofs.Ytfcekicjlgdmaaa
