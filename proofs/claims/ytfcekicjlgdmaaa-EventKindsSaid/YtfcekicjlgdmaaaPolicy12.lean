/- Slices of policies that are appended; the walk of PolicyAll. -/
import Derived.Test.YtfcekicjlgdmaaaPolicy11
import Derived.Test.YtfcekicjlgdmaaaRowIn
import Derived.Maps.AppendAt
set_option linter.unusedVariables false
set_option linter.unusedSimpArgs false
set_option maxRecDepth 100000
namespace Go.Proofs.Ytfcekicjlgdmaaa
open Go.RowKit Go.Proofs.YtfcekicjlgdmaaaW.PrintWords
attribute [local go_sem] max2_int min2_int max_two min_two
attribute [local go_sem ↓] eql_nt neq_nt eql_ad net_addr net_bits eql_pol neq_pol

def rows (ps : List Pol) : List Value := (ps.map polRow).flatten
theorem polRow_len (x : Pol) : (polRow x).length = 13 := rfl
theorem rows_len (ps : List Pol) : (rows ps).length = ps.length * 13 := by
  induction ps with
  | nil => rfl
  | cons p ps ih =>
    have : rows (p :: ps) = polRow p ++ rows ps := rfl
    rw [this, List.length_append, ih, polRow_len, List.length_cons]; omega
theorem rows_app (xs ys : List Pol) : rows (xs ++ ys) = rows xs ++ rows ys := by unfold rows; rw [List.map_append, List.flatten_append]
theorem rows_at : ∀ (ps : List Pol) (i : Nat), i < ps.length → ∀ j, j < 13 → (rows ps)[i * 13 + j]? = (polRow (ps.getD i zeroP))[j]?
  | [], i, hi, _, _ => absurd hi (by simp)
  | p :: ps, 0, _, j, hj => by
    have : rows (p :: ps) = polRow p ++ rows ps := rfl
    rw [this, List.getElem?_append_left (by rw [polRow_len]; omega), Nat.zero_mul, Nat.zero_add]; rfl
  | p :: ps, i + 1, hi, j, hj => by
    have : rows (p :: ps) = polRow p ++ rows ps := rfl
    rw [this, List.getElem?_append_right (by rw [polRow_len]; omega), polRow_len, show (i + 1) * 13 + j - 13 = i * 13 + j by omega, List.getD_cons_succ]
    exact rows_at ps i (by simpa using hi) j hj
theorem rows_one {ps : List Pol} {u : Value} (h : u ∈ rows ps) : u.oneCell' = true := by
  unfold rows at h
  rw [List.mem_flatten] at h
  obtain ⟨r, hr, hu⟩ := h
  obtain ⟨p, _, rfl⟩ := List.mem_map.1 hr
  unfold polRow at hu
  simp only [List.mem_cons, List.not_mem_nil, or_false] at hu
  rcases hu with rfl | rfl | rfl | rfl | rfl | rfl | rfl | rfl | rfl | rfl | rfl | rfl | rfl <;> rfl
def OkAll (ps : List Pol) : Prop := ∀ i, i < ps.length → PolOk (ps.getD i zeroP)
theorem PolsAt.ok {w : World} {A : Option Addr} {ps : List Pol} (h : PolsAt w A ps) : OkAll ps := fun i hi => (h i hi).1
theorem OkAll.app {xs ys : List Pol} (h : OkAll xs) (h' : OkAll ys) : OkAll (xs ++ ys) := fun i hi => by
  rw [List.length_append] at hi
  rcases Nat.lt_or_ge i xs.length with c | c
  · rw [List.getD_eq_getElem?_getD, List.getElem?_append_left c, ← List.getD_eq_getElem?_getD]; exact h i c
  · rw [List.getD_eq_getElem?_getD, List.getElem?_append_right c, ← List.getD_eq_getElem?_getD]; exact h' _ (by omega)
theorem PolsAt.rows {w : World} {ad : Addr} {ps : List Pol} (h : PolsAt w (some ad) ps) (j : Nat) (u : Value) (hu : (rows ps)[j]? = some u) : w.cell? (ad.add j) = some u := by
  have hj : j < ps.length * 13 := by rw [← rows_len]; exact (List.getElem?_eq_some_iff.1 hu).1
  obtain ⟨_, x, hx, hr⟩ := h (j / 13) (by omega)
  obtain rfl := Option.some.inj hx
  have h1 := hr (j % 13) (by rw [polRow_len]; omega)
  rw [addr_add, show j / 13 * 13 + j % 13 = j by omega] at h1
  rw [h1, ← rows_at ps (j / 13) (by omega) (j % 13) (by omega), show j / 13 * 13 + j % 13 = j by omega, hu]
theorem pols_own {w : World} {base : Nat} {e : TypeId} {v : Value} {ps : List Pol} (h : w.ownsRow base e 13 v ps.length (rows ps)) (hok : OkAll ps) : ∃ A c, v = .slice A ps.length c ∧ PolsAt w A ps ∧ ps.length ≤ c ∧ c ≤ 9223372036854775807 := by
  rcases h.2 with ⟨rfl, h0⟩ | ⟨g, cap, cur, rfl, hb, hg, hn, hm, hs, ht⟩
  · refine ⟨none, 0, by rw [h0], fun i hi => absurd hi (by omega), by omega, by omega⟩
  · refine ⟨_, cap, rfl, fun i hi => ⟨hok i hi, _, rfl, fun j hj => ?_⟩, hn, hm⟩
    rw [polRow_len] at hj
    rw [addr_add, Addr.add_lit, Nat.zero_add, cell_of_row w g _ cur e (0, 0) hg, ← rows_at ps i hi j hj, ← ht, List.getElem?_take, if_pos (by omega)]
    simp
theorem inf_pol : (Try.prog.info? 28).map (fun i => (i.zero, i.size, i.bytes)) = some (some (.agg #[.int .i64 0, .int .u8 0, .int .u8 0, .int .u8 0, .int .u8 0, .int .i64 0, .int .u64 0, .int .u64 0, .int .u64 0, .int .u64 0, .int .u64 0, .int .u64 0, .int .u64 0]), 13, 80) := by kernel_rfl
theorem own_none (W : World) (base : Nat) (hb : base ≤ W.heap.size) : (W.alloc (.cells #[] 28)).ownsRow base 28 13 (.slice (some ⟨W.heap.size, 0, none⟩) 0 0) ([] : List Pol).length (rows []) :=
  ⟨rfl, .inr ⟨W.heap.size, 0, #[], rfl, hb, heap_alloc_new W _, Nat.le_refl _, Nat.zero_le _, rfl, rfl⟩⟩
section
variable {ops : Array Oper} {rest : List Oper} {o : Oper} {a : Act} {Q : Exit → Act → World → Prop}
/-- Policies behind policies: the run. -/
theorem run_append_pols {w0 W : World} (base : Nat) (ty : TypeId) (v : Value) (xs ys : List Pol) (A : Option Addr) (m c : Nat) (hm : m = ys.length)
    (HO : W.ownsRow base 28 13 v xs.length (rows xs)) (HR : PolsAt W A ys) (HB : Below base w0 W) (hbase : base ≤ W.heap.size) (hl : xs.length + m ≤ 1000) :
    ∃ v1 w1, (Builtin.append_ #[43, 43] ty #[v, .slice A m c]).run Try.prog W = .ok v1 w1 ∧ w1.ownsRow base 28 13 v1 (xs ++ ys).length (rows (xs ++ ys)) ∧ Below base w0 w1 := by
  obtain ⟨i0, hi, hzz⟩ := Option.map_eq_some_iff.1 inf_pol
  simp only [Prod.mk.injEq] at hzz
  obtain ⟨hz0, hz1, hz2⟩ := hzz
  rcases A with _ | ad
  · have h0 : ys = [] := by
      cases ys with
      | nil => rfl
      | cons y ys => obtain ⟨_, x, h, _⟩ := HR 0 (by simp); cases h
    subst h0
    subst hm
    refine ⟨v, W, ?_, by simpa using HO, HB⟩
    rcases HO.2 with ⟨rfl, hn⟩ | ⟨g, cap, cur, rfl, _, _, hnc, _⟩
    · simp [Builtin.append_, run_underlying Try.underlying43, sizeOf, typeInfo, hi, Builtin.lenOf, Builtin.firstCells]
    · simp [Builtin.append_, run_underlying Try.underlying43, sizeOf, typeInfo, hi, Builtin.lenOf, Builtin.firstCells, hnc, storeCells]
  · obtain ⟨v1, w1, hr, h2, h3, _, h5⟩ := run_append_own_at (P := Try.prog) W base 43 ty 28 i0 (.agg #[.int .i64 0, .int .u8 0, .int .u8 0, .int .u8 0, .int .u8 0, .int .i64 0, .int .u64 0, .int .u64 0, .int .u64 0, .int .u64 0, .int .u64 0, .int .u64 0, .int .u64 0]) 13 80 Try.underlying43 hi hz0 hz1 hz2 rfl (by omega) v xs.length (rows xs) HO ad m c (rows ys) (by rw [rows_len, hm]) (fun j u hu => HR.rows j u hu)
        (fun u hu => rows_one hu) (by simp only [maxLen]; omega) (by omega) hbase
    refine ⟨v1, w1, hr, ?_, HB.grown h3 hbase (own_base HO)⟩
    rw [rows_app, List.length_append, ← hm]
    exact h2
theorem append_pols {w0 W : World} (base : Nat) (hgd : Region.wanted o (yielded ops a.tmps) = true) (s x : Operand)
    (ho : o.op = .call { callee := .builtin .append, args := #[s, x], argTypes := #[43, 43] })
    (v : Value) (xs ys : List Pol) (A : Option Addr) (m c : Nat) (hs : a.eval s = v) (hx : a.eval x = .slice A m c) (hm : m = ys.length)
    (HO : W.ownsRow base 28 13 v xs.length (rows xs)) (HR : PolsAt W A ys) (HB : Below base w0 W) (hbase : base ≤ W.heap.size) (hl : xs.length + m ≤ 1000)
    (h : ∀ v1 w1, w1.ownsRow base 28 13 v1 (xs ++ ys).length (rows (xs ++ ys)) → Below base w0 w1 → wpList Try.prog ops Q rest (a.put o.dst v1) w1) :
    wpList Try.prog ops Q (o :: rest) a W := by
  obtain ⟨v1, w1, hr, hown, hB⟩ := run_append_pols base o.type v xs ys A m c hm HO HR HB hbase hl
  refine wpList_step fun K hK => ?_
  rw [if_pos hgd]
  unfold Oper.wp execOp
  simp only [ho, resolve, invoke, builtin, Sem.run_bind, Sem.run_pure, Result.andThen_ok, List.map_toArray, List.map_cons, List.map_nil, hs, hx, hr]
  exact hK _ _ (h v1 w1 hown hB)
end
theorem flat_le {ks : List Leaf} {w : World} {A : Option Addr} {len cap : Nat} (h : IsFlat ks w A len cap) : len ≤ cap := by
  rcases h with ⟨_, rfl, rfl⟩ | ⟨x, _, hl, _⟩
  · omega
  · exact hl
theorem flat_max {ks : List Leaf} {w : World} {A : Option Addr} {len cap : Nat} (h : IsFlat ks w A len cap) : cap ≤ 9223372036854775807 := by
  rcases h with ⟨_, rfl, rfl⟩ | ⟨x, _, _, hm, _⟩
  · omega
  · exact hm
set_option maxHeartbeats 1600000 in
theorem policyAll_walk (A1 : Option Addr) (len1 cap1 : Nat) {w : World} (hz1 : IsFlat polLeaves w A1 len1 cap1) :
    Calls Try.prog 6 #[.slice A1 len1 cap1] w fun e w' => e = .returned (.bool true) ∧ Below w.heap.size w w' := by
  obtain ⟨ps, rfl, hp⟩ := pols_of hz1
  have hcl := flat_le hz1
  have hcm := flat_max hz1
  replace hp := Lib.hid hp
  by_cases c1 : 40 < ps.length
  · have d1 : decide ((40 : Int) < (ps.length : Int)) = true := decide_eq_true (by omega)
    go_enter Try.func6, Try.ntmps6
    go_wp2_with (go_at_call 14; refine (palive_any _).mono ?_; rintro e w0 ⟨rfl, hB0⟩)
    go_ret
    exact ⟨rfl, hB0⟩
  have d1 : decide ((40 : Int) < (ps.length : Int)) = false := decide_eq_false (by omega)
  obtain ⟨V, hV⟩ : ∃ V, polsV ps = V := ⟨_, rfl⟩
  have hVV : decide (V = V) = true := decide_eq_true rfl
  replace hV := Lib.hid hV
  go_enter Try.func6, Try.ntmps6
  go_wp2_with (first | (go_at_call 14; refine (palive_any _).mono ?_; rintro e w0 ⟨rfl, hB0⟩) | (at_builtin; refine append_pols (w0 := w) w.heap.size rfl (.tmp 9) (.tmp 10) rfl _ [] ps A1 _ cap1 rfl rfl rfl (own_none w0 w.heap.size hB0.size) ((hp.out.below hB0).below (bl_alloc (Below.refl _ _) _)) (bl_alloc hB0 _) (bl_alloc hB0 _).size (by simp; omega) ?_; rw [List.nil_append]; intro v1 w1 ho1 hB1; obtain ⟨A3, c3, rfl, hp3, hl3, hm3⟩ := pols_own ho1 hp.out.ok) | (go_at_call 23; (with_reducible refine (pall_any A3 c3 ps _ hp3 hl3 hm3).mono ?_); rw [hV.out]; rintro e w2 ⟨rfl, hB2⟩; have hB3 := bl_then hB1 hB2) | (go_at_call 24; (with_reducible refine (rpall_any A1 cap1 ps _ (hp.out.below hB3) hcl hcm).mono ?_); rw [hV.out]; rintro e w3 ⟨rfl, hB4⟩))
  go_ret
  exact ⟨rfl, bl_then hB3 hB4⟩
end Go.Proofs.Ytfcekicjlgdmaaa
