/- Rows behind rows. -/
import Derived.Test.YtebeknnjjoobnaaDoorBiV
import Derived.Test.YtebeknnjjoobnaaDoorWWords
import Derived.Maps.AppendAt
set_option linter.unusedVariables false
set_option linter.unusedSimpArgs false
set_option maxRecDepth 100000
namespace Go.Proofs.YtebeknnjjoobnaaDoor
open Go.RowKit Go.Sort Go.Lib Go.Shelf Go.Proofs Go.Proofs.YtebeknnjjoobnaaDoorW.PrintWords
attribute [local go_sem] max2_int min2_int max_two min_two
attribute [local go_sem ↓] eql_rw neq_rw

theorem wrows_app (xs ys : List Rw) : wrows (xs ++ ys) = wrows xs ++ wrows ys := by unfold wrows; rw [List.map_append, List.flatten_append]
theorem wrows_one {ps : List Rw} {u : Value} (h : u ∈ wrows ps) : u.oneCell' = true := by
  unfold wrows at h
  rw [List.mem_flatten] at h
  obtain ⟨r, hr, hu⟩ := h
  obtain ⟨p, _, rfl⟩ := List.mem_map.1 hr
  exact rw_one p u hu
theorem RwAt.rows {w : World} {ad : Addr} {ps : List Rw} (h : RwAt w (some ad) ps) (j : Nat) (u : Value) (hu : (wrows ps)[j]? = some u) : w.cell? (ad.add j) = some u := by
  have hj : j < ps.length * 6 := by rw [← wrows_len]; exact (List.getElem?_eq_some_iff.1 hu).1
  obtain ⟨x, hx, hr⟩ := h (j / 6) (by omega)
  obtain rfl := Option.some.inj hx
  have h1 := hr (j % 6) (by rw [rwRow_len]; omega)
  rw [addr_add, show j / 6 * 6 + j % 6 = j by omega] at h1
  rw [h1, ← wrows_at ps (j / 6) (by omega) (j % 6) (by omega), show j / 6 * 6 + j % 6 = j by omega, hu]
theorem rws_own {w : World} {base : Nat} {e : TypeId} {v : Value} {ps : List Rw} (h : w.ownsRow base e 6 v ps.length (wrows ps)) : ∃ A c, v = .slice A ps.length c ∧ RwAt w A ps ∧ ps.length ≤ c ∧ c ≤ 9223372036854775807 := by
  rcases h.2 with ⟨rfl, h0⟩ | ⟨g, cap, cur, rfl, hb, hg, hn, hm, hs, ht⟩
  · refine ⟨none, 0, by rw [h0], fun i hi => absurd hi (by omega), by omega, by omega⟩
  · refine ⟨_, cap, rfl, fun i hi => ⟨_, rfl, fun j hj => ?_⟩, hn, hm⟩
    rw [rwRow_len] at hj
    rw [addr_add, Addr.add_lit, Nat.zero_add, cell_of_row w g _ cur e (0, 0) hg, ← wrows_at ps i hi j hj, ← ht, List.getElem?_take, if_pos (by omega)]
    simp
theorem own_none (W : World) (base : Nat) (hb : base ≤ W.heap.size) : (W.alloc (.cells #[] 32)).ownsRow base 32 6 (.slice (some ⟨W.heap.size, 0, none⟩) 0 0) ([] : List Rw).length (wrows []) :=
  ⟨rfl, .inr ⟨W.heap.size, 0, #[], rfl, hb, heap_alloc_new W _, Nat.le_refl _, Nat.zero_le _, rfl, rfl⟩⟩
section
variable {ops : Array Oper} {rest : List Oper} {o : Oper} {a : Act} {Q : Exit → Act → World → Prop}
/-- Routes behind routes: the run. -/
theorem run_append_rws {w0 W : World} (base : Nat) (ty : TypeId) (v : Value) (xs ys : List Rw) (A : Option Addr) (m c : Nat) (hm : m = ys.length)
    (HO : W.ownsRow base 32 6 v xs.length (wrows xs)) (HR : RwAt W A ys) (HB : Below base w0 W) (hbase : base ≤ W.heap.size) (hl : xs.length + m ≤ 1000) :
    ∃ v1 w1, (Builtin.append_ #[26, 26] ty #[v, .slice A m c]).run Tryd.prog W = .ok v1 w1 ∧ w1.ownsRow base 32 6 v1 (xs ++ ys).length (wrows (xs ++ ys)) ∧ Below base w0 w1 := by
  obtain ⟨i0, hi, hzz⟩ := Option.map_eq_some_iff.1 inf_rw
  simp only [Prod.mk.injEq] at hzz
  obtain ⟨hz0, hz1, hz2⟩ := hzz
  rcases A with _ | ad
  · have h0 : ys = [] := by
      cases ys with
      | nil => rfl
      | cons y ys => obtain ⟨x, h, _⟩ := HR 0 (by simp); cases h
    subst h0
    subst hm
    refine ⟨v, W, ?_, by simpa using HO, HB⟩
    rcases HO.2 with ⟨rfl, hn⟩ | ⟨g, cap, cur, rfl, _, _, hnc, _⟩
    · simp [Builtin.append_, run_underlying Tryd.underlying26, sizeOf, typeInfo, hi, Builtin.lenOf, Builtin.firstCells]
    · simp [Builtin.append_, run_underlying Tryd.underlying26, sizeOf, typeInfo, hi, Builtin.lenOf, Builtin.firstCells, hnc, storeCells]
  · obtain ⟨v1, w1, hr, h2, h3, _, h5⟩ := run_append_own_at (P := Tryd.prog) W base 26 ty 32 i0 (.agg #[.int .i64 0, .int .u64 0, .int .u64 0, .int .u64 0, .int .u64 0, .int .u64 0]) 6 48 Tryd.underlying26 hi hz0 hz1 hz2 rfl (by omega) v xs.length (wrows xs) HO ad m c (wrows ys) (by rw [wrows_len, hm]) (fun j u hu => HR.rows j u hu)
        (fun u hu => wrows_one hu) (by simp only [maxLen]; omega) (by omega) hbase
    refine ⟨v1, w1, hr, ?_, HB.grown h3 hbase (own_base HO)⟩
    rw [wrows_app, List.length_append, ← hm]
    exact h2
theorem append_rws {w0 W : World} (base : Nat) (hgd : Region.wanted o (yielded ops a.tmps) = true) (s x : Operand)
    (ho : o.op = .call { callee := .builtin .append, args := #[s, x], argTypes := #[26, 26] })
    (v : Value) (xs ys : List Rw) (A : Option Addr) (m c : Nat) (hs : a.eval s = v) (hx : a.eval x = .slice A m c) (hm : m = ys.length)
    (HO : W.ownsRow base 32 6 v xs.length (wrows xs)) (HR : RwAt W A ys) (HB : Below base w0 W) (hbase : base ≤ W.heap.size) (hl : xs.length + m ≤ 1000)
    (h : ∀ v1 w1, w1.ownsRow base 32 6 v1 (xs ++ ys).length (wrows (xs ++ ys)) → Below base w0 w1 → wpList Tryd.prog ops Q rest (a.put o.dst v1) w1) :
    wpList Tryd.prog ops Q (o :: rest) a W := by
  obtain ⟨v1, w1, hr, hown, hB⟩ := run_append_rws base o.type v xs ys A m c hm HO HR HB hbase hl
  refine wpList_step fun K hK => ?_
  rw [if_pos hgd]
  unfold Oper.wp execOp
  simp only [ho, resolve, invoke, builtin, Sem.run_bind, Sem.run_pure, Result.andThen_ok, List.map_toArray, List.map_cons, List.map_nil, hs, hx, hr]
  exact hK _ _ (h v1 w1 hown hB)
end
/-- A slice of one route, just made. -/
theorem rw_lit {W : World} {B : Nat} (h : W.heap.size = B) (x : Rw) : RwAt (W.alloc (.cells #[.int .i64 x.1.1, .int .u64 x.1.2, .int .u64 x.2.1, .int .u64 x.2.2.1, .int .u64 x.2.2.2.1, .int .u64 x.2.2.2.2] 32)) (some ⟨B, 0, none⟩) [x] := fun i hi => by
  obtain rfl : i = 0 := by simpa using hi
  refine ⟨_, rfl, fun j hj => ?_⟩
  have h1 : (rwRow x)[j]? = some (rwRow x)[j] := List.getElem?_eq_getElem hj
  have h2 := rw_news h x j _ h1
  rw [addr_add, Nat.zero_mul, Nat.zero_add]
  show _ = (rwRow x)[j]?
  rw [h1, h2]
theorem take_snoc (d : List Rw) (i : Nat) (hi : i < d.length) : d.take (i + 1) = d.take i ++ [d.getD i zeroRw] := by
  rw [List.take_add_one, List.getD_eq_getElem?_getD, List.getElem?_eq_getElem hi]; rfl
end Go.Proofs.YtebeknnjjoobnaaDoor
