/- Contract: the routes of a table, in order. -/
import Derived.Test.YtebeknnjjoobnaaRouteL
import Derived.Test.YtebeknnjjoobnaaRouteY
import Derived.Shelf.SlSortCmp.NoneTotal
set_option linter.unusedVariables false
set_option linter.unusedSimpArgs false
set_option maxRecDepth 100000
namespace Go.Proofs.Ytebeknnjjoobnaa
open Go.RowKit Go.Sort Go.Lib Go.Shelf Go.Proofs
attribute [local go_sem] max2_int min2_int max_two min_two
attribute [local go_sem ↓] eql_nt neq_nt eql_ad net_addr net_bits

theorem inf_rt : (Try.prog.info? 35).map (fun i => (i.zero, i.size, i.bytes)) = some (some (.agg #[.int .u8 0, .int .u8 0, .int .u8 0, .int .u8 0, .int .i64 0, .int .i64 0]), 6, 24) := by kernel_rfl
theorem rt_one (x : Rt) : ∀ u ∈ rtRow x, u.oneCell' = true := fun u hu => by
  unfold rtRow at hu
  simp only [List.mem_cons, List.not_mem_nil, or_false] at hu
  rcases hu with rfl | rfl | rfl | rfl | rfl | rfl <;> rfl
theorem cmpS (g n : Nat) (w : World) : CmpLays Try.prog 27 #[] encS 6 cfS g 0 n w := fun m os dk _ x y =>
  list1_any x.1.1.1 x.1.1.2.1 x.1.1.2.2.1 x.1.1.2.2.2.1 x.1.1.2.2.2.2 x.1.2 y.1.1.1 y.1.1.2.1 y.1.1.2.2.1 y.1.1.2.2.2.1 y.1.1.2.2.2.2 y.1.2 x.2 y.2 _
theorem sort_any (g cap : Nat) (d : Array RtS) (w : World) (hH : HoldsK encS 6 w g 0 d) (hg : g < w.heap.size) (hsz : d.size < 4611686018427387904) :
    Calls Try.prog 26 #[.slice (some ⟨g, 0, none⟩) d.size cap, .func (.func 27) #[] #[]] w fun e w' => e = .returned (.tuple #[]) ∧ ∃ d' n os, PermIn 0 d.size d d' ∧ SortedIn (ltOf cfS) 0 d.size d' ∧ w' = sortWorldK encS 6 w g 0 n d' os :=
  AnyQ.slices_SortFunc sortRt 6 Try.isAgg35 Try.sizeOf35 encS (fun _ => rfl) (fun x => rt_one x.1) cfS swoS 27 #[] g 0 cap d w (enters_of Try.func27 (by kernel_rfl) rfl) (cmpS g d.size w) hH hg hsz
theorem sort_none (w : World) :
    Calls Try.prog 26 #[.slice none 0 0, .func (.func 27) #[] #[]] w fun e w' => e = .returned (.tuple #[]) ∧ w' = w :=
  AnyF.slices_SortFunc_none sortRt none 0 (.func (.func 27) #[] #[]) w
theorem append_rt1 {ops : Array Oper} {rest : List Oper} {o : Oper} {a : Act} {Q : Exit → Act → World → Prop} {W : World} (base : Nat) (hgd : o.guard = none) (s x : Operand)
    (ho : o.op = .call { callee := .builtin .append, args := #[s, x], argTypes := #[41, 41] })
    (v : Value) (l : List Rt) (P : Rt) (ad : Addr) (hs : a.eval s = v) (hx : a.eval x = .slice (some ad) 1 1)
    (HO : W.ownsRow base 35 6 v l.length (rrows l)) (hc : ∀ j u, (rtRow P)[j]? = some u → W.cell? (ad.add j) = some u) (hl : l.length ≤ 1000) (hbase : base ≤ W.heap.size)
    (h : ∀ v1 w1, w1.ownsRow base 35 6 v1 (l.length + 1) (rrows l ++ rtRow P) → W.grownBy w1 v.ownBlock → wpList Try.prog ops Q rest (a.put o.dst v1) w1) :
    wpList Try.prog ops Q (o :: rest) a W := by
  obtain ⟨i0, hi, hzz⟩ := Option.map_eq_some_iff.1 inf_rt
  simp only [Prod.mk.injEq] at hzz
  obtain ⟨hz0, hz1, hz2⟩ := hzz
  obtain ⟨v1, w1, hr, h1, h2, _⟩ := run_append_own (P := Try.prog) W base 41 o.type 35 i0 _ 6 24 Try.underlying41 hi hz0 hz1 hz2 rfl (by omega) v l.length (rrows l) HO ad 1 1 (rtRow P) rfl hc (rt_one P) (by simp only [maxLen]; omega) (by omega) hbase
  refine wpList_step fun K hK => ?_
  rw [if_pos (by simp [Region.wanted, hgd])]
  unfold Oper.wp execOp
  simp only [ho, resolve, invoke, builtin, Sem.run_bind, Sem.run_pure, Result.andThen_ok, List.map_toArray, List.map_cons, List.map_nil, hs, hx, hr]
  exact hK _ _ (h v1 w1 h1 h2)
theorem rt_news {W : World} {B : Nat} (h : W.heap.size = B) (x : Rt) (j : Nat) (u : Value) (hu : (rtRow x)[j]? = some u) : (W.alloc (.cells #[.int .u8 x.1.1, .int .u8 x.1.2.1, .int .u8 x.1.2.2.1, .int .u8 x.1.2.2.2.1, .int .i64 x.1.2.2.2.2, .int .i64 x.2] 35)).cell? ((⟨B, 0, none⟩ : Addr).add j) = some u := by
  subst h
  have h := bk_cell (bk_new W #[.int .u8 x.1.1, .int .u8 x.1.2.1, .int .u8 x.1.2.2.1, .int .u8 x.1.2.2.2.1, .int .i64 x.1.2.2.2.2, .int .i64 x.2] 35) j
  rw [add_lit0, h, ← hu]
  show (#[Value.int .u8 x.1.1, .int .u8 x.1.2.1, .int .u8 x.1.2.2.1, .int .u8 x.1.2.2.2.1, .int .i64 x.1.2.2.2.2, .int .i64 x.2] : Array Value)[j]? = (rtRow x)[j]?
  rw [← List.getElem?_toArray]; rfl
theorem ordered_of {d : Array RtS} (h : SortedIn (ltOf cfS) 0 d.size d) (hn : ((d.toList.map (·.1)).map (·.1)).Nodup) : Ordered (d.toList.map (·.1)) := by
  unfold Ordered
  rw [List.pairwise_iff_getElem]
  intro i j hi hj hij
  have hi' : i < d.size := by simpa using hi
  have hj' : j < d.size := by simpa using hj
  have h1 := h i j (Nat.zero_le _) hij hj'
  rw [getElem!_pos d i hi', getElem!_pos d j hj'] at h1
  unfold ltOf cfS at h1
  rw [cfK_lt] at h1
  simp only [List.getElem_map, Array.getElem_toList]
  unfold ltR
  have hne : keyR d[i].1 ≠ keyR d[j].1 := fun e => by
    have hk := key_inj d[i].2 d[j].2 e
    have := List.pairwise_iff_getElem.1 hn i j (by simpa using hi') (by simpa using hj') hij
    simp only [List.getElem_map, Array.getElem_toList] at this
    exact this hk
  rw [ltK_no] at h1
  rw [ltK_iff]
  rcases h1 with h1 | ⟨h1, h2⟩
  · exact .inl h1
  · refine .inr ⟨h1.symm, ?_⟩
    rcases Int.lt_or_eq_of_le h2 with h3 | h3
    · exact h3
    · exact absurd (Prod.ext h1.symm h3) hne
def ListPost (l : List Rt) (w : World) (e : Ending) (w' : World) : Prop := ∃ (A : Option Addr) (c : Nat) (d : List Rt), e = .returned (.slice A d.length c) ∧ RtAt w' A d ∧ Ordered d ∧ d.Perm l ∧ Below w.heap.size w w'
def lenV (v : Value) : Nat := match v with
  | .slice _ n _ => n
  | _ => 0
end Go.Proofs.Ytebeknnjjoobnaa
