/- Contracts: sorting and appending rows. -/
import Derived.Test.YtebeknnjjoobnaaDoorBiL
import Derived.Test.YtebeknnjjoobnaaDoorBiY
import Derived.Shelf.SlSortCmp.NoneTotal
set_option linter.unusedVariables false
set_option linter.unusedSimpArgs false
set_option maxRecDepth 100000
namespace Go.Proofs.YtebeknnjjoobnaaDoor
open Go.RowKit Go.Sort Go.Lib Go.Shelf Go.Proofs
attribute [local go_sem] max2_int min2_int max_two min_two

theorem inf_rw : (Tryd.prog.info? 32).map (fun i => (i.zero, i.size, i.bytes)) = some (some (.agg #[.int .i64 0, .int .u64 0, .int .u64 0, .int .u64 0, .int .u64 0, .int .u64 0]), 6, 48) := by kernel_rfl
theorem rw_one (x : Rw) : ∀ u ∈ rwRow x, u.oneCell' = true := fun u hu => by
  unfold rwRow at hu
  simp only [List.mem_cons, List.not_mem_nil, or_false] at hu
  rcases hu with rfl | rfl | rfl | rfl | rfl | rfl <;> rfl
theorem cmpS (g n : Nat) (w : World) : CmpLays Tryd.prog 26 #[] encS 6 cfS g 0 n w := fun m os dk _ x y => less1_any x.1 y.1 _
theorem sort_any (g cap : Nat) (d : Array RwS) (w : World) (hH : HoldsK encS 6 w g 0 d) (hg : g < w.heap.size) (hsz : d.size < 4611686018427387904) :
    Calls Tryd.prog 25 #[.slice (some ⟨g, 0, none⟩) d.size cap, .func (.func 26) #[] #[]] w fun e w' => e = .returned (.tuple #[]) ∧ ∃ d' n os, PermIn 0 d.size d d' ∧ SortedIn (ltOf cfS) 0 d.size d' ∧ w' = sortWorldK encS 6 w g 0 n d' os :=
  AnyQ.slices_SortFunc sortRw 6 Tryd.isAgg32 Tryd.sizeOf32 encS (fun _ => rfl) (fun x => rw_one x.1) cfS swoS 26 #[] g 0 cap d w (enters_of Tryd.func26 (by kernel_rfl) rfl) (cmpS g d.size w) hH hg hsz
theorem sort_none (w : World) :
    Calls Tryd.prog 25 #[.slice none 0 0, .func (.func 26) #[] #[]] w fun e w' => e = .returned (.tuple #[]) ∧ w' = w :=
  AnyF.slices_SortFunc_none sortRw none 0 (.func (.func 26) #[] #[]) w
theorem append_rw1 {ops : Array Oper} {rest : List Oper} {o : Oper} {a : Act} {Q : Exit → Act → World → Prop} {W : World} (base : Nat) (hgd : o.guard = none) (s x : Operand)
    (ho : o.op = .call { callee := .builtin .append, args := #[s, x], argTypes := #[26, 26] })
    (v : Value) (l : List Rw) (P : Rw) (ad : Addr) (hs : a.eval s = v) (hx : a.eval x = .slice (some ad) 1 1)
    (HO : W.ownsRow base 32 6 v l.length (wrows l)) (hc : ∀ j u, (rwRow P)[j]? = some u → W.cell? (ad.add j) = some u) (hl : l.length ≤ 1000) (hbase : base ≤ W.heap.size)
    (h : ∀ v1 w1, w1.ownsRow base 32 6 v1 (l.length + 1) (wrows l ++ rwRow P) → W.grownBy w1 v.ownBlock → wpList Tryd.prog ops Q rest (a.put o.dst v1) w1) :
    wpList Tryd.prog ops Q (o :: rest) a W := by
  obtain ⟨i0, hi, hzz⟩ := Option.map_eq_some_iff.1 inf_rw
  simp only [Prod.mk.injEq] at hzz
  obtain ⟨hz0, hz1, hz2⟩ := hzz
  obtain ⟨v1, w1, hr, h1, h2, _⟩ := run_append_own (P := Tryd.prog) W base 26 o.type 32 i0 _ 6 48 Tryd.underlying26 hi hz0 hz1 hz2 rfl (by omega) v l.length (wrows l) HO ad 1 1 (rwRow P) rfl hc (rw_one P) (by simp only [maxLen]; omega) (by omega) hbase
  refine wpList_step fun K hK => ?_
  rw [if_pos (by simp [Region.wanted, hgd])]
  unfold Oper.wp execOp
  simp only [ho, resolve, invoke, builtin, Sem.run_bind, Sem.run_pure, Result.andThen_ok, List.map_toArray, List.map_cons, List.map_nil, hs, hx, hr]
  exact hK _ _ (h v1 w1 h1 h2)
theorem rw_news {W : World} {B : Nat} (h : W.heap.size = B) (x : Rw) (j : Nat) (u : Value) (hu : (rwRow x)[j]? = some u) : (W.alloc (.cells #[.int .i64 x.1.1, .int .u64 x.1.2, .int .u64 x.2.1, .int .u64 x.2.2.1, .int .u64 x.2.2.2.1, .int .u64 x.2.2.2.2] 32)).cell? ((⟨B, 0, none⟩ : Addr).add j) = some u := by
  subst h
  have h := bk_cell (bk_new W #[.int .i64 x.1.1, .int .u64 x.1.2, .int .u64 x.2.1, .int .u64 x.2.2.1, .int .u64 x.2.2.2.1, .int .u64 x.2.2.2.2] 32) j
  rw [add_lit0, h, ← hu]
  show (#[Value.int .i64 x.1.1, .int .u64 x.1.2, .int .u64 x.2.1, .int .u64 x.2.2.1, .int .u64 x.2.2.2.1, .int .u64 x.2.2.2.2] : Array Value)[j]? = (rwRow x)[j]?
  rw [← List.getElem?_toArray]; rfl
theorem ordered_of {d : Array RwS} (h : SortedIn (ltOf cfS) 0 d.size d) (hn : ((d.toList.map (·.1)).map (·.1)).Nodup) : Ordered (d.toList.map (·.1)) := by
  unfold Ordered
  rw [List.pairwise_iff_getElem]
  intro i j hi hj hij
  have hi' : i < d.size := by simpa using hi
  have hj' : j < d.size := by simpa using hj
  have h1 := h i j (Nat.zero_le _) hij hj'
  rw [getElem!_pos d i hi', getElem!_pos d j hj'] at h1
  unfold ltOf cfS at h1
  rw [cfK_lt] at h1
  simp only [List.getElem_map, Array.getElem_toList]
  unfold ltR
  have hne : d[i].1.1 ≠ d[j].1.1 := fun hk => by
    have := List.pairwise_iff_getElem.1 hn i j (by simpa using hi') (by simpa using hj') hij
    simp only [List.getElem_map, Array.getElem_toList] at this
    exact this hk
  rw [ltK_no] at h1
  rw [ltK_iff]
  rcases h1 with h1 | ⟨h1, h2⟩
  · exact .inl h1
  · refine .inr ⟨h1.symm, ?_⟩
    rcases Int.lt_or_eq_of_le h2 with h3 | h3
    · exact h3
    · exact absurd (Prod.ext h1.symm h3) hne
def lenV (v : Value) : Nat := match v with
  | .slice _ n _ => n
  | _ => 0
end Go.Proofs.YtebeknnjjoobnaaDoor
