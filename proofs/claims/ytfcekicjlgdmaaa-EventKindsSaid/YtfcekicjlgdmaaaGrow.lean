/- An append that must grow: what was there stays. -/
import Derived.Test.YtfcekicjlgdmaaaBase
import Derived.Test.YtfcekicjlgdmaaaWWords
import Derived.ArgAppend
set_option linter.unusedVariables false
set_option linter.unusedSimpArgs false
namespace Go.Proofs.Ytfcekicjlgdmaaa
open Go.RowKit Go.Proofs.YtfcekicjlgdmaaaW.PrintWords
theorem append_grow {P : Program} {ops : Array Oper} {rest : List Oper} {o : Oper} {a : Act} {Q : Exit → Act → World → Prop} {W : World} (hgd : o.guard = none) (s x : Operand) (t e : TypeId) (k : IntKind) (bytes : Nat)
    (ho : o.op = .call { callee := .builtin .append, args := #[s, x], argTypes := #[t, t] })
    (ht : P.underlying t = some (.slice e)) (hinfo : (P.info? e).map (fun i => (i.zero, i.size, i.bytes)) = some (some (.int k 0), 1, bytes)) (hb0 : 0 < bytes)
    (A : Option Addr) (n cap : Nat) (xs ys : List Int) (ad : Addr) (m c : Nat) (hs : a.eval s = .slice A n cap) (hx : a.eval x = .slice (some ad) m c)
    (HR : ReadsInt W k A n xs) (HS : ReadsInt W k (some ad) m ys) (hnone : A = none → n = 0 ∧ cap = 0) (hfull : cap < n + m) (hl : (n + m) * bytes ≤ 140737488355328)
    (h : ∀ v1 w1, w1.ownsRow W.heap.size e 1 v1 (xs ++ ys).length (nums k (xs ++ ys)) → Below W.heap.size W w1 → wpList P ops Q rest (a.put o.dst v1) w1) :
    wpList P ops Q (o :: rest) a W := by
  obtain ⟨i0, hi, hzz⟩ := Option.map_eq_some_iff.1 hinfo
  simp only [Prod.mk.injEq] at hzz
  obtain ⟨hz0, hz1, hz2⟩ := hzz
  have hn : xs.length = n := HR.1
  have hm : ys.length = m := HS.1
  have hlen : n + m ≤ 140737488355328 := Nat.le_trans (Nat.le_mul_of_pos_right _ hb0) hl
  have rowc : ∀ {B : Addr} {q : Nat} {zs : List Int}, ReadsInt W k (some B) q zs → ∀ j u, (nums k zs)[j]? = some u → W.cell? (B.add j) = some u := fun {B q zs} hr j u hu => by
    have hj : j < zs.length := by
      have := (List.getElem?_eq_some_iff.1 hu).1
      simpa [nums] using this
    obtain ⟨ad', e1, hc⟩ := hr.2.2 (by rw [← hr.1]; omega)
    obtain rfl := Option.some.inj e1
    rw [hc j (by rw [← hr.1]; exact hj), ← hu]
    simp [nums, List.getD_eq_getElem?_getD, hj]
  refine wpList_append_grows W hgd s x t ho e i0 (.int k 0) 1 bytes ht hi hz0 hz1 hz2 rfl (by omega) A n cap (nums k xs) hs hnone (by simp [nums, hn]) (fun b hb j u hu => ?_) ad m c (nums k ys) hx (by simp [nums, hm]) (rowc HS) (fun u hu => ?_) hfull (by simp only [maxLen]; omega) hl ?_
  · subst hb; exact rowc HR j u hu
  · obtain ⟨y, _, rfl⟩ := List.mem_map.1 hu
    rfl
  · intro v1 w1 hown hg
    refine h v1 w1 ?_ ((Below.refl _ _).grown hg (Nat.le_refl _) (fun k hk => by cases hk))
    rw [nums_append, List.length_append, hn, hm]
    exact hown
end Go.Proofs.Ytfcekicjlgdmaaa
