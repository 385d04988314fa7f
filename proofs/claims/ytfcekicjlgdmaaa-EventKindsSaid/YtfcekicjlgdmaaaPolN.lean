/- Small lemmas on a policy's numbers, and a step law for an append. -/
import Derived.Test.YtfcekicjlgdmaaaPolicy12
set_option linter.unusedVariables false
set_option linter.unusedSimpArgs false
set_option maxRecDepth 100000
namespace Go.Proofs.Ytfcekicjlgdmaaa
open Go.RowKit Go.Proofs.YtfcekicjlgdmaaaW.PrintWords
theorem ofV_ok {l : List Int} (hU : U64 l) : PolOk (ofV l).1 := by
  cases hb : ofB l with
  | false => unfold ofV; rw [hb, if_neg Bool.false_ne_true]; exact zeroP_ok
  | true =>
    have h10 : l.length = 10 := by
      unfold ofB at hb
      simp only [Bool.and_eq_true, decide_eq_true_eq] at hb
      exact hb.1.1
    obtain ⟨a0, a1, a2, a3, a4, a5, a6, a7, a8, a9, rfl⟩ := ten h10
    obtain ⟨⟨l0, m0⟩, ⟨l1, m1⟩, ⟨l2, m2⟩, ⟨l3, m3⟩, ⟨l4, m4⟩, ⟨l5, m5⟩, ⟨l6, m6⟩, ⟨l7, m7⟩, ⟨l8, m8⟩, ⟨l9, m9⟩⟩ := ten_ok hU
    have hx := hb
    rw [ofB_ten, Bool.and_eq_true] at hx
    obtain ⟨hx1, hx2⟩ := hx
    obtain ⟨⟨q1, q2⟩, _, q3, q4⟩ := rightP_bd hx2
    have q5 := of_decide_eq_true hx1
    dsimp only at q1 q2 q3 q4
    unfold ofV
    rw [hb, if_pos rfl]
    show PolOk (a0, (a1 / 16777216, a1 / 65536 % 256, a1 / 256 % 256, a1 % 256, a2), a3, a4, a5, a6, a7, a8, a9)
    exact ⟨⟨by dsimp only; omega, by dsimp only; omega⟩, ⟨by unfold AdOk; dsimp only; omega, by dsimp only; omega, by dsimp only; omega⟩, ⟨l3, m3⟩, ⟨l4, m4⟩, ⟨l5, m5⟩, ⟨l6, m6⟩, ⟨l7, m7⟩, ⟨l8, m8⟩, ⟨l9, m9⟩⟩
theorem nums_of {l : List Int} (hU : U64 l) (hb : ofB l = true) : polNums (polOf l) = l ∧ rightP (polOf l) = true ∧ ofV l = (polOf l, 0) := by
  have h10 : l.length = 10 := by
    unfold ofB at hb
    simp only [Bool.and_eq_true, decide_eq_true_eq] at hb
    exact hb.1.1
  obtain ⟨a0, a1, a2, a3, a4, a5, a6, a7, a8, a9, rfl⟩ := ten h10
  obtain ⟨⟨l0, m0⟩, ⟨l1, m1⟩, ⟨l2, m2⟩, ⟨l3, m3⟩, ⟨l4, m4⟩, ⟨l5, m5⟩, ⟨l6, m6⟩, ⟨l7, m7⟩, ⟨l8, m8⟩, ⟨l9, m9⟩⟩ := ten_ok hU
  have hx := hb
  rw [ofB_ten, Bool.and_eq_true] at hx
  obtain ⟨hx1, hx2⟩ := hx
  have q5 := of_decide_eq_true hx1
  have hr : rightP (polOf [a0, a1, a2, a3, a4, a5, a6, a7, a8, a9]) = true := hx2
  refine ⟨?_, hr, by unfold ofV; rw [hb, if_pos rfl]⟩
  unfold polNums
  rw [hr, if_pos rfl]
  unfold polOf numN numA
  simp only [List.getD_cons_zero, List.getD_cons_succ]
  have : ((a1 / 16777216 * 256 + a1 / 65536 % 256) * 256 + a1 / 256 % 256) * 256 + a1 % 256 = a1 := by omega
  rw [this]
theorem nums_eq {x y : Pol} (hx : PolOk x) (hy : PolOk y) (h : rightP x = true) (h' : rightP y = true) : decide (polNums x = polNums y) = eqP x y := by
  unfold eqP
  by_cases he : x = y
  · subst he; simp
  · have : polNums x ≠ polNums y := fun hn => he (by
      have e1 := of_nums hx h
      rw [hn, of_nums hy h'] at e1
      exact (Prod.mk.inj e1).1.symm)
    rw [decide_eq_false this, decide_eq_false he]
theorem nums_no {x : Pol} (h : rightP x = false) : polNums x = [] := by unfold polNums; rw [h]; rfl
theorem step_append_run {P : Program} {ops : Array Oper} {o : Oper} {a : Act} {w w1 : World} {K : Act → World → Prop} {Q : Exit → Act → World → Prop} {E : Prop} {t : TypeId} {s x : Operand} {v u v1 : Value} (hgd : o.guard = none)
    (ho : o.op = .call { callee := .builtin .append, args := #[s, x], argTypes := #[t, t] }) (hs : a.eval s = v) (hx : a.eval x = u) (hr : (Builtin.append_ #[t, t] o.type #[v, u]).run P w = .ok v1 w1) (h : K (a.put o.dst v1) w1) :
    if Region.wanted o (yielded ops a.tmps) = true then Oper.wp P o a w K Q else E := by
  have hw : Region.wanted o (yielded ops a.tmps) = true := by simp [Region.wanted, hgd]
  rw [if_pos hw]
  unfold Oper.wp execOp
  simp only [ho, resolve, invoke, builtin, Sem.run_bind, Sem.run_pure, Result.andThen_ok, List.map_toArray, List.map_cons, List.map_nil, hs, hx, hr]
  exact h
end Go.Proofs.Ytfcekicjlgdmaaa
