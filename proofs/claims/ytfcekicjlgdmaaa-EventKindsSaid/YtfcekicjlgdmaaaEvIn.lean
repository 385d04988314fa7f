/- An event that came in: its numbers, its policies, its drops. -/
import Derived.Test.YtfcekicjlgdmaaaPolicy12
set_option linter.unusedVariables false
set_option linter.unusedSimpArgs false
set_option maxRecDepth 100000
namespace Go.Proofs.Ytfcekicjlgdmaaa
open Go.RowKit Go.Proofs.YtfcekicjlgdmaaaW.PrintWords
open Go.ChangeShapes Go.WideShapes Go.ChangeAt
section
variable {H : Type} {enc : TypeId × Value → H} {w : World} {base : Nat} {held : Bool}
theorem ev_open {fuel : Nat} {cs : List Value} {x : DataW H × List MemPlace} (h : DataW.trod enc Try.prog w base (fun _ => true) held fuel 53 cs = some x) :
    ∃ (k s : Int) (A1 : Option Addr) (l1 c1 : Nat) (A2 : Option Addr) (l2 c2 : Nat) (zs : List Int) (g p : Int), cs = [.int .i64 k, .int .i64 s, .slice A1 l1 c1, .slice A2 l2 c2, .int .u64 g, .int .u64 p] ∧
      IsFlat polLeaves w A1 l1 c1 ∧ IsRow .i64 w A2 l2 c2 zs ∧ (Lit.int .i64 k).wf = true ∧ (Lit.int .i64 s).wf = true ∧ (Lit.int .u64 g).wf = true ∧ (Lit.int .u64 p).wf = true := by
  obtain ⟨xs, n, _, _, hlen, hxl, hf⟩ := DataW.trod_struct Try.underlying53 h
  have hc : Try.prog.cellsOf 53 = 6 := by kernel_rfl
  rw [hc] at hlen
  obtain ⟨v0, v1, v2, v3, v4, v5, rfl⟩ : ∃ v0 v1 v2 v3 v4 v5, cs = [v0, v1, v2, v3, v4, v5] := by
    match cs, hlen with
    | [v0, v1, v2, v3, v4, v5], _ => exact ⟨v0, v1, v2, v3, v4, v5, rfl⟩
  have e1 : Try.prog.cellsOf 3 = 1 := by kernel_rfl
  have e2 : Try.prog.cellsOf 43 = 1 := by kernel_rfl
  have e3 : Try.prog.cellsOf 51 = 1 := by kernel_rfl
  have e4 : Try.prog.cellsOf 26 = 1 := by kernel_rfl
  obtain ⟨y0, y1, y2, y3, y4, y5, rfl⟩ : ∃ y0 y1 y2 y3 y4 y5, xs = [y0, y1, y2, y3, y4, y5] := by
    match xs, hxl with
    | [y0, y1, y2, y3, y4, y5], _ => exact ⟨y0, y1, y2, y3, y4, y5, rfl⟩
  have h0 : DataW.trod enc Try.prog w base (fun _ => true) held n 3 [v0] = some y0 := by
    have h : DataW.trod enc Try.prog w base (fun _ => true) held n 3 (([v0, v1, v2, v3, v4, v5].drop 0).take (Try.prog.cellsOf 3)) = some y0 := hf 0 _ rfl
    rw [e1] at h
    exact h
  have h1 : DataW.trod enc Try.prog w base (fun _ => true) held n 3 [v1] = some y1 := by
    have h : DataW.trod enc Try.prog w base (fun _ => true) held n 3 (([v0, v1, v2, v3, v4, v5].drop 1).take (Try.prog.cellsOf 3)) = some y1 := hf 1 _ rfl
    rw [e1] at h
    exact h
  have h2 : DataW.trod enc Try.prog w base (fun _ => true) held n 43 [v2] = some y2 := by
    have h : DataW.trod enc Try.prog w base (fun _ => true) held n 43 (([v0, v1, v2, v3, v4, v5].drop 2).take (Try.prog.cellsOf 43)) = some y2 := hf 2 _ rfl
    rw [e2] at h
    exact h
  have h3 : DataW.trod enc Try.prog w base (fun _ => true) held n 51 [v3] = some y3 := by
    have h : DataW.trod enc Try.prog w base (fun _ => true) held n 51 (([v0, v1, v2, v3, v4, v5].drop 3).take (Try.prog.cellsOf 51)) = some y3 := hf 3 _ rfl
    rw [e3] at h
    exact h
  have h4 : DataW.trod enc Try.prog w base (fun _ => true) held n 26 [v4] = some y4 := by
    have h : DataW.trod enc Try.prog w base (fun _ => true) held n 26 (([v0, v1, v2, v3, v4, v5].drop 4).take (Try.prog.cellsOf 26)) = some y4 := hf 4 _ rfl
    rw [e4] at h
    exact h
  have h5 : DataW.trod enc Try.prog w base (fun _ => true) held n 26 [v5] = some y5 := by
    have h : DataW.trod enc Try.prog w base (fun _ => true) held n 26 (([v0, v1, v2, v3, v4, v5].drop 5).take (Try.prog.cellsOf 26)) = some y5 := hf 5 _ rfl
    rw [e4] at h
    exact h
  obtain ⟨k, hk, _, wk⟩ := DataW.trod_int Try.underlying3 h0
  obtain ⟨s, hs, _, ws⟩ := DataW.trod_int Try.underlying3 h1
  obtain ⟨g, hg, _, wg⟩ := DataW.trod_int Try.underlying26 h4
  obtain ⟨p, hp, _, wp⟩ := DataW.trod_int Try.underlying26 h5
  obtain ⟨A1, l1, c1, hv2⟩ : ∃ A l c, v2 = .slice A l c := by
    rcases Deep.open_slice Try.underlying43 h2 with ⟨h, _⟩ | ⟨a, l, c, _, _, _, _, h, _⟩ <;> exact ⟨_, _, _, by simpa using h⟩
  subst hv2
  have hfl : IsFlat polLeaves w A1 l1 c1 := isFlat_of (f := 8) Try.underlying43 pol_leaves pol_cells h2
  obtain ⟨A2, l2, c2, zs, hv3, hrow⟩ : ∃ A l c zs, v3 = .slice A l c ∧ IsRow .i64 w A l c zs := by
    rcases open_ints Try.underlying51 Try.underlying3 e1 h3 with ⟨h, _⟩ | ⟨a, l, c, zs, h, _, hl, hm, hz, _, hcell, hwz⟩
    · exact ⟨none, 0, 0, [], by simpa using h, .inl ⟨rfl, rfl, rfl, rfl⟩⟩
    · exact ⟨some a, l, c, zs, by simpa using h, .inr ⟨a, rfl, hl, hm, by simpa using hz, hcell, hwz⟩⟩
  subst hv3
  obtain rfl : v0 = .int .i64 k := by simpa using hk
  obtain rfl : v1 = .int .i64 s := by simpa using hs
  obtain rfl : v4 = .int .u64 g := by simpa using hg
  obtain rfl : v5 = .int .u64 p := by simpa using hp
  exact ⟨k, s, A1, l1, c1, A2, l2, c2, zs, g, p, rfl, hfl, hrow, wk, ws, wg, wp⟩
end
end Go.Proofs.Ytfcekicjlgdmaaa
