/- Rows of cells in a block: what they hold, and a store over all of them. (Written by a small program, wip/cells.py.) -/
import Derived.Test.YtfcekicjlgdmaaaBase
set_option linter.unusedVariables false
namespace Go.Proofs.Ytfcekicjlgdmaaa
open Go.RowKit
theorem cells2 {w : World} {g : Nat} {v0 v1 : Value} {t : TypeId} (h : Bk w g #[v0, v1] t) :
    w.cell? ⟨g, 0, none⟩ = some v0 ∧ w.cell? ⟨g, 1, none⟩ = some v1 ∧ w.frozen? ⟨g, 0, none⟩ = false ∧ w.frozen? ⟨g, 1, none⟩ = false :=
  ⟨(bk_cell h 0).trans rfl, (bk_cell h 1).trans rfl, bk_frozen h 0, bk_frozen h 1⟩
theorem put2 {w : World} {g : Nat} {v0 v1 u0 u1 : Value} {t : TypeId} (h : Bk w g #[v0, v1] t) : Bk ((w.setCell ⟨g, 0, none⟩ u0).setCell ⟨g, 1, none⟩ u1) g #[u0, u1] t := by
  have h0 : Bk _ g #[u0, v1] t := bk_put (i := 0) (u := u0) h rfl
  have h1 : Bk _ g #[u0, u1] t := bk_put (i := 1) (u := u1) h0 rfl
  exact h1
theorem cells3 {w : World} {g : Nat} {v0 v1 v2 : Value} {t : TypeId} (h : Bk w g #[v0, v1, v2] t) :
    w.cell? ⟨g, 0, none⟩ = some v0 ∧ w.cell? ⟨g, 1, none⟩ = some v1 ∧ w.cell? ⟨g, 2, none⟩ = some v2 ∧ w.frozen? ⟨g, 0, none⟩ = false ∧ w.frozen? ⟨g, 1, none⟩ = false ∧ w.frozen? ⟨g, 2, none⟩ = false :=
  ⟨(bk_cell h 0).trans rfl, (bk_cell h 1).trans rfl, (bk_cell h 2).trans rfl, bk_frozen h 0, bk_frozen h 1, bk_frozen h 2⟩
theorem put3 {w : World} {g : Nat} {v0 v1 v2 u0 u1 u2 : Value} {t : TypeId} (h : Bk w g #[v0, v1, v2] t) : Bk (((w.setCell ⟨g, 0, none⟩ u0).setCell ⟨g, 1, none⟩ u1).setCell ⟨g, 2, none⟩ u2) g #[u0, u1, u2] t := by
  have h0 : Bk _ g #[u0, v1, v2] t := bk_put (i := 0) (u := u0) h rfl
  have h1 : Bk _ g #[u0, u1, v2] t := bk_put (i := 1) (u := u1) h0 rfl
  have h2 : Bk _ g #[u0, u1, u2] t := bk_put (i := 2) (u := u2) h1 rfl
  exact h2
theorem cells7 {w : World} {g : Nat} {v0 v1 v2 v3 v4 v5 v6 : Value} {t : TypeId} (h : Bk w g #[v0, v1, v2, v3, v4, v5, v6] t) :
    w.cell? ⟨g, 0, none⟩ = some v0 ∧ w.cell? ⟨g, 1, none⟩ = some v1 ∧ w.cell? ⟨g, 2, none⟩ = some v2 ∧ w.cell? ⟨g, 3, none⟩ = some v3 ∧ w.cell? ⟨g, 4, none⟩ = some v4 ∧ w.cell? ⟨g, 5, none⟩ = some v5 ∧ w.cell? ⟨g, 6, none⟩ = some v6 ∧ w.frozen? ⟨g, 0, none⟩ = false ∧ w.frozen? ⟨g, 1, none⟩ = false ∧ w.frozen? ⟨g, 2, none⟩ = false ∧ w.frozen? ⟨g, 3, none⟩ = false ∧ w.frozen? ⟨g, 4, none⟩ = false ∧ w.frozen? ⟨g, 5, none⟩ = false ∧ w.frozen? ⟨g, 6, none⟩ = false :=
  ⟨(bk_cell h 0).trans rfl, (bk_cell h 1).trans rfl, (bk_cell h 2).trans rfl, (bk_cell h 3).trans rfl, (bk_cell h 4).trans rfl, (bk_cell h 5).trans rfl, (bk_cell h 6).trans rfl, bk_frozen h 0, bk_frozen h 1, bk_frozen h 2, bk_frozen h 3, bk_frozen h 4, bk_frozen h 5, bk_frozen h 6⟩
theorem put7 {w : World} {g : Nat} {v0 v1 v2 v3 v4 v5 v6 u0 u1 u2 u3 u4 u5 u6 : Value} {t : TypeId} (h : Bk w g #[v0, v1, v2, v3, v4, v5, v6] t) : Bk (((((((w.setCell ⟨g, 0, none⟩ u0).setCell ⟨g, 1, none⟩ u1).setCell ⟨g, 2, none⟩ u2).setCell ⟨g, 3, none⟩ u3).setCell ⟨g, 4, none⟩ u4).setCell ⟨g, 5, none⟩ u5).setCell ⟨g, 6, none⟩ u6) g #[u0, u1, u2, u3, u4, u5, u6] t := by
  have h0 : Bk _ g #[u0, v1, v2, v3, v4, v5, v6] t := bk_put (i := 0) (u := u0) h rfl
  have h1 : Bk _ g #[u0, u1, v2, v3, v4, v5, v6] t := bk_put (i := 1) (u := u1) h0 rfl
  have h2 : Bk _ g #[u0, u1, u2, v3, v4, v5, v6] t := bk_put (i := 2) (u := u2) h1 rfl
  have h3 : Bk _ g #[u0, u1, u2, u3, v4, v5, v6] t := bk_put (i := 3) (u := u3) h2 rfl
  have h4 : Bk _ g #[u0, u1, u2, u3, u4, v5, v6] t := bk_put (i := 4) (u := u4) h3 rfl
  have h5 : Bk _ g #[u0, u1, u2, u3, u4, u5, v6] t := bk_put (i := 5) (u := u5) h4 rfl
  have h6 : Bk _ g #[u0, u1, u2, u3, u4, u5, u6] t := bk_put (i := 6) (u := u6) h5 rfl
  exact h6
theorem cells13 {w : World} {g : Nat} {v0 v1 v2 v3 v4 v5 v6 v7 v8 v9 v10 v11 v12 : Value} {t : TypeId} (h : Bk w g #[v0, v1, v2, v3, v4, v5, v6, v7, v8, v9, v10, v11, v12] t) :
    w.cell? ⟨g, 0, none⟩ = some v0 ∧ w.cell? ⟨g, 1, none⟩ = some v1 ∧ w.cell? ⟨g, 2, none⟩ = some v2 ∧ w.cell? ⟨g, 3, none⟩ = some v3 ∧ w.cell? ⟨g, 4, none⟩ = some v4 ∧ w.cell? ⟨g, 5, none⟩ = some v5 ∧ w.cell? ⟨g, 6, none⟩ = some v6 ∧ w.cell? ⟨g, 7, none⟩ = some v7 ∧ w.cell? ⟨g, 8, none⟩ = some v8 ∧ w.cell? ⟨g, 9, none⟩ = some v9 ∧ w.cell? ⟨g, 10, none⟩ = some v10 ∧ w.cell? ⟨g, 11, none⟩ = some v11 ∧ w.cell? ⟨g, 12, none⟩ = some v12 ∧ w.frozen? ⟨g, 0, none⟩ = false ∧ w.frozen? ⟨g, 1, none⟩ = false ∧ w.frozen? ⟨g, 2, none⟩ = false ∧ w.frozen? ⟨g, 3, none⟩ = false ∧ w.frozen? ⟨g, 4, none⟩ = false ∧ w.frozen? ⟨g, 5, none⟩ = false ∧ w.frozen? ⟨g, 6, none⟩ = false ∧ w.frozen? ⟨g, 7, none⟩ = false ∧ w.frozen? ⟨g, 8, none⟩ = false ∧ w.frozen? ⟨g, 9, none⟩ = false ∧ w.frozen? ⟨g, 10, none⟩ = false ∧ w.frozen? ⟨g, 11, none⟩ = false ∧ w.frozen? ⟨g, 12, none⟩ = false :=
  ⟨(bk_cell h 0).trans rfl, (bk_cell h 1).trans rfl, (bk_cell h 2).trans rfl, (bk_cell h 3).trans rfl, (bk_cell h 4).trans rfl, (bk_cell h 5).trans rfl, (bk_cell h 6).trans rfl, (bk_cell h 7).trans rfl, (bk_cell h 8).trans rfl, (bk_cell h 9).trans rfl, (bk_cell h 10).trans rfl, (bk_cell h 11).trans rfl, (bk_cell h 12).trans rfl, bk_frozen h 0, bk_frozen h 1, bk_frozen h 2, bk_frozen h 3, bk_frozen h 4, bk_frozen h 5, bk_frozen h 6, bk_frozen h 7, bk_frozen h 8, bk_frozen h 9, bk_frozen h 10, bk_frozen h 11, bk_frozen h 12⟩
theorem put13 {w : World} {g : Nat} {v0 v1 v2 v3 v4 v5 v6 v7 v8 v9 v10 v11 v12 u0 u1 u2 u3 u4 u5 u6 u7 u8 u9 u10 u11 u12 : Value} {t : TypeId} (h : Bk w g #[v0, v1, v2, v3, v4, v5, v6, v7, v8, v9, v10, v11, v12] t) : Bk (((((((((((((w.setCell ⟨g, 0, none⟩ u0).setCell ⟨g, 1, none⟩ u1).setCell ⟨g, 2, none⟩ u2).setCell ⟨g, 3, none⟩ u3).setCell ⟨g, 4, none⟩ u4).setCell ⟨g, 5, none⟩ u5).setCell ⟨g, 6, none⟩ u6).setCell ⟨g, 7, none⟩ u7).setCell ⟨g, 8, none⟩ u8).setCell ⟨g, 9, none⟩ u9).setCell ⟨g, 10, none⟩ u10).setCell ⟨g, 11, none⟩ u11).setCell ⟨g, 12, none⟩ u12) g #[u0, u1, u2, u3, u4, u5, u6, u7, u8, u9, u10, u11, u12] t := by
  have h0 : Bk _ g #[u0, v1, v2, v3, v4, v5, v6, v7, v8, v9, v10, v11, v12] t := bk_put (i := 0) (u := u0) h rfl
  have h1 : Bk _ g #[u0, u1, v2, v3, v4, v5, v6, v7, v8, v9, v10, v11, v12] t := bk_put (i := 1) (u := u1) h0 rfl
  have h2 : Bk _ g #[u0, u1, u2, v3, v4, v5, v6, v7, v8, v9, v10, v11, v12] t := bk_put (i := 2) (u := u2) h1 rfl
  have h3 : Bk _ g #[u0, u1, u2, u3, v4, v5, v6, v7, v8, v9, v10, v11, v12] t := bk_put (i := 3) (u := u3) h2 rfl
  have h4 : Bk _ g #[u0, u1, u2, u3, u4, v5, v6, v7, v8, v9, v10, v11, v12] t := bk_put (i := 4) (u := u4) h3 rfl
  have h5 : Bk _ g #[u0, u1, u2, u3, u4, u5, v6, v7, v8, v9, v10, v11, v12] t := bk_put (i := 5) (u := u5) h4 rfl
  have h6 : Bk _ g #[u0, u1, u2, u3, u4, u5, u6, v7, v8, v9, v10, v11, v12] t := bk_put (i := 6) (u := u6) h5 rfl
  have h7 : Bk _ g #[u0, u1, u2, u3, u4, u5, u6, u7, v8, v9, v10, v11, v12] t := bk_put (i := 7) (u := u7) h6 rfl
  have h8 : Bk _ g #[u0, u1, u2, u3, u4, u5, u6, u7, u8, v9, v10, v11, v12] t := bk_put (i := 8) (u := u8) h7 rfl
  have h9 : Bk _ g #[u0, u1, u2, u3, u4, u5, u6, u7, u8, u9, v10, v11, v12] t := bk_put (i := 9) (u := u9) h8 rfl
  have h10 : Bk _ g #[u0, u1, u2, u3, u4, u5, u6, u7, u8, u9, u10, v11, v12] t := bk_put (i := 10) (u := u10) h9 rfl
  have h11 : Bk _ g #[u0, u1, u2, u3, u4, u5, u6, u7, u8, u9, u10, u11, v12] t := bk_put (i := 11) (u := u11) h10 rfl
  have h12 : Bk _ g #[u0, u1, u2, u3, u4, u5, u6, u7, u8, u9, u10, u11, u12] t := bk_put (i := 12) (u := u12) h11 rfl
  exact h12
end Go.Proofs.Ytfcekicjlgdmaaa
