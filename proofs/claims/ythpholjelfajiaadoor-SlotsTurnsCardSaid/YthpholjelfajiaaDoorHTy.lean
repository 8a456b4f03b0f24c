/- Small words on worlds: rows told apart by their types; a block of four cells that is stored into. -/
import Derived.Test.YthpholjelfajiaaDoorX0
namespace Go.Proofs.YthpholjelfajiaaDoor.G
open Go.RowKit Go.Proofs.YthpholjelfajiaaDoorW.PrintWords Go.Proofs.YthpholjelfajiaaDoorW.PrintLast Go.Proofs.YthpholjelfajiaaDoorW.PrintMore
theorem own_ty {α : Type} {d : Kd α} {e : Nat} {w : World} {base : Nat} {ok : Nat → Prop} {v : Value} {xs : List α} (h : d.R e w base ok v xs) : ∀ g, v.ownBlock = some g → ∃ cells, w.heap[g]? = some (.cells cells e (0, 0)) := fun g hg => by
  obtain ⟨inner, ho⟩ := Kd.R_own h
  exact own_typed ho g hg
theorem R_grown_ty {α : Type} {d : Kd α} {e t : Nat} {w w1 : World} {base : Nat} {v : Value} {xs : List α} {row : Option Nat} (h : d.R e w base (fun _ => True) v xs) (hg : w.grownBy w1 row) (hrow : ∀ g, row = some g → ∃ cells, w.heap[g]? = some (.cells cells t (0, 0))) (ht : ∀ q, q ∈ e :: d.E → q ≠ t) : d.R e w1 base (fun _ => True) v xs := by
  cases row with
  | none => exact Kd.R_grown h hg (fun _ _ => by simp)
  | some g =>
    obtain ⟨cells, hh⟩ := hrow g rfl
    exact Kd.R_mono (Kd.R_grown (Kd.R_types h hh ht) hg (fun k hk e => hk.2 (by injection e))) (fun _ _ => trivial)
theorem blk_grown_ty {α : Type} {d : Kd α} {e t : Nat} {w w1 : World} {base : Nat} {ok : Nat → Prop} {v : Value} {xs : List α} {g : Nat} {cs : Array Value} (h : w.heap[g]? = some (.cells cs t (0, 0))) (hr : d.R e w base ok v xs) (hg : w.grownBy w1 v.ownBlock) (ht : e ≠ t) : w1.heap[g]? = some (.cells cs t (0, 0)) :=
  blk_grown h hg (fun he => by
    obtain ⟨cells, hh⟩ := own_ty hr g he.symm
    rw [hh] at h
    injection h with h
    injection h with _ h
    exact ht h)
theorem blk4 {W : World} {g : Nat} {t : TypeId} {x0 x1 x2 x3 : Value} (h : W.heap[g]? = some (.cells #[x0, x1, x2, x3] t (0, 0))) (y0 y1 y2 y3 : Value) : ((((W.setCell ⟨g, 0, none⟩ y0).setCell ⟨g, 1, none⟩ y1).setCell ⟨g, 2, none⟩ y2).setCell ⟨g, 3, none⟩ y3).heap[g]? = some (.cells #[y0, y1, y2, y3] t (0, 0)) := blk_put (blk_put (blk_put (blk_put h 0 y0 rfl) 1 y1 rfl) 2 y2 rfl) 3 y3 rfl
theorem below4 {w W : World} {g : Nat} (h : Below w.heap.size w W) (hg : w.heap.size ≤ g) (y0 y1 y2 y3 : Value) : Below w.heap.size w ((((W.setCell ⟨g, 0, none⟩ y0).setCell ⟨g, 1, none⟩ y1).setCell ⟨g, 2, none⟩ y2).setCell ⟨g, 3, none⟩ y3) := below_set (below_set (below_set (below_set h hg) hg) hg) hg
theorem cells4 {W : World} {g : Nat} {t : TypeId} {x0 x1 x2 x3 : Value} (h : W.heap[g]? = some (.cells #[x0, x1, x2, x3] t (0, 0))) : W.cell? ⟨g, 0, none⟩ = some x0 ∧ W.cell? ⟨g, 1, none⟩ = some x1 ∧ W.cell? ⟨g, 2, none⟩ = some x2 ∧ W.cell? ⟨g, 3, none⟩ = some x3 ∧ W.frozen? ⟨g, 0, none⟩ = false ∧ W.frozen? ⟨g, 1, none⟩ = false ∧ W.frozen? ⟨g, 2, none⟩ = false ∧ W.frozen? ⟨g, 3, none⟩ = false :=
  ⟨(blk_cell h 0).trans rfl, (blk_cell h 1).trans rfl, (blk_cell h 2).trans rfl, (blk_cell h 3).trans rfl, blk_frozen h 0, blk_frozen h 1, blk_frozen h 2, blk_frozen h 3⟩
theorem R_set4 {α : Type} {d : Kd α} {e : Nat} {W : World} {base : Nat} {ok : Nat → Prop} {v : Value} {xs : List α} {g : Nat} {t : TypeId} {x0 x1 x2 x3 : Value} (h : d.R e W base ok v xs) (hb : W.heap[g]? = some (.cells #[x0, x1, x2, x3] t (0, 0))) (ht : ∀ q, q ∈ e :: d.E → q ≠ t) (y0 y1 y2 y3 : Value) : d.R e ((((W.setCell ⟨g, 0, none⟩ y0).setCell ⟨g, 1, none⟩ y1).setCell ⟨g, 2, none⟩ y2).setCell ⟨g, 3, none⟩ y3) base ok v xs :=
  Kd.R_set (Kd.R_set (Kd.R_set (Kd.R_set h hb ht 0 y0) (blk_put hb 0 y0 rfl) ht 1 y1) (blk_put (blk_put hb 0 y0 rfl) 1 y1 rfl) ht 2 y2) (blk_put (blk_put (blk_put hb 0 y0 rfl) 1 y1 rfl) 2 y2 rfl) ht 3 y3
end Go.Proofs.YthpholjelfajiaaDoor.G
