/- Slots: what Save does to the disk keeps it small. Plain. -/
import Derived.Test.YthpholjelfajiaaDoorHSlOp
namespace Go.Proofs.YthpholjelfajiaaDoor.Sl
open Go.RowKit Go.Proofs.YthpholjelfajiaaDoor.G Go.Proofs.YthpholjelfajiaaDoor.Dsk Go.Proofs.YthpholjelfajiaaDoor.C Go.Proofs.YthpholjelfajiaaDoorW.PrintWords Go.Proofs.YthpholjelfajiaaDoorW.PrintLast Go.Proofs.YthpholjelfajiaaDoorW.PrintMore
set_option linter.unusedVariables false
set_option linter.unusedSimpArgs false
/-- A disk that stays small for so many steps more. -/
structure Room (d : Dk) (m : Nat) : Prop where
  steps : d.steps + m < 4611686018427387904
  left : d.left.getD 0 < 9223372036854775808
  waits : d.waits.length + m < 1000000000
  lies : d.lies.length ≤ 4096
theorem Room.small {d : Dk} {m : Nat} (h : Room d m) : Small d := ⟨by have := h.steps; omega, h.left, by have := h.waits; omega, by have := h.lies; omega⟩
theorem Room.less {d : Dk} {m : Nat} (h : Room d (m + 1)) : Room d m := ⟨by have := h.steps; omega, h.left, by have := h.waits; omega, h.lies⟩
theorem left_step (l : Option Nat) (h : l.getD 0 < 9223372036854775808) : (l.map (· - 1)).getD 0 < 9223372036854775808 := by
  cases l with
  | none => simp
  | some x => simp at h ⊢; omega
theorem Room.write {d : Dk} {m : Nat} (h : Room d (m + 1)) (n : Int) (b : List Int) : Room (Dsk.write d n b).1 m := by
  have h1 := h.steps; have h2 := h.waits
  unfold Dsk.write
  split
  · exact h.less
  · split
    · exact h.less
    · split
      · exact h.less
      · exact ⟨by show d.steps + 1 + m < _; omega, left_step _ h.left, by show (d.waits ++ [_]).length + m < _; rw [List.length_append]; show d.waits.length + 1 + m < _; omega, h.lies⟩
theorem Room.flush {d : Dk} {m : Nat} (h : Room d (m + 1)) : Room (Dsk.flush d).1 m := by
  have h1 := h.steps; have h2 := h.waits
  unfold Dsk.flush
  split
  · exact h.less
  · exact ⟨by show d.steps + 1 + m < _; omega, left_step _ h.left, by show 0 + m < _; omega, by show (Dsk.settle _ _).length ≤ _; rw [settle_len]; exact h.lies⟩
theorem Room.st1 {x : (Dk × Int) × Nat} {m : Nat} (h : Room x.1.1 (m + 1)) (b : List Int) : Room (st1 x b).1.1 m := by
  unfold Sl.st1
  split
  · exact h.write _ _
  · exact h.less
theorem Room.fl1 {x : Dk × Int} {m : Nat} (h : Room x.1 (m + 1)) : Room (fl1 x).1 m := by
  unfold Sl.fl1
  split
  · exact h.flush
  · exact h.less
theorem st1_next (x : (Dk × Int) × Nat) (b : List Int) : (st1 x b).2 ≤ x.2 + 1 := by
  unfold Sl.st1
  split
  · exact Nat.le_refl _
  · exact Nat.le_succ _
theorem wrs_succ (x : (Dk × Int) × Nat) (l : List (List Int)) (i : Nat) (b : List Int) (h : l[i]? = some b) : wrs x (l.take (i + 1)) = st1 (wrs x (l.take i)) b := by
  unfold wrs
  rw [List.take_add_one, h, List.foldl_append]
  rfl
theorem Room.wrs {m : Nat} : ∀ (l : List (List Int)) (x : (Dk × Int) × Nat), Room x.1.1 (m + l.length) → Room (wrs x l).1.1 m
  | [], x, h => h
  | b :: r, x, h => by
    show Room (Sl.wrs (Sl.st1 x b) r).1.1 m
    have hh : Room x.1.1 (m + r.length + 1) := by simpa [Nat.add_assoc] using h
    exact Room.wrs r _ (hh.st1 b)
theorem wrs_next : ∀ (l : List (List Int)) (x : (Dk × Int) × Nat), (wrs x l).2 ≤ x.2 + l.length
  | [], x => Nat.le_refl _
  | b :: r, x => by
    show (Sl.wrs (Sl.st1 x b) r).2 ≤ _
    have h1 := wrs_next r (Sl.st1 x b)
    have h2 := st1_next x b
    simp only [List.length_cons]
    omega
end Go.Proofs.YthpholjelfajiaaDoor.Sl
