/- record.numbered by hand; rows that a call lays. -/
import Derived.Test.YtoehjojipmeagaaDoorHOpen
namespace Go.Proofs.YtoehjojipmeagaaDoor.G
open Go.RowKit Go.Proofs.YtoehjojipmeagaaDoorW.PrintWords Go.Proofs.YtoehjojipmeagaaDoorW.PrintLast Go.Proofs.YtoehjojipmeagaaDoorW.PrintMore
set_option linter.unusedVariables false
set_option linter.unusedSimpArgs false

/-- A row that is laid as a literal. -/
theorem lit_own (k : IntKind) (e : TypeId) (W : World) (base : Nat) (hb : base ≤ W.heap.size) (xs : List Int) (hl : xs.length ≤ maxLen) (cs : Array Value) (hc : cs = (xs.map (Value.int k)).toArray) (n : Nat) (hn : n = xs.length) :
    Kd.R (Kd.int k) e (W.alloc (.cells cs e)) base (fun _ => True) (.slice (some ⟨W.heap.size, 0, none⟩) n n) xs := by
  subst hc hn
  refine Kd.R_of_own (enc := Value.int k) (h1 := fun _ => rfl) ⟨by simp [encs], .inr ⟨W.heap.size, xs.length, _, rfl, hb, heap_alloc_new W _, Nat.le_refl _, hl, by simp, ?_⟩⟩ (fun _ _ => trivial)
  simp only [List.toList_toArray, Nat.mul_one, encs]
  exact List.take_of_length_le (by simp)
def numB (x : Int) : Bool := decide (1 ≤ x ∧ x ≤ 2147483647)
theorem drop_rd {l : List Int} {x : Int} (h0 : 0 ≤ x) (h1 : x < (l.length : Int)) : l.drop x.toNat = rd l x :: l.drop (x + 1).toNat := by
  have hx : x.toNat < l.length := by omega
  rw [List.drop_eq_getElem_cons hx, show (x + 1).toNat = x.toNat + 1 by omega]
  simp [rd, hx]
set_option maxHeartbeats 8000000 in
set_option maxRecDepth 100000 in
theorem numbered_calls (A : Option Addr) (c : Nat) (l : List Int) (w : World) (hC : Kd.C (Kd.int .i64) w A l.length l) (hl : l.length ≤ 4611686018427387904) :
    Calls Tryd.prog 22 #[.slice A l.length c] w fun e w' => e = .returned (.bool (l.all numB)) ∧ w' = w := by
  obtain ⟨bb, hbb⟩ : ∃ b, b = l.all numB := ⟨_, rfl⟩
  rw [← hbb]
  have HC := Aside0.mk hC
  have HL := Aside0.mk hl
  have HBB : Aside0 (l.all numB = bb) := ⟨hbb.symm⟩
  clear hC hl hbb
  go_enter Tryd.func22, Tryd.ntmps22
  go_wp2
  go_loopg [7] (l.length + 1) (fun kq v7 w' => ∃ (x : Int), v7 = .int .i64 x ∧ Aside0 (0 ≤ x ∧ x ≤ l.length) ∧ Aside0 (kq + x.toNat = l.length + 1) ∧ Aside0 ((l.drop x.toNat).all numB = bb) ∧ Aside0 (w' = w))
  case atStart => exact ⟨0, rfl, ⟨by omega⟩, ⟨rfl⟩, HBB, ⟨rfl⟩⟩
  case round =>
    clear HBB
    obtain ⟨x, rfl, HI, HK, HA, ⟨rfl⟩⟩ := hrel
    by_cases c2 : x < (l.length : Int)
    · have c2b : decide (x < (l.length : Int)) = true := decide_eq_true c2
      obtain ⟨ad, e, hx⟩ := Kd.at_int HC.out x HI.out.1 c2
      cases e
      have p1 : (0 ≤ x) = True := eq_true HI.out.1
      have q1 : (x < (l.length : Int)) = True := eq_true c2
      have HC2 := Aside0.mk c2
      have HA2 := HA.out
      rw [drop_rd HI.out.1 c2, List.all_cons] at HA2
      clear c2 HA
      generalize hz : rd l x = z at *
      clear hz
      by_cases c3 : z < 1
      · have b3 : decide (z < 1) = true := decide_eq_true c3
        rw [show numB z = false by simp [numB]; omega, Bool.false_and] at HA2
        subst HA2
        clear c3
        go_wp2
        go_ret
        exact ⟨rfl, rfl⟩
      have b3 : decide (z < 1) = false := decide_eq_false c3
      by_cases c4 : 2147483647 < z
      · have b4 : decide (2147483647 < z) = true := decide_eq_true c4
        rw [show numB z = false by simp [numB]; omega, Bool.false_and] at HA2
        subst HA2
        clear c3 c4
        go_wp2
        go_ret
        exact ⟨rfl, rfl⟩
      have b4 : decide (2147483647 < z) = false := decide_eq_false c4
      rw [show numB z = true by simp [numB]; omega, Bool.true_and] at HA2
      have HA := Aside0.mk HA2
      clear c3 c4 HA2
      go_wp2
      go_roundg (gk - 1)
      case measure => have := HK.out; have := HI.out; have := HC2.out; omega
      case rel => exact ⟨x + 1, by rw [show wrap64 (x + 1) = x + 1 from by have := HI.out; have := HL.out; unfold wrap64; omega], ⟨by have := HI.out; have := HC2.out; omega⟩, ⟨by have := HK.out; have := HI.out; have := HC2.out; omega⟩, HA, ⟨rfl⟩⟩
    · have h4 : x = l.length := by have := HI.out; omega
      have c2b : decide (x < (l.length : Int)) = false := decide_eq_false c2
      have HA2 := HA.out
      rw [List.drop_of_length_le (by have := HI.out; omega), List.all_nil] at HA2
      subst HA2
      go_wp2
      go_ret
      exact ⟨rfl, rfl⟩
end Go.Proofs.YtoehjojipmeagaaDoor.G
