/- The document's sum, and what it seals, come to the program's. -/
import Derived.Test.YtogapedacdnfcaaDoorX1
import Derived.Test.YtogapedacdnfcaaDoorX1
import Derived.Test.YtogapedacdnfcaaDoorCrcF
import Derived.Test.YtogapedacdnfcaaDoorEv0
namespace Go.Proofs.YtogapedacdnfcaaDoor.S
open Go.RowKit Go.Proofs.YtogapedacdnfcaaDoor.X Go.Proofs.YtogapedacdnfcaaDoor.G Go.Proofs.YtogapedacdnfcaaDoor.T Go.Proofs.YtogapedacdnfcaaDoor.E Go.Proofs.YtogapedacdnfcaaDoorW.PrintWords Go.Proofs.YtogapedacdnfcaaDoorW.PrintLast Go.Proofs.YtogapedacdnfcaaDoorW.PrintMore
set_option linter.unusedVariables false
set_option linter.unusedSimpArgs false

theorem half (x : Int) (h : 0 ≤ x ∧ x < 4294967296) : b32 (Int.tdiv x 2 % 4294967296) = b32 x >>> 1 ∧ 0 ≤ Int.tdiv x 2 % 4294967296 ∧ Int.tdiv x 2 % 4294967296 < 4294967296 := by
  have e : Int.tdiv x 2 = x / 2 := Int.tdiv_eq_ediv_of_nonneg h.1
  rw [e]
  refine ⟨?_, by omega, by omega⟩
  apply BitVec.eq_of_toNat_eq
  have h1 := b32_toNat x h
  have h2 := b32_toNat (x / 2 % 4294967296) (by omega)
  rw [BitVec.toNat_ushiftRight, Nat.shiftRight_eq_div_pow]
  omega
theorem odd (x : Int) (h : 0 ≤ x ∧ x < 4294967296) : (b32 x).getLsbD 0 = decide (Int.tmod x 2 = 1) := by
  have e : Int.tmod x 2 = x % 2 := Int.tmod_eq_emod_of_nonneg h.1
  have h1 := b32_toNat x h
  rw [e, BitVec.getLsbD_eq_getElem (by decide), ← BitVec.getLsbD_eq_getElem (by decide), show (b32 x).getLsbD 0 = (b32 x).toNat.testBit 0 from rfl, Nat.testBit_zero]
  congr 1
  apply propext
  omega
theorem bits_l1 (l : List Int) (i : Int) (r : Int) : ∀ (d j : Nat), j + d = 8 → ∀ x3 : Int, (0 ≤ x3 ∧ x3 < 4294967296) → ∀ y : Int, (0 ≤ y ∧ y < 4294967296) → b32 y = sn d (b32 x3) → Ev (fun k => colophonref02_Crc.l0 k l y (wrap64 (i + 1))) r → Ev (fun k => colophonref02_Crc.l1 k l x3 i (j : Int)) r := by
  intro d
  induction d with
  | zero =>
    intro j hj x3 hx y hy hb h
    refine ev_succ ?_
    simp only [colophonref02_Crc.l1]
    simp only [if_neg (show ¬ ((j : Int) < 8) by omega)]
    rw [b32_inj hy hx hb] at h
    exact h
  | succ d ih =>
    intro j hj x3 hx y hy hb h
    refine ev_succ ?_
    simp only [colophonref02_Crc.l1]
    simp only [if_pos (show (j : Int) < 8 by omega), w64 (show j < 9223372036854775807 by omega)]
    obtain ⟨e1, e2⟩ := half x3 hx
    by_cases ho : Int.tmod x3 2 = 1
    · simp only [if_pos ho]
      refine ih (j + 1) (by omega) _ (bits32_range _ _ _) y hy ?_ h
      rw [hb, sn, b32_xor, e1]
      unfold st
      rw [odd x3 hx, decide_eq_true ho]
      rfl
    · simp only [if_neg ho]
      refine ih (j + 1) (by omega) _ e2 y hy ?_ h
      rw [hb, sn, e1]
      unfold st
      rw [odd x3 hx, decide_eq_false ho]
      simp
theorem not_eq (x : Int) (h : 0 ≤ x ∧ x < 4294967296) : (4294967295 - x) % 4294967296 = not32 x := by
  apply b32_inj (by omega) (not32_range _)
  rw [b32_not32]
  apply BitVec.eq_of_toNat_eq
  have h1 := b32_toNat x h
  have h2 := b32_toNat ((4294967295 - x) % 4294967296) (by omega)
  have h3 : (0xffffffff#32 ^^^ b32 x) = ~~~ (b32 x) := by rw [← BitVec.allOnes_xor]; rfl
  rw [h3, BitVec.toNat_not]
  omega
theorem bytes_l0 (l : List Int) (hb : l.length ≤ 140737488351232) : ∀ (d i : Nat) (x3 : Int), i + d = l.length → (0 ≤ x3 ∧ x3 < 4294967296) → Ev (fun k => colophonref02_Crc.l0 k l x3 (i : Int)) (not32 ((l.drop i).foldl more1 x3)) := by
  intro d
  induction d with
  | zero =>
    intro i x3 h hx
    refine ev_succ ?_
    simp only [colophonref02_Crc.l0]
    simp only [if_neg (show ¬ ((i : Int) < (l.length : Int)) by omega), not_eq x3 hx]
    rw [List.drop_eq_nil_of_le (by omega)]
    exact Ev.now _
  | succ d ih =>
    intro i x3 h hx
    refine ev_succ ?_
    simp only [colophonref02_Crc.l0]
    simp only [if_pos (show (i : Int) < (l.length : Int) by omega), if_pos (show (0 : Int) ≤ (i : Int) by omega)]
    have h0 := bits_l1 l (i : Int) (not32 ((l.drop i).foldl more1 x3)) 8 0 rfl (Go.bits .xor .u32 x3 (rd l (i : Int) % 4294967296)) (bits32_range _ _ _) (more1 x3 (rd l (i : Int))) (more1_range _ _) (by rw [b32_more1, b32_xor, b32_mod])
      (by rw [w64 (by omega), drop_rd l i (by omega), List.foldl_cons]; exact ih (i + 1) _ (by omega) (more1_range _ _))
    exact h0
theorem refCrc (l : List Int) (h : l.length ≤ 140737488351232) : Ev (fun k => colophonref02_Crc.f k l) (crc l) := by
  have e0 : not32 0 = 4294967295 := by decide
  have := bytes_l0 l h l.length 0 4294967295 (by omega) (by decide)
  unfold crc
  rw [e0]
  simp only [colophonref02_Crc.f]
  exact this
theorem refSeal_l0 (r : List Int) (s : Int) (h0 : 0 ≤ s ∧ s < 4294967296) (out : List Int) (hl : out.length ≤ 140737488351232) : Ev (fun k => colophonref02_Seal.l0 k s out 0) (out ++ bytes4 s) := by
  have step : ∀ (j : Nat) (s' : Int) (o : List Int) (r : List Int), j < 4 → (0 ≤ s' ∧ s' < 4294967296) → o.length < 140737488355328 → Ev (fun k => colophonref02_Seal.l0 k (s' / 256) (o ++ [s' % 256]) ((j + 1 : Nat) : Int)) r → Ev (fun k => colophonref02_Seal.l0 k s' o (j : Int)) r := by
    intro j s' o r hj hs ho h
    refine ev_succ ?_
    simp only [colophonref02_Seal.l0]
    simp only [if_pos (show (j : Int) < 4 by omega), if_pos ho, w64 (show j < 9223372036854775807 by omega), Int.tdiv_eq_ediv_of_nonneg hs.1, Int.tmod_eq_emod_of_nonneg hs.1, show s' / 256 % 4294967296 = s' / 256 by omega, show s' % 256 % 256 = s' % 256 by omega]
    exact h
  refine step 0 s out _ (by omega) h0 (by omega) ?_
  refine step 1 (s / 256) _ _ (by omega) (by omega) (by simp; omega) ?_
  refine step 2 (s / 256 / 256) _ _ (by omega) (by omega) (by simp; omega) ?_
  refine step 3 (s / 256 / 256 / 256) _ _ (by omega) (by omega) (by simp; omega) ?_
  refine ev_succ ?_
  simp only [colophonref02_Seal.l0]
  simp only [if_neg (show ¬ (((3 + 1 : Nat) : Int) < 4) by omega)]
  have e : out ++ [s % 256] ++ [s / 256 % 256] ++ [s / 256 / 256 % 256] ++ [s / 256 / 256 / 256 % 256] = out ++ bytes4 s := by
    simp [bytes4]
    omega
  rw [e]
  exact Ev.now _
theorem refSeal (l : List Int) (h : l.length ≤ 140737488351232) : Ev (fun k => colophonref02_Seal.f k l) (l ++ bytes4 (crc l)) := by
  simp only [colophonref02_Seal.f]
  refine Ev.bind (refCrc l h) ?_
  simp only [Option.bind_some, List.length_nil, Nat.zero_add, if_pos (show l.length < 140737488355328 by omega), List.nil_append]
  exact refSeal_l0 l _ (crc_range l) l h
end Go.Proofs.YtogapedacdnfcaaDoor.S
