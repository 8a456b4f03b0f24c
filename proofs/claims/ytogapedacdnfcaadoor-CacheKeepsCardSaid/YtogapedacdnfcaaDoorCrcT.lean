/- The sum's register over BitVec 32: bit by bit, by halves of bytes; linear; one step loses nothing. -/
import Derived.Test.YtogapedacdnfcaaDoorSumsM
namespace Go.Proofs.YtogapedacdnfcaaDoor.T
open Go.Proofs.YtogapedacdnfcaaDoor.G Go.Proofs.YtogapedacdnfcaaDoorW.PrintWords

abbrev W := BitVec 32
/-- one bit -/
def st (s : W) : W := (s >>> 1) ^^^ (if s.getLsbD 0 then 0xedb88320#32 else 0#32)
def sn : Nat → W → W
  | 0, s => s
  | n + 1, s => sn n (st s)
theorem st_xor (a b : W) : st (a ^^^ b) = st a ^^^ st b := by
  unfold st
  rw [BitVec.getLsbD_xor, BitVec.ushiftRight_xor_distrib]
  generalize a >>> 1 = p
  generalize b >>> 1 = q
  cases a.getLsbD 0 <;> cases b.getLsbD 0
  · simp
  · simp [BitVec.xor_assoc]
  · simp only [Bool.xor_false, if_true, Bool.false_eq_true, if_false, BitVec.xor_zero]
    rw [BitVec.xor_assoc, BitVec.xor_assoc, BitVec.xor_comm q]
  · simp only [Bool.xor_self, Bool.false_eq_true, if_false, if_true, BitVec.xor_zero]
    rw [BitVec.xor_assoc, show (0xedb88320#32 : W) ^^^ (q ^^^ 0xedb88320#32) = q from by rw [BitVec.xor_comm q, ← BitVec.xor_assoc, BitVec.xor_self, BitVec.zero_xor]]
theorem sn_xor : ∀ (n : Nat) (a b : W), sn n (a ^^^ b) = sn n a ^^^ sn n b
  | 0, _, _ => rfl
  | n + 1, a, b => by rw [sn, st_xor, sn_xor n]; rfl
theorem sn_add (m : Nat) : ∀ (n : Nat) (a : W), sn (n + m) a = sn m (sn n a)
  | 0, a => by rw [Nat.zero_add]; rfl
  | n + 1, a => by rw [show n + 1 + m = (n + m) + 1 by omega, sn, sn_add m n]; rfl
theorem st_zero : st 0#32 = 0#32 := by decide
theorem sn_zero : ∀ n : Nat, sn n 0#32 = 0#32
  | 0 => rfl
  | n + 1 => by rw [sn, st_zero, sn_zero n]
theorem st_msb (a : W) : (st a).getLsbD 31 = a.getLsbD 0 := by
  unfold st
  rw [BitVec.getLsbD_xor, BitVec.getLsbD_ushiftRight]
  have : a.getLsbD (1 + 31) = false := BitVec.getLsbD_of_ge _ _ (by omega)
  rw [this]
  cases a.getLsbD 0 <;> decide
theorem st_inj_zero (a : W) (h : st a = 0#32) : a = 0#32 := by
  have h0 : a.getLsbD 0 = false := by rw [← st_msb, h]; decide
  have h1 : a >>> 1 = 0#32 := by
    have := h
    unfold st at this
    rw [h0] at this
    simpa using this
  apply BitVec.eq_of_getLsbD_eq
  intro i hi
  rw [BitVec.getLsbD_zero]
  rcases i with _ | i
  · exact h0
  · have := congrArg (fun z : W => z.getLsbD i) h1
    simp only [BitVec.getLsbD_ushiftRight, BitVec.getLsbD_zero] at this
    rw [Nat.add_comm]
    exact this
theorem sn_inj_zero : ∀ (n : Nat) (a : W), sn n a = 0#32 → a = 0#32
  | 0, _, h => h
  | n + 1, a, h => st_inj_zero a (sn_inj_zero n (st a) h)
theorem sn_inj (n : Nat) (a b : W) (h : sn n a = sn n b) : a = b := by
  have : sn n (a ^^^ b) = 0#32 := by rw [sn_xor, h, BitVec.xor_self]
  have := sn_inj_zero n _ this
  have e : a = (a ^^^ b) ^^^ b := by rw [BitVec.xor_assoc, BitVec.xor_self, BitVec.xor_zero]
  rw [e, this, BitVec.zero_xor]
/-- four bits at once -/
theorem sn4_high (a : W) (h0 : a.getLsbD 0 = false) (h1 : a.getLsbD 1 = false) (h2 : a.getLsbD 2 = false) (h3 : a.getLsbD 3 = false) : sn 4 a = a >>> 4 := by
  have e : ∀ b : W, b.getLsbD 0 = false → st b = b >>> 1 := fun b hb => by unfold st; rw [hb]; simp
  have g : ∀ (b : W) (i : Nat), (b >>> 1).getLsbD i = b.getLsbD (1 + i) := fun b i => by rw [BitVec.getLsbD_ushiftRight]
  simp only [sn]
  rw [e a h0, e (a >>> 1) (by rw [g]; exact h1), e (a >>> 1 >>> 1) (by rw [g, g]; exact h2), e (a >>> 1 >>> 1 >>> 1) (by rw [g, g, g]; exact h3)]
  rw [← BitVec.shiftRight_add, ← BitVec.shiftRight_add, ← BitVec.shiftRight_add]
theorem sn4 (a : W) : sn 4 a = (a >>> 4) ^^^ sn 4 (a &&& 15#32) := by
  have e : a = (a &&& 0xfffffff0#32) ^^^ (a &&& 15#32) := by
    apply BitVec.eq_of_getLsbD_eq
    intro i hi
    rw [BitVec.getLsbD_xor, BitVec.getLsbD_and, BitVec.getLsbD_and]
    have hh : ∀ j : Fin 32, (0xfffffff0#32 : W).getLsbD j.val = !(15#32 : W).getLsbD j.val := by decide
    rw [hh ⟨i, hi⟩]
    cases a.getLsbD i <;> cases (15#32 : W).getLsbD i <;> rfl
  have h : sn 4 (a &&& 0xfffffff0#32) = a >>> 4 := by
    rw [sn4_high]
    · rw [BitVec.ushiftRight_and_distrib]
      apply BitVec.eq_of_getLsbD_eq
      intro i hi
      rw [BitVec.getLsbD_and, BitVec.getLsbD_ushiftRight]
      by_cases h : i < 28
      · have : (0xfffffff0#32 >>> 4 : W).getLsbD i = true := by
          have hh : ∀ j : Fin 28, (0xfffffff0#32 >>> 4 : W).getLsbD j.val = true := by decide
          exact hh ⟨i, h⟩
        rw [this, Bool.and_true]
      · rw [BitVec.getLsbD_of_ge a _ (by omega)]; simp
    all_goals (rw [BitVec.getLsbD_and]; simp)
  have h2 : sn 4 a = sn 4 (a &&& 0xfffffff0#32) ^^^ sn 4 (a &&& 15#32) := by rw [← sn_xor, ← e]
  rw [h2, h]

/-! ### the whole numbers -/
def b32 (x : Int) : W := BitVec.ofInt 32 x
theorem b32_toNat (x : Int) (h : 0 ≤ x ∧ x < 4294967296) : ((b32 x).toNat : Int) = x := by
  unfold b32
  rw [BitVec.toNat_ofInt]
  omega
theorem b32_inj {x y : Int} (hx : 0 ≤ x ∧ x < 4294967296) (hy : 0 ≤ y ∧ y < 4294967296) (h : b32 x = b32 y) : x = y := by
  rw [← b32_toNat x hx, ← b32_toNat y hy, h]
theorem b32_nat (v : W) : b32 (v.toNat : Int) = v := by
  unfold b32; simp
theorem bits_xor (x y : Int) : Go.bits .xor .u32 x y = ((b32 x ^^^ b32 y).toNat : Int) := by
  show IntKind.u32.wrap ((BitVec.ofInt 32 x ^^^ BitVec.ofInt 32 y).toNat : Int) = _
  rw [show ∀ n : Int, IntKind.u32.wrap n = n % 4294967296 from fun n => by simp [IntKind.wrap, IntKind.bits, IntKind.signed]]
  have := (BitVec.ofInt 32 x ^^^ BitVec.ofInt 32 y).isLt
  show _ = ((BitVec.ofInt 32 x ^^^ BitVec.ofInt 32 y).toNat : Int)
  omega
theorem b32_xor (x y : Int) : b32 (Go.bits .xor .u32 x y) = b32 x ^^^ b32 y := by rw [bits_xor, b32_nat]
theorem b32_div (x : Int) (h : 0 ≤ x ∧ x < 4294967296) : b32 (x / 16) = b32 x >>> 4 := by
  apply BitVec.eq_of_toNat_eq
  have h1 := b32_toNat x h
  have h2 := b32_toNat (x / 16) (by omega)
  rw [BitVec.toNat_ushiftRight, Nat.shiftRight_eq_div_pow]
  omega
theorem b32_low (x : Int) (h : 0 ≤ x ∧ x < 4294967296) : b32 x &&& 15#32 = b32 (x % 16) := by
  apply BitVec.eq_of_toNat_eq
  have h1 := b32_toNat x h
  have h2 := b32_toNat (x % 16) (by omega)
  rw [BitVec.toNat_and]
  have : (b32 x).toNat &&& (15#32).toNat = (b32 x).toNat % 16 := Nat.and_two_pow_sub_one_eq_mod (b32 x).toNat 4
  omega
theorem tab_eq : ∀ i : Fin 16, b32 (rd halves (i.val : Int)) = sn 4 (b32 (i.val : Int)) := by decide
theorem b32_nib (s : Int) (h : 0 ≤ s ∧ s < 4294967296) : b32 (nib s) = sn 4 (b32 s) := by
  unfold nib
  rw [b32_xor, b32_div s h, and15 s h.1 h.2, sn4, b32_low s h]
  have := tab_eq ⟨(s % 16).toNat, by omega⟩
  simp only [] at this
  rw [show (((s % 16).toNat : Nat) : Int) = s % 16 by omega] at this
  rw [this]
theorem nib_range (s : Int) : 0 ≤ nib s ∧ nib s < 4294967296 := bits32_range _ _ _
theorem more1_range (s c : Int) : 0 ≤ more1 s c ∧ more1 s c < 4294967296 := nib_range _
theorem b32_mod (c : Int) : b32 (c % 4294967296) = b32 c := by
  unfold b32
  apply BitVec.eq_of_toNat_eq
  rw [BitVec.toNat_ofInt, BitVec.toNat_ofInt]
  omega
/-- a byte: eight bits -/
theorem b32_more1 (s c : Int) : b32 (more1 s c) = sn 8 (b32 s ^^^ b32 c) := by
  unfold more1
  rw [b32_nib _ (nib_range _), b32_nib _ (bits32_range _ _ _), b32_xor, b32_mod, ← sn_add]
theorem b32_not32 (s : Int) : b32 (not32 s) = 0xffffffff#32 ^^^ b32 s := by
  unfold not32
  rw [b32_xor]
  rfl
theorem not32_range (s : Int) : 0 ≤ not32 s ∧ not32 s < 4294967296 := bits32_range _ _ _
theorem not32_not32 (s : Int) (h : 0 ≤ s ∧ s < 4294967296) : not32 (not32 s) = s := by
  apply b32_inj (not32_range _) h
  rw [b32_not32, b32_not32, ← BitVec.xor_assoc, BitVec.xor_self, BitVec.zero_xor]
/-- the register over bytes -/
def rg (l : List Int) (r : W) : W := l.foldl (fun r c => sn 8 (r ^^^ b32 c)) r
theorem fold_range (l : List Int) : ∀ s : Int, (0 ≤ s ∧ s < 4294967296) → 0 ≤ l.foldl more1 s ∧ l.foldl more1 s < 4294967296 := by
  induction l with
  | nil => exact fun s h => h
  | cons c l ih => exact fun s _ => ih _ (more1_range s c)
theorem b32_fold (l : List Int) : ∀ s : Int, b32 (l.foldl more1 s) = rg l (b32 s) := by
  induction l with
  | nil => exact fun s => rfl
  | cons c l ih => intro s; rw [List.foldl_cons, ih, b32_more1]; rfl
def crc (l : List Int) : Int := not32 (l.foldl more1 (not32 0))
theorem crc_range (l : List Int) : 0 ≤ crc l ∧ crc l < 4294967296 := not32_range _
theorem b32_crc (l : List Int) : b32 (crc l) = 0xffffffff#32 ^^^ rg l 0xffffffff#32 := by
  unfold crc
  rw [b32_not32, b32_fold, b32_not32]
  rfl
end Go.Proofs.YtogapedacdnfcaaDoor.T
