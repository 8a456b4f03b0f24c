/- A turned bit, and the register: for the bursts. -/
import Derived.Test.YtogapedacdnfcaaDoorCrcF
import Derived.Test.YtogapedacdnfcaaDoorEv0
namespace Go.Proofs.YtogapedacdnfcaaDoor.T
open Go.Proofs.YtogapedacdnfcaaDoor.G Go.Proofs.YtogapedacdnfcaaDoor.E Go.Proofs.YtogapedacdnfcaaDoorW.PrintWords

abbrev FF : W := 0xffffffff#32
theorem rg_app (a b : List Int) (r : W) : rg (a ++ b) r = rg b (rg a r) := by simp [rg]
theorem rg_cons (c : Int) (l : List Int) (r : W) : rg (c :: l) r = rg l (sn 8 (r ^^^ b32 c)) := rfl
theorem rg_xor : ∀ (l : List Int) (r d : W), rg l (r ^^^ d) = rg l r ^^^ sn (8 * l.length) d
  | [], _, _ => rfl
  | c :: l, r, d => by
    rw [rg_cons, rg_cons, show r ^^^ d ^^^ b32 c = (r ^^^ b32 c) ^^^ d by ac_rfl, sn_xor, rg_xor l, ← sn_add]
    rw [show 8 + 8 * l.length = 8 * (c :: l).length by simp; omega]
theorem sn_one : ∀ i : Fin 32, sn i.val (1#32 <<< i.val) = 1#32 := by decide
theorem sn_bit (n i : Nat) (hi : i < 32) (hn : i ≤ n) : sn n (1#32 <<< i) = sn (n - i) 1#32 := by
  have := sn_add (n - i) i (1#32 <<< i)
  rw [sn_one ⟨i, hi⟩, show i + (n - i) = n by omega] at this
  exact this
theorem b32_nat' (n : Nat) : b32 (n : Int) = BitVec.ofNat 32 n := by unfold b32; rw [BitVec.ofInt_natCast]
theorem xor8_nat (a b : Nat) (ha : a < 256) (hb : b < 256) : Go.bits .xor .u8 (a : Int) (b : Int) = ((a ^^^ b : Nat) : Int) := by
  show IntKind.u8.wrap ((BitVec.ofInt 8 (a : Int) ^^^ BitVec.ofInt 8 (b : Int)).toNat : Int) = _
  rw [IntKind.wrap_u8, BitVec.toNat_xor, BitVec.ofInt_natCast, BitVec.ofInt_natCast, BitVec.toNat_ofNat, BitVec.toNat_ofNat, Nat.mod_eq_of_lt (show a < 2 ^ 8 by omega), Nat.mod_eq_of_lt (show b < 2 ^ 8 by omega)]
  have : a ^^^ b < 2 ^ 8 := Nat.xor_lt_two_pow (by omega) (by omega)
  omega
theorem b32_xor_nat (a b : Nat) : b32 ((a ^^^ b : Nat) : Int) = b32 (a : Int) ^^^ b32 (b : Int) := by
  rw [b32_nat', b32_nat', b32_nat']
  apply BitVec.eq_of_toNat_eq
  rw [BitVec.toNat_xor, BitVec.toNat_ofNat, BitVec.toNat_ofNat, BitVec.toNat_ofNat, Nat.xor_mod_two_pow]
theorem b32_pow : ∀ t : Fin 8, b32 ((2 ^ t.val : Nat) : Int) = 1#32 <<< t.val := by decide
/-- One bit of one byte is turned. -/
theorem rg_turn (x : List Int) (q t : Nat) (hq : q < x.length) (ht : t < 8) (hx : 0 ≤ rd x (q : Int) ∧ rd x (q : Int) < 256) (r : W) :
    rg (x.set q (Go.bits .xor .u8 (rd x (q : Int)) ((2 ^ t : Nat) : Int))) r = rg x r ^^^ sn (8 * (x.length - q) - t) 1#32 := by
  obtain ⟨c, hc⟩ : ∃ c : Nat, rd x (q : Int) = (c : Int) := ⟨(rd x (q : Int)).toNat, by omega⟩
  have hp : 2 ^ t < 256 := Nat.pow_lt_pow_right (by decide) ht
  have hsplit : x = x.take q ++ rd x (q : Int) :: x.drop (q + 1) := by rw [← drop_rd x q hq, List.take_append_drop]
  have hset : ∀ y, x.set q y = x.take q ++ y :: x.drop (q + 1) := fun y => List.set_eq_take_append_cons_drop.trans (by rw [if_pos hq])
  have hr : rg x r = rg (x.drop (q + 1)) (sn 8 (rg (x.take q) r ^^^ b32 (c : Int))) := by
    conv => lhs; rw [hsplit, hc]
    rw [rg_app, rg_cons]
  rw [hset, rg_app, rg_cons, hr, hc, xor8_nat c _ (by omega) hp, b32_xor_nat, ← BitVec.xor_assoc, sn_xor, rg_xor, b32_pow ⟨t, ht⟩]
  congr 1
  rw [sn_bit 8 t (by omega) (by omega), ← sn_add, List.length_drop]
  congr 1
  omega
/-! ### the last four bytes -/
theorem byte_cons (d e : Nat) (hd : d < 256) : b32 ((d + 256 * e : Nat) : Int) = b32 (d : Int) ^^^ (b32 (e : Int) <<< 8) := by
  rw [b32_nat', b32_nat', b32_nat']
  apply BitVec.eq_of_getLsbD_eq
  intro i hi
  rw [BitVec.getLsbD_xor, BitVec.getLsbD_shiftLeft, BitVec.getLsbD_ofNat, BitVec.getLsbD_ofNat, BitVec.getLsbD_ofNat]
  have := Nat.testBit_two_pow_mul_add e (show d < 2 ^ 8 by omega) i
  rw [show d + 256 * e = 2 ^ 8 * e + d by omega, this]
  by_cases h : i < 8
  · simp [h, hi]
  · have hd0 : d.testBit i = false := Nat.testBit_lt_two_pow (Nat.lt_of_lt_of_le hd (show 2 ^ 8 ≤ 2 ^ i from Nat.pow_le_pow_right (by decide) (by omega)))
    simp [h, hi, hd0]
    intro _
    omega
theorem sn_shift8 (e : Nat) (he : e < 16777216) : sn 8 (b32 (e : Int) <<< 8) = b32 (e : Int) := by
  have h1 : ∀ i, i < 8 → (b32 (e : Int) <<< 8).getLsbD i = false := fun i hi => by
    rw [BitVec.getLsbD_shiftLeft]; simp [hi]
  have g : ∀ (b : W) (i : Nat), (b >>> 4).getLsbD i = b.getLsbD (4 + i) := fun b i => by rw [BitVec.getLsbD_ushiftRight]
  rw [show (8 : Nat) = 4 + 4 from rfl, sn_add, sn4_high _ (h1 0 (by omega)) (h1 1 (by omega)) (h1 2 (by omega)) (h1 3 (by omega)), sn4_high _ (by rw [g]; exact h1 4 (by omega)) (by rw [g]; exact h1 5 (by omega)) (by rw [g]; exact h1 6 (by omega)) (by rw [g]; exact h1 7 (by omega))]
  rw [b32_nat']
  apply BitVec.eq_of_getLsbD_eq
  intro i hi
  rw [BitVec.getLsbD_ushiftRight, BitVec.getLsbD_ushiftRight, BitVec.getLsbD_shiftLeft, BitVec.getLsbD_ofNat, BitVec.getLsbD_ofNat]
  by_cases h : i < 24
  · simp [hi, show 4 + (4 + i) < 32 by omega, show ¬ 4 + (4 + i) < 8 by omega, show 4 + (4 + i) - 8 = i by omega]
  · have he0 : e.testBit i = false := Nat.testBit_lt_two_pow (Nat.lt_of_lt_of_le he (show 2 ^ 24 ≤ 2 ^ i from Nat.pow_le_pow_right (by decide) (by omega)))
    simp [hi, he0, show ¬ 4 + (4 + i) < 32 by omega]
theorem sn_byte (r : W) (d e : Nat) (hd : d < 256) (he : e < 16777216) : sn 8 (r ^^^ b32 ((d + 256 * e : Nat) : Int)) = sn 8 (r ^^^ b32 (d : Int)) ^^^ b32 (e : Int) := by
  rw [byte_cons d e hd, ← BitVec.xor_assoc, sn_xor, sn_shift8 e he]
theorem rg4 (r : W) (d0 d1 d2 d3 : Nat) (h0 : d0 < 256) (h1 : d1 < 256) (h2 : d2 < 256) (h3 : d3 < 256) :
    rg [(d0 : Int), (d1 : Int), (d2 : Int), (d3 : Int)] r = sn 32 (r ^^^ b32 ((d0 + 256 * (d1 + 256 * (d2 + 256 * d3)) : Nat) : Int)) := by
  show _ = sn (8 + (8 + (8 + 8))) _
  rw [sn_add, sn_byte r d0 _ h0 (by omega), sn_add, sn_byte _ d1 _ h1 (by omega), sn_add, sn_byte _ d2 _ h2 (by omega)]
  rfl
/-- What is sealed is what leaves this in the register. -/
theorem accepts (y : List Int) (h4 : 4 ≤ y.length) (hy : ∀ x ∈ y, 0 ≤ x ∧ x < 256) : y.drop (y.length - 4) = bytes4 (crc (y.take (y.length - 4))) ↔ rg y FF = sn 32 FF := by
  obtain ⟨d, hd⟩ : ∃ d, d = y.drop (y.length - 4) := ⟨_, rfl⟩
  have hl : d.length = 4 := by rw [hd, List.length_drop]; omega
  have hin : ∀ x ∈ d, 0 ≤ x ∧ x < 256 := fun x hx => hy x (List.mem_of_mem_drop (hd ▸ hx))
  match d, hl with
  | [e0, e1, e2, e3], _ =>
    have b0 := hin e0 (by simp)
    have b1 := hin e1 (by simp)
    have b2 := hin e2 (by simp)
    have b3 := hin e3 (by simp)
    obtain ⟨d0, rfl⟩ := Int.eq_ofNat_of_zero_le b0.1
    obtain ⟨d1, rfl⟩ := Int.eq_ofNat_of_zero_le b1.1
    obtain ⟨d2, rfl⟩ := Int.eq_ofNat_of_zero_le b2.1
    obtain ⟨d3, rfl⟩ := Int.eq_ofNat_of_zero_le b3.1
    have hsplit : y = y.take (y.length - 4) ++ [(d0 : Int), (d1 : Int), (d2 : Int), (d3 : Int)] := by rw [hd, List.take_append_drop]
    have hr : rg y FF = sn 32 (rg (y.take (y.length - 4)) FF ^^^ b32 ((d0 + 256 * (d1 + 256 * (d2 + 256 * d3)) : Nat) : Int)) := by
      conv => lhs; rw [hsplit]
      rw [rg_app, rg4 _ _ _ _ _ (by omega) (by omega) (by omega) (by omega)]
    rw [hr, ← hd]
    have hc := crc_range (y.take (y.length - 4))
    have hb := b32_crc (y.take (y.length - 4))
    generalize crc (y.take (y.length - 4)) = s at hc hb ⊢
    generalize rg (y.take (y.length - 4)) 0xffffffff#32 = ρ at hb ⊢
    have h1 : ([(d0 : Int), (d1 : Int), (d2 : Int), (d3 : Int)] = bytes4 s) ↔ ((d0 + 256 * (d1 + 256 * (d2 + 256 * d3)) : Nat) : Int) = s := by
      unfold bytes4
      simp only [List.cons.injEq, and_true]
      constructor
      · rintro ⟨h0, h1, h2, h3⟩; omega
      · intro h; refine ⟨?_, ?_, ?_, ?_⟩ <;> omega
    rw [h1]
    constructor
    · intro h
      rw [h, hb]
      congr 1
      rw [← BitVec.xor_assoc, BitVec.xor_comm ρ, BitVec.xor_assoc, BitVec.xor_self, BitVec.xor_zero]
    · intro h
      have : ρ ^^^ b32 ((d0 + 256 * (d1 + 256 * (d2 + 256 * d3)) : Nat) : Int) = 0xffffffff#32 := sn_inj 32 _ _ h
      apply b32_inj (by omega) hc
      rw [hb, ← this, BitVec.xor_comm ρ, BitVec.xor_assoc, BitVec.xor_self, BitVec.xor_zero]
end Go.Proofs.YtogapedacdnfcaaDoor.T
