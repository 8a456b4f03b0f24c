/- Bits that are turned within 32 running: what stands after i of them; where. -/
import Derived.Test.YtogapedacdnfcaaDoorBurstT
namespace Go.Proofs.YtogapedacdnfcaaDoor.T
open Go.RowKit Go.Proofs.YtogapedacdnfcaaDoor.G Go.Proofs.YtogapedacdnfcaaDoor.E Go.Proofs.YtogapedacdnfcaaDoorW.PrintWords Go.Proofs.YtogapedacdnfcaaDoorW.PrintLast Go.Proofs.YtogapedacdnfcaaDoorW.PrintMore

theorem wf_u8 {x : Int} (h : (Lit.int .u8 x).wf = true) : 0 ≤ x ∧ x < 256 := by
  simp [Lit.wf, IntKind.min, IntKind.max, IntKind.signed, IntKind.bits] at h
  omega
theorem wrap64u (n : Int) : IntKind.u64.wrap n = n % 18446744073709551616 := by simp [IntKind.wrap, IntKind.bits, IntKind.signed]
theorem w64n (n : Nat) (h : n < 9223372036854775808) : wrap64 (n : Int) = (n : Int) := by unfold wrap64; omega
theorem u64n (n : Nat) (h : n < 9223372036854775808) : IntKind.u64.wrap (n : Int) = (n : Int) := by rw [wrap64u]; omega
theorem shl1 (t : Nat) (h : t < 8) : shl .u8 1 (t : Int) = ((2 ^ t : Nat) : Int) := by
  unfold shl
  rw [IntKind.wrap_u8, Int.toNat_natCast, Nat.min_eq_left (by have : IntKind.u8.bits = 8 := rfl; omega), Int.one_mul]
  have h2 : (2 : Nat) ^ t < 256 := Nat.pow_lt_pow_right (by decide) h
  have : ((2 : Int) ^ t) = ((2 ^ t : Nat) : Int) := by simp
  rw [this]
  generalize 2 ^ t = z at h2 ⊢
  omega
/-- What stands after i of the 32 bits. -/
structure Inv (s : List Int) (k i : Nat) (x7 : List Int) (x9 : Bool) (mask : W) : Prop where
  len : x7.length = s.length
  byt : ∀ x ∈ x7, 0 ≤ x ∧ x < 256
  reg : rg x7 FF = rg s FF ^^^ sn (8 * s.length - k) mask
  msk : ∀ j, i ≤ j → mask.getLsbD j = false
  yes : x9 = true → mask ≠ 0#32
  no : x9 = false → x7 = s ∧ mask = 0#32
theorem Inv.keep {s : List Int} {k i : Nat} {x7 : List Int} {x9 : Bool} {mask : W} (h : Inv s k i x7 x9 mask) : Inv s k (i + 1) x7 x9 mask :=
  ⟨h.len, h.byt, h.reg, fun j hj => h.msk j (by omega), h.yes, h.no⟩
theorem Inv.turn {s : List Int} {k i : Nat} {x7 : List Int} {x9 : Bool} {mask : W} (h : Inv s k i x7 x9 mask) (hi : i < 32) (hk : k + i < 8 * s.length) :
    Inv s k (i + 1) (x7.set ((k + i) / 8) (Go.bits .xor .u8 (rd x7 (((k + i) / 8 : Nat) : Int)) ((2 ^ ((k + i) % 8) : Nat) : Int))) true (mask ^^^ (1#32 <<< i)) := by
  have hq : (k + i) / 8 < x7.length := by have := h.len; omega
  have hb : ∀ j, (1#32 <<< i).getLsbD j = decide (j = i) := fun j => by
    rw [BitVec.getLsbD_shiftLeft, BitVec.getLsbD_one]
    by_cases h1 : j = i
    · subst h1; simp [hi]
    · by_cases h2 : j < i
      · simp [h2, h1]
      · have : ¬ (j - i = 0) := by omega
        simp [this, h1]
  refine ⟨by rw [List.length_set, h.len], fun x hx => ?_, ?_, fun j hj => ?_, fun _ => ?_, fun hf => by cases hf⟩
  · rcases List.mem_or_eq_of_mem_set hx with hx | rfl
    · exact h.byt x hx
    · have : ∀ n : Int, 0 ≤ IntKind.u8.wrap n ∧ IntKind.u8.wrap n < 256 := fun n => by rw [IntKind.wrap_u8]; omega
      unfold Go.bits
      exact this _
  · rw [rg_turn x7 _ _ hq (Nat.mod_lt _ (by decide)) (h.byt _ (mem_rd x7 _ hq)) FF, h.reg, sn_xor, BitVec.xor_assoc]
    congr 2
    rw [sn_bit (8 * s.length - k) i hi (by omega), h.len]
    congr 1
    omega
  · rw [BitVec.getLsbD_xor, h.msk j (by omega), hb j]
    simp
    omega
  · intro hz
    have := congrArg (fun z : W => z.getLsbD i) hz
    simp only [BitVec.getLsbD_xor, h.msk i (Nat.le_refl _), hb i, BitVec.getLsbD_zero] at this
    simp at this
theorem sealed_bytes (l : List Int) (hw : ∀ x ∈ l, (Lit.int .u8 x).wf = true) : ∀ x ∈ l ++ bytes4 (crc l), 0 ≤ x ∧ x < 256 := by
  intro x hx
  rw [List.mem_append] at hx
  rcases hx with hx | hx
  · exact wf_u8 (hw x hx)
  · have hc := crc_range l
    generalize crc l = c at hc hx
    unfold bytes4 at hx
    simp only [List.mem_cons, List.not_mem_nil, or_false] at hx
    omega
theorem sealed_reg (l s : List Int) (hs : s = l ++ bytes4 (crc l)) (hsb : ∀ x ∈ s, 0 ≤ x ∧ x < 256) : rg s FF = sn 32 FF := by
  have hsl : s.length = l.length + 4 := by rw [hs, List.length_append, bytes4_length]
  refine (accepts s (by omega) hsb).1 ?_
  have h4 : s.length - 4 = l.length := by omega
  rw [h4, hs, List.take_left, List.drop_left]
theorem place (a : Int) (n : Nat) (h0 : 0 < n) (h1 : n < 9223372036854775808) : ∃ k : Nat, k < n ∧ wrap64 (Int.tmod (IntKind.u64.wrap a) (n : Int)) = (k : Int) := by
  have hu : 0 ≤ IntKind.u64.wrap a := by rw [wrap64u]; omega
  generalize IntKind.u64.wrap a = b at hu
  have h2 := Int.tmod_nonneg (n : Int) hu
  have h3 := Int.tmod_lt_of_pos b (show (0 : Int) < (n : Int) by omega)
  generalize Int.tmod b (n : Int) = c at h2 h3
  refine ⟨c.toNat, by omega, ?_⟩
  unfold wrap64
  omega
/-- Turned at all: it opens no more. -/
theorem Inv.refused {s : List Int} {k i : Nat} {x7 : List Int} {mask : W} (h : Inv s k i x7 true mask) (h4 : 4 ≤ s.length) (hsr : rg s FF = sn 32 FF) : ¬ (x7.drop (x7.length - 4) = bytes4 (crc (x7.take (x7.length - 4)))) := by
  intro hd
  have := (accepts x7 (by have := h.len; omega) h.byt).1 hd
  rw [h.reg, hsr] at this
  have h0 : sn (8 * s.length - k) mask = 0#32 := by
    have h2 := congrArg (sn 32 FF ^^^ ·) this
    simpa [← BitVec.xor_assoc] using h2
  exact h.yes rfl (sn_inj_zero _ _ h0)
end Go.Proofs.YtogapedacdnfcaaDoor.T
