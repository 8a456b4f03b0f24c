/- The pure statement of SumsBursts: what is turned within 32 bits running leaves another register. -/
import Derived.Test.YthhpndnambffjaaDoorX3
import Derived.Test.YthhpndnambffjaaDoorBurstT
namespace Go.Proofs.YthhpndnambffjaaDoor.Pure
open Go.RowKit Go.Proofs.YthhpndnambffjaaDoor.X Go.Proofs.YthhpndnambffjaaDoor.G Go.Proofs.YthhpndnambffjaaDoor.T Go.Proofs.YthhpndnambffjaaDoor.E Go.Proofs.YthhpndnambffjaaDoorW.PrintWords Go.Proofs.YthhpndnambffjaaDoorW.PrintLast Go.Proofs.YthhpndnambffjaaDoorW.PrintMore

theorem wf_u8 {x : Int} (h : (Lit.int .u8 x).wf = true) : 0 ≤ x ∧ x < 256 := by
  simp [Lit.wf, IntKind.min, IntKind.max, IntKind.signed, IntKind.bits] at h
  omega
theorem wrap64u (n : Int) : IntKind.u64.wrap n = n % 18446744073709551616 := by simp [IntKind.wrap, IntKind.bits, IntKind.signed]
theorem w64n (n : Nat) (h : n < 9223372036854775808) : wrap64 (n : Int) = (n : Int) := by unfold wrap64; omega
theorem u64n (n : Nat) (h : n < 9223372036854775808) : IntKind.u64.wrap (n : Int) = (n : Int) := by rw [wrap64u]; omega
theorem shl1 (t : Nat) (h : t < 8) : shl .u8 1 (t : Int) = ((2 ^ t : Nat) : Int) := by
  unfold shl
  rw [IntKind.wrap_u8, Int.toNat_natCast, Nat.min_eq_left (by have : IntKind.u8.bits = 8 := rfl; omega), Int.one_mul]
  have h2 : (2 : Nat) ^ t < 256 := Nat.pow_lt_pow_right (by decide) h
  have : ((2 : Int) ^ t) = ((2 ^ t : Nat) : Int) := by simp
  rw [this]
  generalize 2 ^ t = z at h2 ⊢
  omega
/-- What stands after i of the 32 bits. -/
structure Inv (s : List Int) (k i : Nat) (x7 : List Int) (x9 : Bool) (mask : W) : Prop where
  len : x7.length = s.length
  byt : ∀ x ∈ x7, 0 ≤ x ∧ x < 256
  reg : rg x7 FF = rg s FF ^^^ sn (8 * s.length - k) mask
  msk : ∀ j, i ≤ j → mask.getLsbD j = false
  yes : x9 = true → mask ≠ 0#32
  no : x9 = false → x7 = s ∧ mask = 0#32
theorem Inv.keep {s : List Int} {k i : Nat} {x7 : List Int} {x9 : Bool} {mask : W} (h : Inv s k i x7 x9 mask) : Inv s k (i + 1) x7 x9 mask :=
  ⟨h.len, h.byt, h.reg, fun j hj => h.msk j (by omega), h.yes, h.no⟩
theorem Inv.turn {s : List Int} {k i : Nat} {x7 : List Int} {x9 : Bool} {mask : W} (h : Inv s k i x7 x9 mask) (hi : i < 32) (hk : k + i < 8 * s.length) :
    Inv s k (i + 1) (x7.set ((k + i) / 8) (Go.bits .xor .u8 (rd x7 (((k + i) / 8 : Nat) : Int)) ((2 ^ ((k + i) % 8) : Nat) : Int))) true (mask ^^^ (1#32 <<< i)) := by
  have hq : (k + i) / 8 < x7.length := by have := h.len; omega
  have hb : ∀ j, (1#32 <<< i).getLsbD j = decide (j = i) := fun j => by
    rw [BitVec.getLsbD_shiftLeft, BitVec.getLsbD_one]
    by_cases h1 : j = i
    · subst h1; simp [hi]
    · by_cases h2 : j < i
      · simp [h2, h1]
      · have : ¬ (j - i = 0) := by omega
        simp [this, h1]
  refine ⟨by rw [List.length_set, h.len], fun x hx => ?_, ?_, fun j hj => ?_, fun _ => ?_, fun hf => by cases hf⟩
  · rcases List.mem_or_eq_of_mem_set hx with hx | rfl
    · exact h.byt x hx
    · have : ∀ n : Int, 0 ≤ IntKind.u8.wrap n ∧ IntKind.u8.wrap n < 256 := fun n => by rw [IntKind.wrap_u8]; omega
      unfold Go.bits
      exact this _
  · rw [rg_turn x7 _ _ hq (Nat.mod_lt _ (by decide)) (h.byt _ (mem_rd x7 _ hq)) FF, h.reg, sn_xor, BitVec.xor_assoc]
    congr 2
    rw [sn_bit (8 * s.length - k) i hi (by omega), h.len]
    congr 1
    omega
  · rw [BitVec.getLsbD_xor, h.msk j (by omega), hb j]
    simp
    omega
  · intro hz
    have := congrArg (fun z : W => z.getLsbD i) hz
    simp only [BitVec.getLsbD_xor, h.msk i (Nat.le_refl _), hb i, BitVec.getLsbD_zero] at this
    simp at this
set_option maxHeartbeats 4000000 in
theorem last (l s : List Int) (bits_ : Int) (k : Nat) (hlen : l.length ≤ 140737488351232) (hs : s = l ++ bytes4 (crc l)) (hsl : s.length = l.length + 4) (hsr : rg s FF = sn 32 FF) (i : Nat) (x7 : List Int) (x9 : Bool) (mask : W) (h : Inv s k i x7 x9 mask) : Ev (fun q => colophonlaw02_SumsBursts.j1 q l bits_ x7 (k : Int) x9 (i : Int) false) true := by
  refine ev_succ ?_
  simp only [colophonlaw02_SumsBursts.j1]
  simp only [Bool.false_eq_true, if_false]
  cases x9 with
  | false =>
    obtain ⟨rfl, _⟩ := h.no rfl
    rw [hs, Open_Seal l (by omega)]
    simp only [Option.bind_some, Bool.false_eq_true, if_false, if_true, beq_self_eq_true]
    exact Ev.now _
  | true =>
    have hne : ¬ (x7.drop (x7.length - 4) = bytes4 (crc (x7.take (x7.length - 4)))) := by
      intro hd
      have := (accepts x7 (by have := h.len; omega) h.byt).1 hd
      rw [h.reg, hsr] at this
      have h0 : sn (8 * s.length - k) mask = 0#32 := by
        have h2 := congrArg (sn 32 FF ^^^ ·) this
        simpa [← BitVec.xor_assoc] using h2
      exact h.yes rfl (sn_inj_zero _ _ h0)
    rw [Open_f x7 (by have := h.len; omega) (by have := h.len; omega), if_neg hne]
    simp only [Option.bind_some, if_true, List.length_nil]
    exact Ev.now _
set_option maxHeartbeats 4000000 in
theorem loop (l s : List Int) (bits_ : Int) (k : Nat) (hlen : l.length ≤ 140737488351232) (hs : s = l ++ bytes4 (crc l)) (hsl : s.length = l.length + 4) (hsr : rg s FF = sn 32 FF) (hk0 : k < 8 * s.length) : ∀ (d i : Nat), i + d = 32 → ∀ (x7 : List Int) (x9 : Bool) (mask : W), Inv s k i x7 x9 mask → Ev (fun q => colophonlaw02_SumsBursts.l0 q l bits_ x7 (k : Int) x9 (i : Int)) true := by
  have e8 : wrap64 (8 * (s.length : Int)) = ((8 * s.length : Nat) : Int) := by unfold wrap64; omega
  intro d
  induction d with
  | zero =>
    intro i hi x7 x9 mask h
    refine ev_succ ?_
    simp only [colophonlaw02_SumsBursts.l0]
    simp only [if_neg (show ¬ ((i : Int) < 32) by omega)]
    exact last l s bits_ k hlen hs hsl hsr i x7 x9 mask h
  | succ d ih =>
    intro i hi x7 x9 mask h
    refine ev_succ ?_
    simp only [colophonlaw02_SumsBursts.l0]
    have ek : wrap64 ((k : Int) + (i : Int)) = ((k + i : Nat) : Int) := by unfold wrap64; omega
    have el : wrap64 (8 * (x7.length : Int)) = ((8 * s.length : Nat) : Int) := by rw [h.len]; exact e8
    simp only [if_pos (show (i : Int) < 32 by omega), ek, el]
    by_cases hin : k + i < 8 * s.length
    · rw [show decide (((k + i : Nat) : Int) < ((8 * s.length : Nat) : Int)) = true from decide_eq_true (Int.ofNat_lt.2 hin)]
      refine ev_succ ?_
      simp only [colophonlaw02_SumsBursts.j1]
      have eu : IntKind.u64.wrap (i : Int) = (i : Int) := u64n i (by omega)
      simp only [if_true, eu, if_pos (show (0 : Int) ≤ (i : Int) by omega), ek]
      have ed : wrap64 (Int.tdiv ((k + i : Nat) : Int) 8) = (((k + i) / 8 : Nat) : Int) := by
        rw [show Int.tdiv ((k + i : Nat) : Int) 8 = (((k + i) / 8 : Nat) : Int) from rfl]; exact w64n _ (by omega)
      have em : IntKind.u64.wrap (Int.tmod ((k + i : Nat) : Int) 8) = (((k + i) % 8 : Nat) : Int) := by
        rw [show Int.tmod ((k + i : Nat) : Int) 8 = (((k + i) % 8 : Nat) : Int) from rfl]; exact u64n _ (by omega)
      simp only [ed, em]
      by_cases hb : Go.bits .and .u32 (shr .u32 bits_ (i : Int)) 1 = 1
      · simp only [if_pos hb, if_pos (show (0 : Int) ≤ (((k + i) / 8 : Nat) : Int) by omega), if_pos (show (((k + i) / 8 : Nat) : Int) < (x7.length : Int) by have := h.len; omega), if_pos (show (0 : Int) ≤ (((k + i) % 8 : Nat) : Int) by omega), Int.toNat_natCast, shl1 _ (Nat.mod_lt (k + i) (show 0 < 8 by decide)), w64 (show i < 9223372036854775807 by omega)]
        exact ih (i + 1) (by omega) _ true _ (h.turn (by omega) hin)
      · simp only [if_neg hb, w64 (show i < 9223372036854775807 by omega)]
        exact ih (i + 1) (by omega) _ _ _ h.keep
    · rw [show decide (((k + i : Nat) : Int) < ((8 * s.length : Nat) : Int)) = false from decide_eq_false (fun hh => hin (Int.ofNat_lt.1 hh))]
      exact last l s bits_ k hlen hs hsl hsr i x7 x9 mask h
theorem sealed_bytes (l : List Int) (hw : ∀ x ∈ l, (Lit.int .u8 x).wf = true) : ∀ x ∈ l ++ bytes4 (crc l), 0 ≤ x ∧ x < 256 := by
  intro x hx
  rw [List.mem_append] at hx
  rcases hx with hx | hx
  · exact wf_u8 (hw x hx)
  · have hc := crc_range l
    generalize crc l = c at hc hx
    unfold bytes4 at hx
    simp only [List.mem_cons, List.not_mem_nil, or_false] at hx
    omega
theorem sealed_reg (l s : List Int) (hs : s = l ++ bytes4 (crc l)) (hsb : ∀ x ∈ s, 0 ≤ x ∧ x < 256) : rg s FF = sn 32 FF := by
  have hsl : s.length = l.length + 4 := by rw [hs, List.length_append, bytes4_length]
  refine (accepts s (by omega) hsb).1 ?_
  have h4 : s.length - 4 = l.length := by omega
  rw [h4, hs, List.take_left, List.drop_left]
theorem place (a : Int) (n : Nat) (h0 : 0 < n) (h1 : n < 9223372036854775808) : ∃ k : Nat, k < n ∧ wrap64 (Int.tmod (IntKind.u64.wrap a) (n : Int)) = (k : Int) := by
  have hu : 0 ≤ IntKind.u64.wrap a := by rw [wrap64u]; omega
  generalize IntKind.u64.wrap a = b at hu
  have h2 := Int.tmod_nonneg (n : Int) hu
  have h3 := Int.tmod_lt_of_pos b (show (0 : Int) < (n : Int) by omega)
  generalize Int.tmod b (n : Int) = c at h2 h3
  refine ⟨c.toNat, by omega, ?_⟩
  unfold wrap64
  omega
theorem e8n (n : Nat) (h : n ≤ 140737488351236) : wrap64 (8 * (n : Int)) = ((8 * n : Nat) : Int) := by unfold wrap64; omega
theorem e4n (n : Nat) (h : n ≤ 140737488351236) : wrap64 ((n : Int) + 4) = (n : Int) + 4 := by unfold wrap64; omega
theorem main (l s : List Int) (a bits_ : Int) (hlen : l.length ≤ 140737488351232) (hs : s = l ++ bytes4 (crc l)) (hsl : s.length = l.length + 4) (k : Nat) (hk : wrap64 (Int.tmod (IntKind.u64.wrap a) ((8 * s.length : Nat) : Int)) = (k : Int))
    (h0 : Ev (fun q => colophonlaw02_SumsBursts.l0 q l bits_ s (k : Int) false 0) true) : Ev (fun q => colophonlaw02_SumsBursts.f q l a bits_) true := by
  have e8 := e8n s.length (by omega)
  have e1 := e4n l.length (by omega)
  have e9 : IntKind.u64.wrap ((8 * s.length : Nat) : Int) = ((8 * s.length : Nat) : Int) := u64n _ (by omega)
  have c1 : (s.length : Int) = (l.length : Int) + 4 := by omega
  have c2 : ¬ (((8 * s.length : Nat) : Int) = 0) := by omega
  have hS := Seal_f l (show l.length < 140737488355324 by omega)
  rw [← hs] at hS
  refine Ev.congr (fun q => ?_) h0
  unfold colophonlaw02_SumsBursts.f
  rw [works_f, Option.bind_some, if_pos rfl, hS, Option.bind_some, e1, if_pos c1, e8, e9, if_neg c2, hk]
theorem SumsBursts : colophonlaw02_SumsBursts.Pure := by
  intro l a bits_ _ hl hw ha hbits
  have hlen : l.length ≤ 140737488351232 := by omega
  obtain ⟨s, hs⟩ : ∃ s, s = l ++ bytes4 (crc l) := ⟨_, rfl⟩
  have hsl : s.length = l.length + 4 := by rw [hs, List.length_append, bytes4_length]
  have hsb : ∀ x ∈ s, 0 ≤ x ∧ x < 256 := by rw [hs]; exact sealed_bytes l hw
  have hsr := sealed_reg l s hs hsb
  obtain ⟨k, hk0, hk⟩ := place a (8 * s.length) (by omega) (by omega)
  have hinv : Inv s k 0 s false 0#32 := ⟨rfl, hsb, by rw [sn_zero, BitVec.xor_zero], fun j _ => by simp, (fun hf => by cases hf), fun _ => ⟨rfl, rfl⟩⟩
  have h0 := loop l s bits_ k hlen hs hsl hsr hk0 32 0 (by omega) s false 0#32 hinv
  have e0 : ((0 : Nat) : Int) = 0 := rfl
  rw [e0] at h0
  exact Ev.rounds (g := fun q => colophonlaw02_SumsBursts.f q l a bits_) (main l s a bits_ hlen hs hsl k hk h0)
end Go.Proofs.YthhpndnambffjaaDoor.Pure
