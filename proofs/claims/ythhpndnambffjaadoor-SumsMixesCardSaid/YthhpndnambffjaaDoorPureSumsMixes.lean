/- The pure statement of SumsMixes. -/
import Derived.Test.YthhpndnambffjaaDoorX2
import Derived.Test.YthhpndnambffjaaDoorCrcF
import Derived.Test.YthhpndnambffjaaDoorEv0
namespace Go.Proofs.YthhpndnambffjaaDoor.Pure
open Go.RowKit Go.Proofs.YthhpndnambffjaaDoor.X Go.Proofs.YthhpndnambffjaaDoor.G Go.Proofs.YthhpndnambffjaaDoor.T Go.Proofs.YthhpndnambffjaaDoor.E Go.Proofs.YthhpndnambffjaaDoorW.PrintWords Go.Proofs.YthhpndnambffjaaDoorW.PrintLast Go.Proofs.YthhpndnambffjaaDoorW.PrintMore

theorem u8_range (op : BinOp) (x y : Int) : 0 ≤ Go.bits op .u8 x y ∧ Go.bits op .u8 x y < 256 := by
  have : ∀ n : Int, 0 ≤ IntKind.u8.wrap n ∧ IntKind.u8.wrap n < 256 := fun n => by
    rw [IntKind.wrap_u8]; omega
  unfold Go.bits
  exact this _
theorem b32_xor8 (x y : Int) (hx : 0 ≤ x ∧ x < 256) (hy : 0 ≤ y ∧ y < 256) : b32 (Go.bits .xor .u8 x y) = b32 x ^^^ b32 y := by
  obtain ⟨a, rfl⟩ := Int.eq_ofNat_of_zero_le hx.1
  obtain ⟨b, rfl⟩ := Int.eq_ofNat_of_zero_le hy.1
  have e : Go.bits .xor .u8 (a : Int) (b : Int) = ((a ^^^ b : Nat) : Int) := by
    show IntKind.u8.wrap ((BitVec.ofInt 8 (a : Int) ^^^ BitVec.ofInt 8 (b : Int)).toNat : Int) = _
    rw [IntKind.wrap_u8, BitVec.toNat_xor, BitVec.ofInt_natCast, BitVec.ofInt_natCast, BitVec.toNat_ofNat, BitVec.toNat_ofNat, Nat.mod_eq_of_lt (show a < 2 ^ 8 by omega), Nat.mod_eq_of_lt (show b < 2 ^ 8 by omega)]
    have : a ^^^ b < 2 ^ 8 := Nat.xor_lt_two_pow (by omega) (by omega)
    omega
  rw [e]
  apply BitVec.eq_of_toNat_eq
  unfold b32
  rw [BitVec.toNat_xor, BitVec.ofInt_natCast, BitVec.ofInt_natCast, BitVec.ofInt_natCast, BitVec.toNat_ofNat, BitVec.toNat_ofNat, BitVec.toNat_ofNat, Nat.mod_eq_of_lt (show a < 2 ^ 32 by omega), Nat.mod_eq_of_lt (show b < 2 ^ 32 by omega)]
  exact Nat.mod_eq_of_lt (Nat.lt_of_lt_of_le (Nat.xor_lt_two_pow (n := 8) (by omega) (by omega)) (by omega))
def mix3 (a b c : List Int) (i : Nat) : Int := Go.bits .xor .u8 (Go.bits .xor .u8 (rd a (i : Int)) (rd b (i : Int))) (rd c (i : Int))
theorem rg_snoc (l : List Int) (x : Int) (r : W) : rg (l ++ [x]) r = sn 8 (rg l r ^^^ b32 x) := by
  simp [rg]
theorem rg_mix (a b c : List Int) (ha : ∀ x ∈ a, 0 ≤ x ∧ x < 256) (hb : ∀ x ∈ b, 0 ≤ x ∧ x < 256) (hc : ∀ x ∈ c, 0 ≤ x ∧ x < 256) (r1 r2 r3 : W) : ∀ n : Nat, n ≤ a.length → n ≤ b.length → n ≤ c.length →
    rg ((List.range n).map (mix3 a b c)) (r1 ^^^ r2 ^^^ r3) = rg (a.take n) r1 ^^^ rg (b.take n) r2 ^^^ rg (c.take n) r3 := by
  intro n
  induction n with
  | zero => intro _ _ _; simp [rg]
  | succ n ih =>
    intro h1 h2 h3
    rw [List.range_succ, List.map_append, List.map_singleton, rg_snoc, ih (by omega) (by omega) (by omega), take_succ_rd a n (by omega), take_succ_rd b n (by omega), take_succ_rd c n (by omega), rg_snoc, rg_snoc, rg_snoc, ← sn_xor, ← sn_xor]
    congr 1
    unfold mix3
    rw [b32_xor8 _ _ (u8_range _ _ _) (hc _ (mem_rd c n (by omega))), b32_xor8 _ _ (ha _ (mem_rd a n (by omega))) (hb _ (mem_rd b n (by omega)))]
    ac_rfl
theorem wf_u8 {x : Int} (h : (Lit.int .u8 x).wf = true) : 0 ≤ x ∧ x < 256 := by
  simp [Lit.wf, IntKind.min, IntKind.max, IntKind.signed, IntKind.bits] at h
  omega
theorem SumsMixes : colophonlaw02_SumsMixes.Pure := by
  intro a b c _ ha1 ha _ hb1 hb _ hc1 hc
  have ha' : ∀ x ∈ a, 0 ≤ x ∧ x < 256 := fun x hx => wf_u8 (ha x hx)
  have hb' : ∀ x ∈ b, 0 ≤ x ∧ x < 256 := fun x hx => wf_u8 (hb x hx)
  have hc' : ∀ x ∈ c, 0 ≤ x ∧ x < 256 := fun x hx => wf_u8 (hc x hx)
  refine Ev.rounds (g := fun k => colophonlaw02_SumsMixes.f k a b c) ?_
  simp only [colophonlaw02_SumsMixes.f, works_f, Option.bind_some, if_true]
  obtain ⟨n, hn, h1, h2, h3⟩ : ∃ n : Nat, mn (mn (a.length : Int) (b.length : Int)) (c.length : Int) = (n : Int) ∧ n ≤ a.length ∧ n ≤ b.length ∧ n ≤ c.length := by
    refine ⟨(mn (mn (a.length : Int) (b.length : Int)) (c.length : Int)).toNat, ?_, ?_, ?_, ?_⟩ <;> (unfold mn; (repeat' split) <;> omega)
  rw [hn]
  have loop : ∀ d i : Nat, i + d = n → Ev (fun k => colophonlaw02_SumsMixes.l0 k a b c (n : Int) ((List.range i).map (mix3 a b c)) (i : Int)) true := by
    intro d
    induction d with
    | zero =>
      intro i h
      refine ev_succ ?_
      simp only [colophonlaw02_SumsMixes.l0]
      simp only [if_neg (show ¬ ((i : Int) < (n : Int)) by omega)]
      obtain rfl : i = n := by omega
      simp only [Crc_f _ (show ((List.range i).map (mix3 a b c)).length < 4611686018427387904 by rw [List.length_map, List.length_range]; omega), Option.bind_some, if_pos (show (0 : Int) ≤ (i : Int) by omega), if_pos (show (i : Int) ≤ (a.length : Int) by omega), if_pos (show (i : Int) ≤ (b.length : Int) by omega), if_pos (show (i : Int) ≤ (c.length : Int) by omega), Int.toNat_natCast,
        Crc_f _ (show (a.take i).length < 4611686018427387904 by rw [List.length_take]; omega), Crc_f _ (show (b.take i).length < 4611686018427387904 by rw [List.length_take]; omega), Crc_f _ (show (c.take i).length < 4611686018427387904 by rw [List.length_take]; omega)]
      have key : crc ((List.range i).map (mix3 a b c)) = Go.bits .xor .u32 (Go.bits .xor .u32 (crc (a.take i)) (crc (b.take i))) (crc (c.take i)) := by
        apply b32_inj (crc_range _) (bits32_range _ _ _)
        rw [b32_xor, b32_xor, b32_crc, b32_crc, b32_crc, b32_crc]
        have hf : (0xffffffff#32 : W) = 0xffffffff#32 ^^^ 0xffffffff#32 ^^^ 0xffffffff#32 := by decide
        have := rg_mix a b c ha' hb' hc' 0xffffffff#32 0xffffffff#32 0xffffffff#32 i h1 h2 h3
        rw [← hf] at this
        rw [this]
        generalize rg (a.take i) 0xffffffff#32 = p
        generalize rg (b.take i) 0xffffffff#32 = q
        generalize rg (c.take i) 0xffffffff#32 = s
        generalize hF : (0xffffffff#32 : W) = f
        rw [show f ^^^ p ^^^ (f ^^^ q) ^^^ (f ^^^ s) = (f ^^^ f ^^^ f) ^^^ (p ^^^ q ^^^ s) by ac_rfl, BitVec.xor_self, BitVec.zero_xor]
      rw [key]
      simp only [beq_self_eq_true]
      exact Ev.now _
    | succ d ih =>
      intro i h
      refine ev_succ ?_
      simp only [colophonlaw02_SumsMixes.l0]
      simp only [if_pos (show (i : Int) < (n : Int) by omega), if_pos (show (0 : Int) ≤ (i : Int) by omega), if_pos (show (i : Int) < (a.length : Int) by omega), if_pos (show (i : Int) < (b.length : Int) by omega), if_pos (show (i : Int) < (c.length : Int) by omega), if_pos (show ((List.range i).map (mix3 a b c)).length < 140737488355328 by rw [List.length_map, List.length_range]; omega)]
      rw [w64 (by omega)]
      have := ih (i + 1) (by omega)
      rw [List.range_succ, List.map_append, List.map_singleton] at this
      exact this
  exact loop n 0 (by omega)
end Go.Proofs.YthhpndnambffjaaDoor.Pure
