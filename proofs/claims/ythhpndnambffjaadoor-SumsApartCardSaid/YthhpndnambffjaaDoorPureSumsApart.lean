/- The pure statement of SumsApart. -/
import Derived.Test.YthhpndnambffjaaDoorX2
import Derived.Test.YthhpndnambffjaaDoorCrcF
import Derived.Test.YthhpndnambffjaaDoorKeyT
namespace Go.Proofs.YthhpndnambffjaaDoor.Pure
open Go.RowKit Go.Proofs.YthhpndnambffjaaDoor.X Go.Proofs.YthhpndnambffjaaDoor.G Go.Proofs.YthhpndnambffjaaDoor.T Go.Proofs.YthhpndnambffjaaDoor.E Go.Proofs.YthhpndnambffjaaDoorW.PrintWords Go.Proofs.YthhpndnambffjaaDoorW.PrintLast Go.Proofs.YthhpndnambffjaaDoorW.PrintMore

theorem wf_u8 {x : Int} (h : (Lit.int .u8 x).wf = true) : 0 ≤ x ∧ x < 256 := by
  simp [Lit.wf, IntKind.min, IntKind.max, IntKind.signed, IntKind.bits] at h
  omega
theorem xor_div (a b t : Nat) : (a ^^^ b) / 2 ^ t % 256 = (a / 2 ^ t % 256) ^^^ (b / 2 ^ t % 256) := by
  rw [show (256 : Nat) = 2 ^ 8 from rfl]
  rw [Nat.xor_div_two_pow, Nat.xor_mod_two_pow]
theorem u32_xor_nat (a b : Nat) (ha : a < 4294967296) (hb : b < 4294967296) : Go.bits .xor .u32 (a : Int) (b : Int) = ((a ^^^ b : Nat) : Int) := by
  rw [T.bits_xor]
  unfold b32
  rw [BitVec.ofInt_natCast, BitVec.ofInt_natCast, BitVec.toNat_xor, BitVec.toNat_ofNat, BitVec.toNat_ofNat, Nat.mod_eq_of_lt (show a < 2 ^ 32 by omega), Nat.mod_eq_of_lt (show b < 2 ^ 32 by omega)]
/-- the byte that differs: its place -/
theorem keys_apart (k : Int) (v w : Nat) (t : Nat) (by_ : Nat) (hb : by_ < 256) (hv : v < 4294967296) (ht : t = 0 ∨ t = 8 ∨ t = 16 ∨ t = 24) (hw : w = v ^^^ (by_ * 2 ^ t)) : b64 ((parts (v : Int)).foldl mix1 k) = b64 ((parts (w : Int)).foldl mix1 k) ↔ by_ = 0 := by
  have hlt : v ^^^ (by_ * 2 ^ t) < 4294967296 := by
    refine Nat.lt_of_lt_of_le (Nat.xor_lt_two_pow (n := 32) (by omega) ?_) (by omega)
    rcases ht with rfl | rfl | rfl | rfl <;> omega
  have p : ∀ s : Nat, w / 2 ^ s % 256 = (v / 2 ^ s % 256) ^^^ (by_ * 2 ^ t / 2 ^ s % 256) := fun s => by rw [hw, xor_div]
  have p0 := p 0
  have p8 := p 8
  have p16 := p 16
  have p24 := p 24
  have e : ∀ n : Nat, n < 4294967296 → parts (n : Int) = [((n / 2 ^ 24 % 256 : Nat) : Int), ((n / 2 ^ 16 % 256 : Nat) : Int), ((n / 2 ^ 8 % 256 : Nat) : Int), ((n / 2 ^ 0 % 256 : Nat) : Int)] := fun n hn => by
    simp only [parts, List.cons.injEq, and_true]
    refine ⟨?_, ?_, ?_, ?_⟩ <;> omega
  rw [e v hv, e w (by omega)]
  have small : ∀ a b : Nat, a < 256 → b < 256 → b64 (a : Int) = b64 (b : Int) → a = b := fun a b ha hb h => by
    have := b64_inj (x := (a : Int)) (y := (b : Int)) (by omega) (by omega) h
    omega
  have xz : ∀ a : Nat, a < 256 → a = a ^^^ by_ → by_ = 0 := fun a _ h => by
    have : a ^^^ a = a ^^^ (a ^^^ by_) := congrArg (a ^^^ ·) h
    rw [Nat.xor_self, ← Nat.xor_assoc, Nat.xor_self, Nat.zero_xor] at this
    exact this.symm
  have xl : ∀ a : Nat, a < 256 → a ^^^ by_ < 256 := fun a ha => Nat.xor_lt_two_pow (n := 8) (by omega) (by omega)
  constructor
  · intro h
    simp only [List.foldl] at h
    rcases ht with rfl | rfl | rfl | rfl
    · rw [show by_ * 2 ^ 0 / 2 ^ 8 % 256 = 0 by omega, Nat.xor_zero] at p8
      rw [show by_ * 2 ^ 0 / 2 ^ 16 % 256 = 0 by omega, Nat.xor_zero] at p16
      rw [show by_ * 2 ^ 0 / 2 ^ 24 % 256 = 0 by omega, Nat.xor_zero] at p24
      rw [show by_ * 2 ^ 0 / 2 ^ 0 % 256 = by_ by omega] at p0
      rw [p0, p8, p16, p24] at h
      exact xz _ (Nat.mod_lt _ (by omega)) (small _ _ (Nat.mod_lt _ (by omega)) (xl _ (Nat.mod_lt _ (by omega))) (mix_right _ _ _ h))
    · rw [show by_ * 2 ^ 8 / 2 ^ 8 % 256 = by_ by omega] at p8
      rw [show by_ * 2 ^ 8 / 2 ^ 16 % 256 = 0 by omega, Nat.xor_zero] at p16
      rw [show by_ * 2 ^ 8 / 2 ^ 24 % 256 = 0 by omega, Nat.xor_zero] at p24
      rw [show by_ * 2 ^ 8 / 2 ^ 0 % 256 = 0 by omega, Nat.xor_zero] at p0
      rw [p0, p8, p16, p24] at h
      exact xz _ (Nat.mod_lt _ (by omega)) (small _ _ (Nat.mod_lt _ (by omega)) (xl _ (Nat.mod_lt _ (by omega))) (mix_right _ _ _ (mix_left _ _ _ h)))
    · rw [show by_ * 2 ^ 16 / 2 ^ 8 % 256 = 0 by omega, Nat.xor_zero] at p8
      rw [show by_ * 2 ^ 16 / 2 ^ 16 % 256 = by_ by omega] at p16
      rw [show by_ * 2 ^ 16 / 2 ^ 24 % 256 = 0 by omega, Nat.xor_zero] at p24
      rw [show by_ * 2 ^ 16 / 2 ^ 0 % 256 = 0 by omega, Nat.xor_zero] at p0
      rw [p0, p8, p16, p24] at h
      exact xz _ (Nat.mod_lt _ (by omega)) (small _ _ (Nat.mod_lt _ (by omega)) (xl _ (Nat.mod_lt _ (by omega))) (mix_right _ _ _ (mix_left _ _ _ (mix_left _ _ _ h))))
    · rw [show by_ * 2 ^ 24 / 2 ^ 8 % 256 = 0 by omega, Nat.xor_zero] at p8
      rw [show by_ * 2 ^ 24 / 2 ^ 16 % 256 = 0 by omega, Nat.xor_zero] at p16
      rw [show by_ * 2 ^ 24 / 2 ^ 24 % 256 = by_ by omega] at p24
      rw [show by_ * 2 ^ 24 / 2 ^ 0 % 256 = 0 by omega, Nat.xor_zero] at p0
      rw [p0, p8, p16, p24] at h
      exact xz _ (Nat.mod_lt _ (by omega)) (small _ _ (Nat.mod_lt _ (by omega)) (xl _ (Nat.mod_lt _ (by omega))) (mix_right _ _ _ (mix_left _ _ _ (mix_left _ _ _ (mix_left _ _ _ h)))))
  · rintro rfl
    rw [Nat.zero_mul, Nat.xor_zero] at hw
    rw [hw]
theorem key_range (l : List Int) : ∀ k : Int, (0 ≤ k ∧ k < 18446744073709551616) → 0 ≤ l.foldl keys k ∧ l.foldl keys k < 18446744073709551616 := by
  induction l with
  | nil => exact fun _ h => h
  | cons v l ih => exact fun k _ => ih _ (keys_range k v)
theorem wrap32_mod (w : Nat) (h : w < 4294967296) : wrap32 (w : Int) % 4294967296 = (w : Int) := by
  unfold wrap32
  omega
theorem SumsApart : colophonlaw02_SumsApart.Pure := by
  intro l a b _ hl hw ha hb
  have hb8 := wf_u8 hb
  refine Ev.rounds (g := fun k => colophonlaw02_SumsApart.f k l a b) ?_
  simp only [colophonlaw02_SumsApart.f, works_f, Option.bind_some, if_true]
  by_cases h0 : (l.length : Int) = 0
  · simp only [if_pos h0]
    exact Ev.now _
  · have e2 : IntKind.u64.wrap (l.length : Int) = (l.length : Int) := by rw [wrap64u]; omega
    have hu := wrap64u a
    have hu0 : 0 ≤ IntKind.u64.wrap a := by omega
    obtain ⟨i, hi0, hi⟩ : ∃ i : Nat, i < l.length ∧ wrap64 (Int.tmod (IntKind.u64.wrap a) (l.length : Int)) = (i : Int) := by
      have h1 := Int.tmod_nonneg (l.length : Int) hu0
      have h2 := Int.tmod_lt_of_pos (IntKind.u64.wrap a) (show (0 : Int) < (l.length : Int) by omega)
      refine ⟨(Int.tmod (IntKind.u64.wrap a) (l.length : Int)).toNat, by omega, ?_⟩
      unfold wrap64
      omega
    obtain ⟨t, ht, hts⟩ : ∃ t : Nat, (t = 0 ∨ t = 8 ∨ t = 16 ∨ t = 24) ∧ IntKind.u64.wrap (IntKind.u64.wrap (Go.bits .and .i64 a 3) * 8) = (t : Int) := by
      obtain ⟨j, hj, hje⟩ : ∃ j : Nat, j < 4 ∧ Go.bits .and .i64 a 3 = (j : Int) := by
        refine ⟨(BitVec.ofInt 64 a &&& BitVec.ofInt 64 3).toNat, ?_, ?_⟩
        · rw [BitVec.toNat_and]
          exact Nat.lt_of_le_of_lt Nat.and_le_right (by decide)
        · have h4 : (BitVec.ofInt 64 a &&& BitVec.ofInt 64 3).toNat < 4 := by
            rw [BitVec.toNat_and]
            exact Nat.lt_of_le_of_lt Nat.and_le_right (by decide)
          show IntKind.i64.wrap ((BitVec.ofInt 64 a &&& BitVec.ofInt 64 3).toNat : Int) = _
          rw [IntKind.wrap_i64]
          omega
      refine ⟨j * 8, by omega, ?_⟩
      rw [hje, wrap64u, wrap64u]
      omega
    simp only [if_neg h0, e2, hi, hts, List.nil_append, List.length_nil, Nat.zero_add, if_pos (show l.length < 35184372088832 by omega), if_pos (show (0 : Int) ≤ (i : Int) by omega), if_pos (show (i : Int) < (l.length : Int) by omega), if_pos (show (0 : Int) ≤ (t : Int) by omega), Int.toNat_natCast]
    refine Ev.bind (Key_ev l (by omega)) ?_
    obtain ⟨v, hv, hve⟩ : ∃ v : Nat, v < 4294967296 ∧ rd l (i : Int) % 4294967296 = (v : Int) := ⟨(rd l (i : Int) % 4294967296).toNat, by omega, by omega⟩
    obtain ⟨c, hc, rfl⟩ : ∃ c : Nat, c < 256 ∧ b = (c : Int) := ⟨b.toNat, by omega, by omega⟩
    have hp : c * 2 ^ t < 4294967296 := by rcases ht with rfl | rfl | rfl | rfl <;> omega
    have hsh : shl .u32 ((c : Int) % 4294967296) (t : Int) = ((c * 2 ^ t : Nat) : Int) := by
      have hc1 : (c : Int) % 4294967296 = (c : Int) := by omega
      have hc2 : ((c : Int) * 2 ^ t) = ((c * 2 ^ t : Nat) : Int) := by simp
      unfold shl
      rw [hc1, Int.toNat_natCast, Nat.min_eq_left (by rcases ht with rfl | rfl | rfl | rfl <;> decide), hc2, IntKind.wrap_u32]
      clear hc2
      generalize c * 2 ^ t = z at hp ⊢
      omega
    rw [hve, hsh, u32_xor_nat v _ hv hp]
    have hxl : v ^^^ c * 2 ^ t < 4294967296 := by
      generalize c * 2 ^ t = z at hp ⊢
      exact Nat.xor_lt_two_pow (n := 32) hv hp
    obtain ⟨w, hw⟩ : ∃ w : Nat, w = v ^^^ c * 2 ^ t := ⟨_, rfl⟩
    rw [← hw] at hxl ⊢
    have hye : wrap32 (w : Int) % 4294967296 = (w : Int) := wrap32_mod w hxl
    generalize wrap32 (w : Int) = y at hye ⊢
    refine Ev.bind (Key_ev (l.set i y) (by rw [List.length_set]; omega)) ?_
    have main : key l = key (l.set i y) ↔ c = 0 := by
      have hsplit : l = l.take i ++ rd l (i : Int) :: l.drop (i + 1) := by
        rw [← drop_rd l i hi0, List.take_append_drop]
      have hset : l.set i y = l.take i ++ y :: l.drop (i + 1) := List.set_eq_take_append_cons_drop.trans (by rw [if_pos hi0])
      have hk1 : key l = (l.drop (i + 1)).foldl keys (keys ((l.take i).foldl keys 14695981039346656037) (rd l (i : Int))) := by
        conv => lhs; rw [hsplit]
        simp only [key, List.foldl_append, List.foldl_cons]
      have hk2 : key (l.set i y) = (l.drop (i + 1)).foldl keys (keys ((l.take i).foldl keys 14695981039346656037) y) := by
        rw [hset]
        simp only [key, List.foldl_append, List.foldl_cons]
      rw [hk1, hk2]
      have ka := keys_apart ((l.take i).foldl keys 14695981039346656037) v w t c hc hv ht hw
      have e1 : keys ((l.take i).foldl keys 14695981039346656037) (rd l (i : Int)) = (parts (v : Int)).foldl mix1 ((l.take i).foldl keys 14695981039346656037) := by rw [keys, hve]
      have e2 : keys ((l.take i).foldl keys 14695981039346656037) y = (parts (w : Int)).foldl mix1 ((l.take i).foldl keys 14695981039346656037) := by rw [keys, hye]
      constructor
      · intro h
        have := fold_left _ _ _ (congrArg b64 h)
        rw [e1, e2] at this
        exact ka.1 this
      · intro h
        have h2 := ka.2 h
        rw [← e1, ← e2] at h2
        rw [b64_inj (keys_range _ _) (keys_range _ _) h2]
    have hfin : ((key l == key (l.set i y)) == ((c : Int) == 0)) = true := by
      by_cases hc0 : c = 0
      · rw [main.2 hc0]
        subst hc0
        simp
      · have hn : key l ≠ key (l.set i y) := fun h => hc0 (main.1 h)
        rw [beq_eq_false_iff_ne.2 hn, beq_eq_false_iff_ne.2 (show (c : Int) ≠ 0 by omega)]
        rfl
    rw [hfin]
    exact Ev.now _
end Go.Proofs.YthhpndnambffjaaDoor.Pure
