/- The program's key as a fold; its steps over BitVec 64 lose nothing. -/
import Derived.Test.YthhpndnambffjaaDoorX1
import Derived.Test.YthhpndnambffjaaDoorEv0
namespace Go.Proofs.YthhpndnambffjaaDoor.T
open Go.RowKit Go.Proofs.YthhpndnambffjaaDoor.X Go.Proofs.YthhpndnambffjaaDoor.E Go.Proofs.YthhpndnambffjaaDoorW.PrintWords Go.Proofs.YthhpndnambffjaaDoorW.PrintLast Go.Proofs.YthhpndnambffjaaDoorW.PrintMore

/-- one byte of one number -/
def mix1 (k p : Int) : Int := IntKind.u64.wrap (Go.bits .xor .u64 k (IntKind.u64.wrap p) * 1099511628211)
/-- a number's bytes -/
def parts (v : Int) : List Int := [v / 16777216, v / 65536 % 256, v / 256 % 256, v % 256]
def keys (k : Int) (v : Int) : Int := (parts (v % 4294967296)).foldl mix1 k
theorem byte_of (v : Int) (h0 : 0 ≤ v) (h1 : v < 4294967296) : bits .and .u32 v 255 = v % 256 := by
  have := bits_low (k := .u32) 32 8 (by decide) (fun n a b => by rw [IntKind.wrap_u32]; omega) (by decide) v h0 (by omega)
  simpa using this
theorem key_round (k : Nat) (x3 x : Int) (l : List Int) (n i : Int) :
    sums_Key.l1 (k + 5) x3 (x % 4294967296) 24 l n i = sums_Key.l0 k (keys x3 x) l n (wrap64 (i + 1)) := by
  have hv0 : 0 ≤ x % 4294967296 := by omega
  have hv1 : x % 4294967296 < 4294967296 := by omega
  generalize hv : x % 4294967296 = v at *
  simp only [sums_Key.l1]
  rw [if_pos (by decide), if_pos (by decide), show wrap64 ((24 : Int) - 8) = 16 from (by decide +kernel), if_pos (by decide), if_pos (by decide), show wrap64 ((16 : Int) - 8) = 8 from (by decide +kernel), if_pos (by decide), if_pos (by decide), show wrap64 ((8 : Int) - 8) = 0 from (by decide +kernel), if_pos (by decide), if_pos (by decide), show wrap64 ((0 : Int) - 8) = -8 from (by decide +kernel), if_neg (by decide)]
  have e24 : shr .u32 v 24 = v / 16777216 := rfl
  have e16 : shr .u32 v 16 = v / 65536 := rfl
  have e8 : shr .u32 v 8 = v / 256 := rfl
  have e0 : shr .u32 v 0 = v / 1 := rfl
  rw [e24, e16, e8, e0, byte_of _ (by omega) (by omega), byte_of _ (by omega) (by omega), byte_of _ (by omega) (by omega), byte_of _ (by omega) (by omega)]
  simp only [keys, parts, mix1, hv, List.foldl]
  rw [show v / 16777216 % 256 = v / 16777216 by omega, show v / 1 % 256 = v % 256 by omega]
theorem Key_l0 (l : List Int) (hb : l.length ≤ 140737488351232) : ∀ (d i : Nat) (x3 : Int), i + d = l.length → Ev (fun k => sums_Key.l0 k x3 l (l.length : Int) (i : Int)) ((l.drop i).foldl keys x3) := by
  intro d
  induction d with
  | zero =>
    intro i x3 h
    refine ev_succ ?_
    simp only [sums_Key.l0]
    simp only [if_neg (show ¬ ((i : Int) < (l.length : Int)) by omega)]
    rw [List.drop_eq_nil_of_le (by omega)]
    exact Ev.now _
  | succ d ih =>
    intro i x3 h
    refine ev_succ ?_
    simp only [sums_Key.l0]
    simp only [if_pos (show (i : Int) < (l.length : Int) by omega), if_pos (show (0 : Int) ≤ (i : Int) by omega)]
    refine ev_succ (ev_succ (ev_succ (ev_succ (ev_succ ?_))))
    simp only [Nat.add_assoc, Nat.reduceAdd, key_round]
    rw [w64 (by omega), drop_rd l i (by omega), List.foldl_cons]
    exact ih (i + 1) _ (by omega)
def key (l : List Int) : Int := l.foldl keys 14695981039346656037
theorem Key_ev (l : List Int) (hb : l.length ≤ 140737488351232) : Ev (fun k => sums_Key.f k l) (key l) := by
  simp only [sums_Key.f]
  simpa [key] using Key_l0 l hb l.length 0 14695981039346656037 (by omega)

/-! ### over BitVec 64 -/
abbrev V64 := BitVec 64
def b64 (x : Int) : V64 := BitVec.ofInt 64 x
theorem wrap64u (n : Int) : IntKind.u64.wrap n = n % 18446744073709551616 := by simp [IntKind.wrap, IntKind.bits, IntKind.signed]
theorem b64_wrap (n : Int) : b64 (IntKind.u64.wrap n) = b64 n := by
  rw [wrap64u]
  unfold b64
  apply BitVec.eq_of_toNat_eq
  rw [BitVec.toNat_ofInt, BitVec.toNat_ofInt]
  omega
theorem b64_toNat (x : Int) (h : 0 ≤ x ∧ x < 18446744073709551616) : ((b64 x).toNat : Int) = x := by
  unfold b64
  rw [BitVec.toNat_ofInt]
  omega
theorem b64_inj {x y : Int} (hx : 0 ≤ x ∧ x < 18446744073709551616) (hy : 0 ≤ y ∧ y < 18446744073709551616) (h : b64 x = b64 y) : x = y := by
  rw [← b64_toNat x hx, ← b64_toNat y hy, h]
theorem b64_xor (x y : Int) : b64 (Go.bits .xor .u64 x y) = b64 x ^^^ b64 y := by
  show b64 (IntKind.u64.wrap ((BitVec.ofInt 64 x ^^^ BitVec.ofInt 64 y).toNat : Int)) = _
  rw [b64_wrap]
  show BitVec.ofInt 64 (((BitVec.ofInt 64 x ^^^ BitVec.ofInt 64 y).toNat : Nat) : Int) = _
  rw [BitVec.ofInt_natCast, BitVec.ofNat_toNat, BitVec.setWidth_eq]
  rfl
def pr : V64 := 1099511628211#64
def ip : V64 := 14886173955864302971#64
theorem pr_ip : pr * ip = 1#64 := by decide
theorem b64_mix (k p : Int) : b64 (mix1 k p) = (b64 k ^^^ b64 p) * pr := by
  unfold mix1
  rw [b64_wrap]
  have : ∀ a : Int, b64 (a * 1099511628211) = b64 a * pr := fun a => by
    unfold b64
    rw [BitVec.ofInt_mul]
    rfl
  rw [this, b64_xor, b64_wrap]
theorem mul_inj {a b : V64} (h : a * pr = b * pr) : a = b := by
  have := congrArg (· * ip) h
  simpa [BitVec.mul_assoc, pr_ip] using this
theorem xor_inj_right {k a b : V64} (h : k ^^^ a = k ^^^ b) : a = b := by
  have := congrArg (k ^^^ ·) h
  simpa [← BitVec.xor_assoc] using this
theorem xor_inj_left {p a b : V64} (h : a ^^^ p = b ^^^ p) : a = b := by
  rw [BitVec.xor_comm a, BitVec.xor_comm b] at h
  exact xor_inj_right h
theorem mix_range (k p : Int) : 0 ≤ mix1 k p ∧ mix1 k p < 18446744073709551616 := by
  unfold mix1
  rw [wrap64u]
  omega
theorem keys_range (k v : Int) : 0 ≤ keys k v ∧ keys k v < 18446744073709551616 := mix_range _ _
/-- Unlike keys stay unlike. -/
theorem mix_left (p k k' : Int) (h : b64 (mix1 k p) = b64 (mix1 k' p)) : b64 k = b64 k' := by
  rw [b64_mix, b64_mix] at h
  exact xor_inj_left (mul_inj h)
theorem mix_right (k p p' : Int) (h : b64 (mix1 k p) = b64 (mix1 k p')) : b64 p = b64 p' := by
  rw [b64_mix, b64_mix] at h
  exact xor_inj_right (mul_inj h)
theorem keys_left (v k k' : Int) (h : b64 (keys k v) = b64 (keys k' v)) : b64 k = b64 k' := by
  unfold keys parts at h
  simp only [List.foldl] at h
  exact mix_left _ _ _ (mix_left _ _ _ (mix_left _ _ _ (mix_left _ _ _ h)))
theorem fold_left (l : List Int) : ∀ k k' : Int, b64 (l.foldl keys k) = b64 (l.foldl keys k') → b64 k = b64 k' := by
  induction l with
  | nil => exact fun _ _ h => h
  | cons v l ih => exact fun k k' h => keys_left v k k' (ih _ _ h)
end Go.Proofs.YthhpndnambffjaaDoor.T
