/- The pure statement of SumsKeys: the program's key is the document's, for every list of numbers. -/
import Derived.Test.YthhpndnambffjaaX1
import Derived.Test.YthhpndnambffjaaEv0
namespace Go.Proofs.Ythhpndnambffjaa.Pure
open Go.RowKit Go.Proofs.Ythhpndnambffjaa.X Go.Proofs.Ythhpndnambffjaa.G Go.Proofs.YthhpndnambffjaaW.PrintWords Go.Proofs.YthhpndnambffjaaW.PrintLast Go.Proofs.YthhpndnambffjaaW.PrintMore Go.Proofs.Ythhpndnambffjaa.E

theorem byte_of (v : Int) (h0 : 0 ≤ v) (h1 : v < 4294967296) : bits .and .u32 v 255 = v % 256 := by
  have := bits_low (k := .u32) 32 8 (by decide) (fun n a b => by rw [IntKind.wrap_u32]; omega) (by decide) v h0 (by omega)
  simpa using this
theorem wrap_u64_small (n : Int) (h0 : 0 ≤ n) (h1 : n < 18446744073709551616) : IntKind.u64.wrap n = n := by
  have : IntKind.u64.wrap n = n % 18446744073709551616 := by simp [IntKind.wrap, IntKind.bits, IntKind.signed]
  rw [this]; omega
theorem key_round (k : Nat) (x3 x : Int) (l : List Int) (n i : Int) :
    sums_Key.l1 (k + 5) x3 (x % 4294967296) 24 l n i = sums_Key.l0 k (refKeys x3 x) l n (wrap64 (i + 1)) := by
  have hv0 : 0 ≤ x % 4294967296 := by omega
  have hv1 : x % 4294967296 < 4294967296 := by omega
  generalize hv : x % 4294967296 = v at *
  simp only [sums_Key.l1]
  rw [if_pos (by decide), if_pos (by decide), show wrap64 ((24 : Int) - 8) = 16 from (by decide +kernel), if_pos (by decide), if_pos (by decide), show wrap64 ((16 : Int) - 8) = 8 from (by decide +kernel), if_pos (by decide), if_pos (by decide), show wrap64 ((8 : Int) - 8) = 0 from (by decide +kernel), if_pos (by decide), if_pos (by decide), show wrap64 ((0 : Int) - 8) = -8 from (by decide +kernel), if_neg (by decide)]
  have e24 : shr .u32 v 24 = v / 16777216 := rfl
  have e16 : shr .u32 v 16 = v / 65536 := rfl
  have e8 : shr .u32 v 8 = v / 256 := rfl
  have e0 : shr .u32 v 0 = v / 1 := rfl
  rw [e24, e16, e8, e0, byte_of _ (by omega) (by omega), byte_of _ (by omega) (by omega), byte_of _ (by omega) (by omega), byte_of _ (by omega) (by omega)]
  simp only [refKeys, refParts, refMix, hv, List.foldl]
  rw [show v / 16777216 % 256 = v / 16777216 by omega, show v / 1 % 256 = v % 256 by omega]
theorem Key_l0 (l : List Int) (hb : l.length ≤ 140737488351232) : ∀ (d i : Nat) (x3 : Int), i + d = l.length → Ev (fun k => sums_Key.l0 k x3 l (l.length : Int) (i : Int)) ((l.drop i).foldl refKeys x3) := by
  intro d
  induction d with
  | zero =>
    intro i x3 h
    refine ev_succ ?_
    simp only [sums_Key.l0]
    simp only [if_neg (show ¬ ((i : Int) < (l.length : Int)) by omega)]
    rw [List.drop_eq_nil_of_le (by omega)]
    exact Ev.now _
  | succ d ih =>
    intro i x3 h
    refine ev_succ ?_
    simp only [sums_Key.l0]
    simp only [if_pos (show (i : Int) < (l.length : Int) by omega), if_pos (show (0 : Int) ≤ (i : Int) by omega)]
    refine ev_succ (ev_succ (ev_succ (ev_succ (ev_succ ?_))))
    simp only [Nat.add_assoc, Nat.reduceAdd, key_round]
    rw [w64 (by omega), drop_rd l i (by omega), List.foldl_cons]
    exact ih (i + 1) _ (by omega)
theorem SumsKeys : colophonlaw02_SumsKeys.Pure := by
  intro l hm hb hw
  refine Ev.rounds (g := fun k => colophonlaw02_SumsKeys.f k l) ?_
  simp only [colophonlaw02_SumsKeys.f]
  refine Ev.bind (a := l.foldl refKeys 14695981039346656037) (by simp only [sums_Key.f]; simpa using Key_l0 l (by omega) l.length 0 14695981039346656037 (by omega)) ?_
  simp only [colophonref02_Key.f, if_pos (show l.length < 4611686018427387904 by omega), Option.bind_some]
  simp only [beq_self_eq_true]
  exact Ev.now _
end Go.Proofs.Ythhpndnambffjaa.Pure
