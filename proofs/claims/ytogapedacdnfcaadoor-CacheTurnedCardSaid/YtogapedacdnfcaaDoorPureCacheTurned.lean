/- The pure statement of CacheTurned: a sector of which bits are turned within 32 running is no entry. -/
import Derived.Test.YtogapedacdnfcaaDoorHTurnL
import Derived.Test.YtogapedacdnfcaaDoorPureCacheBack
namespace Go.Proofs.YtogapedacdnfcaaDoor.Pure
open Go.RowKit Go.Proofs.YtogapedacdnfcaaDoor.X Go.Proofs.YtogapedacdnfcaaDoor.G Go.Proofs.YtogapedacdnfcaaDoor.T Go.Proofs.YtogapedacdnfcaaDoor.E Go.Proofs.YtogapedacdnfcaaDoor.S Go.Proofs.YtogapedacdnfcaaDoorW.PrintWords Go.Proofs.YtogapedacdnfcaaDoorW.PrintLast Go.Proofs.YtogapedacdnfcaaDoorW.PrintMore
set_option linter.unusedVariables false
set_option linter.unusedSimpArgs false

section
variable (k0 a v : Int) (l : List Int) (hk0 : U64 k0) (hm : mayB a v l = true)
include hk0 hm
theorem turn_last (y : Int) (k i : Nat) (x7 : List Int) (x9 : Bool) (mask : W) (h : Inv (entB k0 a v l ++ bytes4 (crc (entB k0 a v l))) k i x7 x9 mask) (hsr : rg (entB k0 a v l ++ bytes4 (crc (entB k0 a v l))) FF = sn 32 FF) :
    Ev (fun q => colophonlaw25_CacheTurned.j1 q y x7 (k : Int) x9 (i : Int) false k0 a v l) true := by
  have hl := entB_length k0 a v l ((mayB_iff a v l).1 hm).2.2.2.1
  have hll := ((mayB_iff a v l).1 hm).2.2.2.1
  have hsl : (entB k0 a v l ++ bytes4 (crc (entB k0 a v l))).length = 64 := by rw [List.length_append, hl]; rfl
  refine ev_succ ?_
  simp only [colophonlaw25_CacheTurned.j1, Bool.false_eq_true, if_false]
  rw [Read_f x7 h.byt]
  simp only [Option.bind_some]
  cases x9 with
  | false =>
    obtain ⟨rfl, _⟩ := h.no rfl
    rw [RB_ES k0 a v l hk0 hm]
    simp only [Bool.false_eq_true, if_false, if_true]
    refine Ev.bind (a := true) ?_ (Ev.now _)
    have := Same_ev k0 a v l k0 a v l (by omega)
    simpa using this
  | true =>
    have h7 := h.len
    rw [hsl] at h7
    have hne := h.refused (by omega) hsr
    rw [h7] at hne
    have hr : RB x7 = (0, 0, 0, [], 21) := by
      unfold RB
      rw [if_pos h7, if_neg hne]
    rw [hr]
    simp only [if_true]
    refine Ev.bind (a := true) ?_ (Ev.now _)
    have := Same_ev 0 0 0 [] 0 0 0 [] (by simp)
    simpa using this
set_option maxHeartbeats 4000000 in
theorem turn_loop (y : Int) (k : Nat) (hk : k < 512) (hsr : rg (entB k0 a v l ++ bytes4 (crc (entB k0 a v l))) FF = sn 32 FF) : ∀ (d i : Nat), i + d = 32 → ∀ (x7 : List Int) (x9 : Bool) (mask : W), Inv (entB k0 a v l ++ bytes4 (crc (entB k0 a v l))) k i x7 x9 mask → Ev (fun q => colophonlaw25_CacheTurned.l0 q y x7 (k : Int) x9 (i : Int) k0 a v l) true := by
  have hl := entB_length k0 a v l ((mayB_iff a v l).1 hm).2.2.2.1
  have hsl : (entB k0 a v l ++ bytes4 (crc (entB k0 a v l))).length = 64 := by rw [List.length_append, hl]; rfl
  intro d
  induction d with
  | zero =>
    intro i hi x7 x9 mask h
    refine ev_succ ?_
    simp only [colophonlaw25_CacheTurned.l0, if_neg (show ¬ ((i : Int) < 32) by omega)]
    exact turn_last k0 a v l hk0 hm y k i x7 x9 mask h hsr
  | succ d ih =>
    intro i hi x7 x9 mask h
    refine ev_succ ?_
    have ek : wrap64 ((k : Int) + (i : Int)) = ((k + i : Nat) : Int) := by unfold wrap64; omega
    simp only [colophonlaw25_CacheTurned.l0, if_pos (show (i : Int) < 32 by omega), ek]
    have h7 := h.len
    rw [hsl] at h7
    by_cases hin : k + i < 512
    · rw [show decide (((k + i : Nat) : Int) < 512) = true from decide_eq_true (by omega)]
      refine ev_succ ?_
      have eu : IntKind.u64.wrap (i : Int) = (i : Int) := u64n i (by omega)
      simp only [colophonlaw25_CacheTurned.j1, if_true, eu, if_pos (show (0 : Int) ≤ (i : Int) by omega), ek]
      have ed : wrap64 (Int.tdiv ((k + i : Nat) : Int) 8) = (((k + i) / 8 : Nat) : Int) := by
        rw [show Int.tdiv ((k + i : Nat) : Int) 8 = (((k + i) / 8 : Nat) : Int) from rfl]; exact w64n _ (by omega)
      have em : IntKind.u64.wrap (Int.tmod ((k + i : Nat) : Int) 8) = (((k + i) % 8 : Nat) : Int) := by
        rw [show Int.tmod ((k + i : Nat) : Int) 8 = (((k + i) % 8 : Nat) : Int) from rfl]; exact u64n _ (by omega)
      simp only [ed, em]
      by_cases hb : Go.bits .and .u32 (shr .u32 y (i : Int)) 1 = 1
      · simp only [if_pos hb, if_pos (show (0 : Int) ≤ (((k + i) / 8 : Nat) : Int) by omega), if_pos (show (((k + i) / 8 : Nat) : Int) < (x7.length : Int) by omega), if_pos (show (0 : Int) ≤ (((k + i) % 8 : Nat) : Int) by omega), Int.toNat_natCast, shl1 _ (Nat.mod_lt (k + i) (show 0 < 8 by decide)), w64 (show i < 9223372036854775807 by omega)]
        exact ih (i + 1) (by omega) _ true _ (h.turn (by omega) (by rw [hsl]; omega))
      · simp only [if_neg hb, w64 (show i < 9223372036854775807 by omega)]
        exact ih (i + 1) (by omega) _ _ _ h.keep
    · rw [show decide (((k + i : Nat) : Int) < 512) = false from decide_eq_false (by omega)]
      exact turn_last k0 a v l hk0 hm y k i x7 x9 mask h hsr
end
theorem CacheTurned : colophonlaw25_CacheTurned.Pure := by
  intro k a v l x y hk ha hv hl hx hy
  refine Ev.rounds ?_
  simp only [colophonlaw25_CacheTurned.f, works_f, Option.bind_some, if_true]
  by_cases h5 : (l.length : Int) > 500
  · simp only [if_pos h5]
    exact Ev.now _
  simp only [if_neg h5, Bytes_f, Option.bind_some]
  unfold ES
  by_cases hm : mayB a v l = true
  · simp only [if_pos hm, if_true]
    obtain ⟨n, hn, hne⟩ := place x 512 (by decide) (by decide)
    rw [show ((512 : Nat) : Int) = 512 from rfl] at hne
    rw [hne]
    have hl := entB_length k a v l ((mayB_iff a v l).1 hm).2.2.2.1
    have hsl : (entB k a v l ++ bytes4 (crc (entB k a v l))).length = 64 := by rw [List.length_append, hl]; rfl
    have hsb := sealed_by k a v l
    have hsr : rg (entB k a v l ++ bytes4 (crc (entB k a v l))) FF = sn 32 FF := by
      refine (accepts _ (by omega) hsb).1 ?_
      rw [hsl]
      show List.drop 60 _ = _
      rw [List.drop_left' hl, List.take_left' hl]
    have hinv : Inv (entB k a v l ++ bytes4 (crc (entB k a v l))) n 0 (entB k a v l ++ bytes4 (crc (entB k a v l))) false 0#32 := ⟨rfl, hsb, by rw [sn_zero, BitVec.xor_zero], fun j _ => by simp, (fun hf => by cases hf), fun _ => ⟨rfl, rfl⟩⟩
    have := turn_loop k a v l (wf_u64 hk) hm y n hn hsr 32 0 (by omega) _ false 0#32 hinv
    exact this
  · simp only [if_neg hm, show ¬ ((50 : Int) = 0) by decide, if_false]
    exact Ev.now _
end Go.Proofs.YtogapedacdnfcaaDoor.Pure
