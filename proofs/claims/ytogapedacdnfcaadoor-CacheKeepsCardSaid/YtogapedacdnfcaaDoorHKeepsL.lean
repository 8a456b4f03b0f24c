/- The law CacheKeeps: joined. -/
import Derived.Test.YtogapedacdnfcaaDoorHKeeps
import Derived.Test.YtogapedacdnfcaaDoorEntS
import Derived.Test.YtogapedacdnfcaaDoorX6
import Derived.Test.YtogapedacdnfcaaDoorX2
namespace Go.Proofs.YtogapedacdnfcaaDoor.X
open Go.RowKit Go.Proofs.YtogapedacdnfcaaDoorW.PrintWords Go.Proofs.YtogapedacdnfcaaDoorW.PrintLast Go.Proofs.YtogapedacdnfcaaDoorW.PrintMore Go.Proofs.YtogapedacdnfcaaDoor.G Go.Proofs.YtogapedacdnfcaaDoor.T Go.Proofs.YtogapedacdnfcaaDoor.E Go.Proofs.YtogapedacdnfcaaDoor.Dsk Go.Proofs.YtogapedacdnfcaaDoor.Pure
set_option linter.unusedVariables false
set_option linter.unusedSimpArgs false
def eES (x : Ent) : List Int × Int := Pure.ES x.1 x.2.1 x.2.2.1 x.2.2.2
def eRB (b : List Int) : Ent × Int := (((Pure.RB b).1, (Pure.RB b).2.1, (Pure.RB b).2.2.1, (Pure.RB b).2.2.2.1), (Pure.RB b).2.2.2.2)
theorem eRB_zero : (eRB (zeros 64)).2 ≠ 0 := by decide +kernel
theorem zeros_bytes (n : Nat) : Bytes (zeros n) := fun x hx => by rw [List.eq_of_mem_replicate hx]; omega
theorem eES_no {x : Ent} (h : (eES x).2 ≠ 0) : (eES x).2 = 50 := by
  unfold eES Pure.ES at h ⊢
  split
  · rename_i q; rw [if_pos q] at h; exact absurd rfl h
  · rfl
theorem eES_may {x : Ent} (h : (eES x).2 = 0) : mayB x.2.1 x.2.2.1 x.2.2.2 = true := by
  unfold eES Pure.ES at h
  split at h
  · assumption
  · exact absurd h (by decide)
theorem eES_is {x : Ent} (h : (eES x).2 = 0) : (eES x).1 = entB x.1 x.2.1 x.2.2.1 x.2.2.2 ++ bytes4 (crc (entB x.1 x.2.1 x.2.2.1 x.2.2.2)) := by
  unfold eES Pure.ES
  rw [if_pos (eES_may h)]
theorem khyp (w : World) (hT : Tab w) : KHyp w (fun x => U64 x.1) eES eRB Bytes where
  works := fun V hV => colophonlaw25_works.calls true V (Kd.C_below hT hV) Pure.works_f
  bytes := fun V hV x A c hC hc => cache_Bytes.calls x.1 x.2.1 x.2.2.1 A c x.2.2.2 (eES x).1 (eES x).2 V (Kd.C_below hT hV) hC hc (Pure.Bytes_f x.1 x.2.1 x.2.2.1 x.2.2.2)
  read := fun V hV l hP A c hC hc => cache_Read.calls A c l _ _ _ _ _ V (Kd.C_below hT hV) hC hc (Pure.Read_f l hP)
  zero := ⟨zeros_bytes 64, eRB_zero⟩
  good := fun x hx h => by
    have hm := eES_may h
    have hi := (mayB_iff _ _ _).1 hm
    rw [eES_is h]
    refine ⟨Pure.sealed_by _ _ _ _, by rw [List.length_append, entB_length _ _ _ _ hi.2.2.2.1]; rfl, ?_, hx, ⟨hi.1, hi.2.1⟩, hi.2.2.2.1⟩
    unfold eRB
    rw [Pure.RB_ES _ _ _ _ hx hm]
  bad := fun x h => eES_no h
  same := fun V hV x A c A' c' hx h1 h2 h3 h4 => by
    obtain ⟨k, hk⟩ := Ev.rounds (Pure.Same_ev x.1 x.2.1 x.2.2.1 x.2.2.2 x.1 x.2.1 x.2.2.1 x.2.2.2 (by omega))
    rw [decide_eq_true ⟨rfl, rfl, rfl, rfl⟩] at hk
    exact colophonref25_Same.calls k x.1 x.2.1 x.2.2.1 A c x.2.2.2 x.1 x.2.1 x.2.2.1 A' c' x.2.2.2 true V h1 h2 h3 h4 hk
theorem colophonlaw25_CacheKeeps.walk (A0 : Option Addr) (c0 : Nat) (l0 : List Ent) (A1 : Option Addr) (c1 : Nat) (l1 : List Int) (w : World) (hT : Tab w) (hr0 : Kd.C entK w A0 l0.length l0) (hc0 : l0.length ≤ c0) {Φ : Ent → Prop} {Ψ : Prop} (hp0 : (∀ y ∈ l0, (Lit.int .u64 y.1).wf = true ∧ Φ y) ∧ Ψ) (hr1 : Kd.C (Kd.int .i64) w A1 l1.length l1) (hc1 : l1.length ≤ c1) {Θ : Prop} (hp1 : Θ) :
    Calls Tryd.prog 7 #[.slice A0 l0.length c0, .slice A1 l1.length c1] w fun e w' => e = .returned (.bool true) ∧ Below w.heap.size w w' :=
  keeps_walk (fun x => U64 x.1) eES eRB Bytes A0 c0 l0 A1 c1 l1 w (khyp w hT) hr0 (fun x hx => Pure.wf_u64 (hp0.1 x hx).1) hr1 hc1
end Go.Proofs.YtogapedacdnfcaaDoor.X
