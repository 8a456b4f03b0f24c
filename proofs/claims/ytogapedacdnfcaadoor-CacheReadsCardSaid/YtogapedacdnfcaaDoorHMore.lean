/- sums.More by hand. -/
import Derived.Test.YtogapedacdnfcaaDoorHTab
namespace Go.Proofs.YtogapedacdnfcaaDoor.G
open Go.RowKit Go.Proofs.YtogapedacdnfcaaDoorW.PrintWords Go.Proofs.YtogapedacdnfcaaDoorW.PrintLast Go.Proofs.YtogapedacdnfcaaDoorW.PrintMore
set_option linter.unusedVariables false
set_option linter.unusedSimpArgs false

theorem bits32_range (op : BinOp) (x y : Int) : 0 ≤ Go.bits op .u32 x y ∧ Go.bits op .u32 x y < 4294967296 := by
  have : ∀ n : Int, 0 ≤ IntKind.u32.wrap n ∧ IntKind.u32.wrap n < 4294967296 := fun n => by
    rw [show IntKind.u32.wrap n = n % 4294967296 by simp [IntKind.wrap, IntKind.bits, IntKind.signed]]; omega
  unfold Go.bits
  exact this _
theorem and15 (s : Int) (h0 : 0 ≤ s) (h1 : s < 4294967296) : Go.bits .and .u32 s 15 = s % 16 := by
  have := bits_mask .u32 32 (by decide) (fun n a b => by rw [IntKind.wrap_u32]; omega) 4 (by decide) s h0 (by omega)
  simpa using this
/-- half of a byte -/
def nib (s : Int) : Int := Go.bits .xor .u32 (s / 16) (rd halves (Go.bits .and .u32 s 15))
/-- a byte -/
def more1 (s c : Int) : Int := nib (nib (Go.bits .xor .u32 s (c % 4294967296)))
def not32 (s : Int) : Int := Go.bits .xor .u32 IntKind.u32.max s
def sums_More.f (a0 : Int) (l1 : List Int) : Option Int := if l1.length < 4611686018427387904 then some (not32 (l1.foldl more1 (not32 a0))) else none
theorem nib_at {w : World} (hT : Tab w) (s : Int) (h : 0 ≤ s ∧ s < 4294967296) : (0 ≤ Go.bits .and .u32 s 15) ∧ (Go.bits .and .u32 s 15 < 16) ∧ w.cell? ⟨0, (Go.bits .and .u32 s 15).toNat, none⟩ = some (.int .u32 (rd halves (Go.bits .and .u32 s 15))) := by
  have := and15 s h.1 h.2
  have h0 : 0 ≤ Go.bits .and .u32 s 15 := by omega
  have h1 : Go.bits .and .u32 s 15 < 16 := by omega
  exact ⟨h0, h1, hT.at_ _ h0 h1⟩
theorem foldl_rd {α : Type} {f : α → Int → α} {l : List Int} {x : Int} (h0 : 0 ≤ x) (h1 : x < (l.length : Int)) (a : α) : (l.drop x.toNat).foldl f a = (l.drop (x + 1).toNat).foldl f (f a (rd l x)) := by
  have hx : x.toNat < l.length := by omega
  rw [List.drop_eq_getElem_cons hx, List.foldl_cons, show (x + 1).toNat = x.toNat + 1 by omega]
  congr 2
  simp [rd, hx]
set_option maxHeartbeats 8000000 in
set_option maxRecDepth 100000 in
theorem sums_More.calls (a0 : Int) (A1 : Option Addr) (c1 : Nat) (l1 : List Int) (r : Int) (w : World) (hT : Tab w) (hr1 : Kd.C (Kd.int .u8) w A1 l1.length l1) (hc1 : l1.length ≤ c1) (h : sums_More.f a0 l1 = some r) :
    Calls Tryd.prog 78 #[.int .u32 a0, .slice A1 l1.length c1] w fun e w' => e = .returned (.int .u32 r) ∧ Drawn0 w w' := by
  have HR1 := Aside0.mk hr1
  have HC1 := Aside0.mk hc1
  have HT := Aside0.mk hT
  clear hr1 hc1 hT
  have HLN : Aside0 (l1.length < 4611686018427387904) := ⟨by unfold sums_More.f at h; split at h; assumption; simp at h⟩
  have H : Aside0 (not32 (l1.foldl more1 (not32 a0)) = r) := ⟨by unfold sums_More.f at h; split at h; exact Option.some.inj h; simp at h⟩
  clear h
  have hsg : IntKind.u32.signed = false := rfl
  go_enter Tryd.func78, Tryd.ntmps78
  go_wp2
  go_loopg [0, 11] (l1.length + 1) (fun kq v0 v11 w' => ∃ (x0 : Int) (x11 : Int), v0 = .int .u32 x0 ∧ v11 = .int .i64 x11 ∧ Aside0 (0 ≤ x0 ∧ x0 < 4294967296) ∧ Aside0 (0 ≤ x11 ∧ x11 ≤ l1.length) ∧ Aside0 (kq + x11.toNat = l1.length + 1) ∧ Aside0 (not32 ((l1.drop x11.toNat).foldl more1 x0) = r) ∧ Drawn0 w w')
  case atStart => exact ⟨_, 0, rfl, rfl, ⟨bits32_range _ _ _⟩, ⟨by omega⟩, ⟨rfl⟩, ⟨H.out⟩, Drawn0.refl _⟩
  case round =>
    obtain ⟨x0, x11, rfl, rfl, HX, HI, HK, HA, ⟨m, rfl⟩⟩ := hrel
    have HC := Aside0.mk (show Kd.C (Kd.int .u8) (w.drewN m) A1 l1.length l1 from HR1.out)
    have HT2 := Aside0.mk (show Tab (w.drewN m) from HT.out)
    by_cases c2 : x11 < (l1.length : Int)
    · have c2b : decide (x11 < (l1.length : Int)) = true := decide_eq_true c2
      obtain ⟨ad, e, hx⟩ := Kd.at_int HC.out x11 HI.out.1 c2
      cases e
      have p1 : (0 ≤ x11) = True := eq_true HI.out.1
      have q1 : (x11 < (l1.length : Int)) = True := eq_true c2
      have HC2 := Aside0.mk c2
      clear c2
      obtain ⟨p2, q2, hx2⟩ := nib_at HT2.out _ (bits32_range .xor x0 (rd l1 x11 % 4294967296))
      replace p2 := eq_true p2
      replace q2 := eq_true q2
      obtain ⟨p3, q3, hx3⟩ := nib_at HT2.out _ (bits32_range .xor (Go.bits .xor .u32 x0 (rd l1 x11 % 4294967296) / 16) (rd halves (Go.bits .and .u32 (Go.bits .xor .u32 x0 (rd l1 x11 % 4294967296)) 15)))
      replace p3 := eq_true p3
      replace q3 := eq_true q3
      go_wp2
      go_roundg (gk - 1)
      case measure => have := HK.out; have := HI.out; have := HC2.out; omega
      case rel => exact ⟨_, x11 + 1, rfl, by rw [show wrap64 (x11 + 1) = x11 + 1 from by have := HI.out; have := HLN.out; unfold wrap64; omega], ⟨bits32_range _ _ _⟩, ⟨by have := HI.out; have := HC2.out; omega⟩, ⟨by have := HK.out; have := HI.out; have := HC2.out; omega⟩, ⟨by rw [← HA.out, foldl_rd HI.out.1 HC2.out x0]; rfl⟩, ⟨m, rfl⟩⟩
    · have h4 : x11 = l1.length := by have := HI.out; omega
      have c2b : decide (x11 < (l1.length : Int)) = false := decide_eq_false c2
      go_wp2
      go_ret
      refine ⟨?_, ⟨m, rfl⟩⟩
      rw [← HA.out, h4]
      simp [not32]
end Go.Proofs.YtogapedacdnfcaaDoor.G
