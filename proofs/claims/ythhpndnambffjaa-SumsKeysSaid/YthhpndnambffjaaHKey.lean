/- The document's key, by hand: what the code comes to. -/
import Derived.Test.YthhpndnambffjaaX0
namespace Go.Proofs.Ythhpndnambffjaa.G
open Go.RowKit Go.Proofs.YthhpndnambffjaaW.PrintWords Go.Proofs.YthhpndnambffjaaW.PrintLast Go.Proofs.YthhpndnambffjaaW.PrintMore
set_option linter.unusedVariables false
set_option linter.unusedSimpArgs false

/-- one byte of one number -/
def refMix (k p : Int) : Int := IntKind.u64.wrap (Go.bits .xor .u64 k (IntKind.u64.wrap p) * 1099511628211)
/-- a number's bytes -/
def refParts (v : Int) : List Int := [v / 16777216, v / 65536 % 256, v / 256 % 256, v % 256]
def refKeys (k : Int) (v : Int) : Int := (refParts (v % 4294967296)).foldl refMix k
def colophonref02_Key.f (l0 : List Int) : Option Int := if l0.length < 4611686018427387904 then some (l0.foldl refKeys 14695981039346656037) else none

theorem foldl_rd {α : Type} {f : α → Int → α} {l : List Int} {x : Int} (h0 : 0 ≤ x) (h1 : x < (l.length : Int)) (a : α) : (l.drop x.toNat).foldl f a = (l.drop (x + 1).toNat).foldl f (f a (rd l x)) := by
  have hx : x.toNat < l.length := by omega
  rw [List.drop_eq_getElem_cons hx, List.foldl_cons, show (x + 1).toNat = x.toNat + 1 by omega]
  congr 2
  simp [rd, hx]

set_option maxHeartbeats 8000000 in
set_option maxRecDepth 100000 in
theorem colophonref02_Key.calls (A0 : Option Addr) (c0 : Nat) (l0 : List Int) (r : Int) (w : World) (hr0 : Kd.C (Kd.int .i32) w A0 l0.length l0) (hc0 : l0.length ≤ c0) (h : colophonref02_Key.f l0 = some r) :
    Calls Try.prog 5 #[.slice A0 l0.length c0] w fun e w' => e = .returned (.int .u64 r) ∧ Below w.heap.size w w' := by
  have HR0 := Aside0.mk hr0
  have HC0 := Aside0.mk hc0
  have HLN : Aside0 (l0.length ≤ 4611686018427387904) := ⟨by unfold colophonref02_Key.f at h; split at h; omega; simp at h⟩
  replace h : some (l0.foldl refKeys 14695981039346656037) = some r := by rw [← h, colophonref02_Key.f, if_pos]; have := HLN.out; unfold colophonref02_Key.f at h; split at h; assumption; simp at h
  clear hr0 hc0
  have H := Aside0.mk h
  clear h
  go_enter Try.func5, Try.ntmps5
  go_wp2
  go_loopg [3, 4] (l0.length + 1) (fun kq v3 v4 w' => ∃ (x3 : Int) (x4 : Int), v3 = .int .u64 x3 ∧ v4 = .int .i64 x4 ∧ Aside0 (0 ≤ x4 ∧ x4 ≤ l0.length) ∧ Aside0 (kq + x4.toNat = l0.length + 1) ∧ Aside0 ((l0.drop x4.toNat).foldl refKeys x3 = r) ∧ Aside0 (Below w.heap.size w w'))
  case atStart => exact ⟨14695981039346656037, 0, rfl, rfl, ⟨by omega⟩, ⟨rfl⟩, ⟨Option.some.inj H.out⟩, ⟨Below.refl _ _⟩⟩
  case round =>
    clear H
    obtain ⟨x3, x4, rfl, rfl, HI, HK, HA, HB⟩ := hrel
    have HC := Aside0.mk (Kd.C_below HR0.out HB.out)
    by_cases c2 : x4 < (l0.length : Int)
    · have c2b : decide (x4 < (l0.length : Int)) = true := decide_eq_true c2
      obtain ⟨ad, e, hx⟩ := Kd.at_int HC.out x4 HI.out.1 c2
      cases e
      have p1 : (0 ≤ x4) = True := eq_true HI.out.1
      have q1 : (x4 < (l0.length : Int)) = True := eq_true c2
      have HC2 := Aside0.mk c2
      clear c2
      go_wp2
      have hb := heap_alloc_new wr (Obj.cells #[Value.int IntKind.u32 (rd l0 x4 % 4294967296 / 16777216), Value.int IntKind.u32 (rd l0 x4 % 4294967296 / 65536 % 256), Value.int IntKind.u32 (rd l0 x4 % 4294967296 / 256 % 256), Value.int IntKind.u32 (rd l0 x4 % 256)] 27)
      have HB1 := Below.alloc HB.out HB.out.size (Obj.cells #[Value.int IntKind.u32 (rd l0 x4 % 4294967296 / 16777216), Value.int IntKind.u32 (rd l0 x4 % 4294967296 / 65536 % 256), Value.int IntKind.u32 (rd l0 x4 % 4294967296 / 256 % 256), Value.int IntKind.u32 (rd l0 x4 % 256)] 27)
      generalize wr.alloc (Obj.cells #[Value.int IntKind.u32 (rd l0 x4 % 4294967296 / 16777216), Value.int IntKind.u32 (rd l0 x4 % 4294967296 / 65536 % 256), Value.int IntKind.u32 (rd l0 x4 % 4294967296 / 256 % 256), Value.int IntKind.u32 (rd l0 x4 % 256)] 27) = W1 at hb HB1 ⊢
      have Hb := Aside0.mk hb
      have HB1 := Aside0.mk HB1
      clear hb
      have hmod : rd l0 x4 % 4294967296 % 256 = rd l0 x4 % 256 := by omega
      obtain ⟨gk0, hgk0⟩ : ∃ n, n = gk := ⟨_, rfl⟩
      have Hgk := Aside0.mk hgk0
      clear hgk0
      go_loopg [3, 7] 5 (fun kq v3 v7 w' => ∃ (y3 : Int) (y7 : Int), v3 = .int .u64 y3 ∧ v7 = .int .i64 y7 ∧ Aside0 (0 ≤ y7 ∧ y7 ≤ 4) ∧ Aside0 (kq + y7.toNat = 5) ∧ Aside0 (((refParts (rd l0 x4 % 4294967296)).drop y7.toNat).foldl refMix y3 = refKeys x3 (rd l0 x4)) ∧ Drawn0 W1 w')
      case atStart => exact ⟨x3, 0, rfl, rfl, ⟨by omega⟩, ⟨rfl⟩, ⟨rfl⟩, Drawn0.refl _⟩
      case round =>
        obtain ⟨y3, y7, rfl, rfl, HI2, HK2, HA2, ⟨m2, rfl⟩⟩ := hrel
        by_cases c5 : y7 < 4
        · obtain ⟨ji, hji⟩ : ∃ v : Int, v = rd (refParts (rd l0 x4 % 4294967296)) y7 := ⟨_, rfl⟩
          have hx2 : (W1.drewN m2).cell? ⟨wr.heap.size, y7.toNat, none⟩ = some (Value.int IntKind.u32 ji) := by
            rw [show (W1.drewN m2).cell? ⟨wr.heap.size, y7.toNat, none⟩ = W1.cell? ⟨wr.heap.size, y7.toNat, none⟩ from rfl]
            rw [blk_cell Hb.out]
            have := HI2.out
            obtain rfl | rfl | rfl | rfl : y7 = 0 ∨ y7 = 1 ∨ y7 = 2 ∨ y7 = 3 := by omega
            all_goals (rw [hji]; simp [refParts, rd])
          have p2 : (0 ≤ y7) = True := eq_true HI2.out.1
          have c5b : decide (y7 < 4) = true := decide_eq_true c5
          go_wp2
          go_roundg (gk - 1)
          case measure => have := HK2.out; have := HI2.out; omega
          case rel => exact ⟨_, y7 + 1, rfl, by rw [show wrap64 (y7 + 1) = y7 + 1 from by have := HI2.out; unfold wrap64; omega], ⟨by have := HI2.out; omega⟩, ⟨by have := HK2.out; have := HI2.out; omega⟩, ⟨by rw [← HA2.out, foldl_rd HI2.out.1 (by simpa [refParts] using c5) y3]; subst hji; rfl⟩, ⟨m2, rfl⟩⟩
        · have h7 : y7 = 4 := by have := HI2.out; omega
          have c5b : decide (y7 < 4) = false := decide_eq_false c5
          have c5n : (y7 < 4) = False := eq_false c5
          go_wp2
          go_roundg (gk0 - 1)
          case measure => have := HK.out; have := HI.out; have := HC2.out; have := Hgk.out; omega
          case rel => exact ⟨_, x4 + 1, rfl, by rw [show wrap64 (x4 + 1) = x4 + 1 from by have := HI.out; have := HLN.out; unfold wrap64; omega], ⟨by have := HI.out; have := HC2.out; omega⟩, ⟨by have := HK.out; have := HI.out; have := HC2.out; have := Hgk.out; omega⟩, ⟨by rw [← HA.out, foldl_rd HI.out.1 HC2.out x3, ← HA2.out, h7]; rfl⟩, ⟨HB1.out.trans ⟨rfl, rfl, rfl, Nat.le_refl _, fun _ _ => rfl⟩⟩⟩
    · have h4 : x4 = l0.length := by have := HI.out; omega
      have c2b : decide (x4 < (l0.length : Int)) = false := decide_eq_false c2
      go_wp2
      go_ret
      refine ⟨?_, HB.out⟩
      rw [← HA.out, h4]
      simp
end Go.Proofs.Ythhpndnambffjaa.G
