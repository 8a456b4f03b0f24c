/- neutral.Levels by hand. -/
import Derived.Test.YtcjmjggifeaggaaHSides
namespace Go.Proofs.Ytcjmjggifeaggaa.X
open Go.RowKit Go.Proofs.YtcjmjggifeaggaaW.PrintWords Go.Proofs.YtcjmjggifeaggaaW.PrintLast Go.Proofs.YtcjmjggifeaggaaW.PrintMore Go.Proofs.Ytcjmjggifeaggaa.G
set_option linter.unusedVariables false
set_option linter.unusedSimpArgs false

/-- the level of a type -/
def levOf (a x : Int) : Int := if x = 2 then Go.bits .or .i64 a 1 else if x = 1 ∨ a % 2 = 1 then a + a % 2 else a + 2
def levGo (a : Int) : List Int → List Int → List Int × Int
  | acc, [] => (acc, 0)
  | acc, x :: r => if sideOf x = 0 then ([], 50) else levGo a (acc ++ [levOf a x]) r
def neutral_Levels.f (l0 : List Int) (a1 : Int) : Option (List Int × Int) :=
  if l0.length < 17592186044416 then some (if a1 < 0 ∨ 126 < a1 then ([], 2) else levGo a1 [] l0) else none
theorem drop_rd {l : List Int} {x : Int} (h0 : 0 ≤ x) (h1 : x < (l.length : Int)) : l.drop x.toNat = rd l x :: l.drop (x + 1).toNat := by
  have hx : x.toNat < l.length := by omega
  rw [List.drop_eq_getElem_cons hx, show (x + 1).toNat = x.toNat + 1 by omega]
  simp [rd, hx]

set_option maxHeartbeats 8000000 in
set_option maxRecDepth 100000 in
theorem neutral_Levels.calls (A0 : Option Addr) (c0 : Nat) (l0 : List Int) (a1 : Int) (r1 : List Int) (r2 : Int) (w : World) (hr0 : Kd.C (Kd.int .i64) w A0 l0.length l0) (hc0 : l0.length ≤ c0) (h : neutral_Levels.f l0 a1 = some (r1, r2)) :
    Calls Try.prog 13 #[.slice A0 l0.length c0, .int .i64 a1] w fun e w' => ∃ v0_ : Value, e = .returned (.tuple #[v0_, .int .i64 r2]) ∧ Kd.R (Kd.int .i64) 3 w' w.heap.size (fun _ => True) v0_ r1 ∧ Below w.heap.size w w' := by
  have hl : l0.length < 17592186044416 := by unfold neutral_Levels.f at h; split at h; assumption; simp at h
  rw [neutral_Levels.f, if_pos hl] at h
  have info3 : (Try.prog.info? 3).map (fun i => (i.zero, i.size, i.bytes)) = some (some (.int .i64 0), 1, 8) := by kernel_rfl
  by_cases c0_ : a1 < 0
  · rw [if_pos (.inl c0_)] at h
    simp only [Option.some.injEq, Prod.mk.injEq] at h
    obtain ⟨rfl, rfl⟩ := h
    have b0 : decide (a1 < 0) = true := decide_eq_true c0_
    go_enter Try.func13, Try.ntmps13
    go_wp2
    go_ret2
    exact ⟨_, rfl, Kd.R_nil _ _ _ _ _, Below.refl _ _⟩
  by_cases c1_ : 126 < a1
  · rw [if_pos (.inr c1_)] at h
    simp only [Option.some.injEq, Prod.mk.injEq] at h
    obtain ⟨rfl, rfl⟩ := h
    have b0 : decide (a1 < 0) = false := decide_eq_false c0_
    have b1 : decide (126 < a1) = true := decide_eq_true c1_
    go_enter Try.func13, Try.ntmps13
    go_wp2
    go_ret2
    exact ⟨_, rfl, Kd.R_nil _ _ _ _ _, Below.refl _ _⟩
  rw [if_neg (by omega)] at h
  have b0 : decide (a1 < 0) = false := decide_eq_false c0_
  have b1 : decide (126 < a1) = false := decide_eq_false c1_
  have H : Aside0 (levGo a1 [] l0 = (r1, r2)) := ⟨Option.some.inj h⟩
  have HR := Aside0.mk hr0
  have HL := Aside0.mk hl
  have g0 : 0 ≤ a1 := by omega
  have g1 : a1 ≤ 126 := by omega
  clear hr0 h hl c0_ c1_
  go_enter Try.func13, Try.ntmps13
  go_wp2_with (first | (go_at_call 16; refine (sides_calls _).mono ?_; rintro e w1 ⟨rfl, rfl⟩))
  have HB0 := Aside0.mk (below_alloc (Below.refl w.heap.size w) sidesObj)
  have HM0 := Aside0.mk (alloc_new w sidesObj)
  obtain ⟨gm, hgm⟩ : ∃ g, g = w.heap.size := ⟨_, rfl⟩
  generalize w.alloc sidesObj = w1 at *
  rw [← hgm] at HM0 ⊢
  have HG := Aside0.mk hgm
  clear hgm
  go_loopg [7, 19] (l0.length + 1) (fun kq v7 v19 w' => ∃ (y : List Int) (x : Int), v19 = .int .i64 x ∧ Aside0 (0 ≤ x ∧ x ≤ l0.length) ∧ Aside0 (kq + x.toNat = l0.length + 1) ∧ Aside0 (y.length = x.toNat) ∧ Aside0 (levGo a1 y (l0.drop x.toNat) = (r1, r2)) ∧ Aside0 (w'.heap[gm]? = some sidesObj) ∧ Aside0 (Kd.R (Kd.int .i64) 3 w' w.heap.size (fun k => k ≠ gm) v7 y) ∧ Aside0 (Below w.heap.size w w'))
  case atStart => exact ⟨[], 0, rfl, ⟨by omega⟩, ⟨rfl⟩, ⟨rfl⟩, ⟨H.out⟩, HM0, ⟨Kd.R_nil _ _ _ _ _⟩, HB0⟩
  case round =>
    clear H HM0 HB0
    obtain ⟨y, x, rfl, HI, HK, HY, HA, HM, HO, HB⟩ := hrel
    have hlook := fun z => sideLook wr gm HM.out z
    by_cases c2 : x < (l0.length : Int)
    · have c2b : decide (x < (l0.length : Int)) = true := decide_eq_true c2
      obtain ⟨ad, e, hx⟩ := Kd.at_int (Kd.C_below HR.out HB.out) x HI.out.1 c2
      cases e
      have p1 : (0 ≤ x) = True := eq_true HI.out.1
      have q1 : (x < (l0.length : Int)) = True := eq_true c2
      have HC2 := Aside0.mk c2
      have HA2 := HA.out
      rw [drop_rd HI.out.1 c2] at HA2
      clear c2 HA
      have hyl : (y.length + 1) * 8 ≤ 140737488355328 := by have := HY.out; have := HI.out; have := HL.out; omega
      have HYL := Aside0.mk hyl
      clear hyl
      generalize hz : rd l0 x = z at *
      clear hz
      have hl1 := hlook z
      clear hlook
      by_cases c3 : sideOf z = 0
      · rw [levGo, if_pos c3] at HA2
        simp only [Prod.mk.injEq] at HA2
        obtain ⟨rfl, rfl⟩ := HA2
        have b3 : (sideOf z == 0) = true := by simpa using c3
        rw [c3] at hl1
        clear c3
        go_wp2
        go_ret2
        exact ⟨_, rfl, Kd.R_nil _ _ _ _ _, HB.out⟩
      · rw [levGo, if_neg c3] at HA2
        have b3 : (sideOf z == 0) = false := by simpa using c3
        have HA := Aside0.mk HA2
        clear HA2 c3
        by_cases c4 : z = 2
        · subst c4
          have e4 : levOf a1 2 = Go.bits .or .i64 a1 1 := by simp [levOf]
          rw [e4] at HA
          clear e4
          go_wp2_with (first | ((with_reducible refine gate_builtin (b := .append) (xs := #[.tmp 36, .tmp 39]) rfl ?_); at_builtin; refine Kd.R_append (Kd.int .i64) (w0 := w) w.heap.size rfl (.tmp 36) (.tmp 39) 22 3 (.int .i64 0) 8 rfl Try.underlying22 info3 rfl (by decide) (by omega) u7 y (Go.bits .or .i64 a1 1) [.int .i64 (Go.bits .or .i64 a1 1)] (fun k => k ≠ gm) (fun _ => False) rfl rfl ?aP (fun _ hk => hk.elim) ?aF ?aO ?aB ?aS ?aL ?_; (case aP => exact rfl); (case aB => exact HB.out); (case aF => exact fun k hk => by have := blk_lt HM.out; omega); (case aO => exact HO.out); (case aS => exact HB.out.size); (case aL => have := HYL.out; omega); intro v7 w2 ho hb hg hat; have HO2 := Aside0.mk ho; have HB2 := Aside0.mk hb; have HM2 := Aside0.mk (blk_grown HM.out hg (fun e => HO.out.1 gm e.symm rfl)); clear ho hb hg hat))
          go_roundg (gk - 1)
          case measure => have := HK.out; have := HI.out; have := HC2.out; omega
          case rel => exact ⟨y ++ [Go.bits .or .i64 a1 1], x + 1, by rw [show wrap64 (x + 1) = x + 1 from by have := HI.out; have := HL.out; unfold wrap64; omega], ⟨by have := HI.out; have := HC2.out; omega⟩, ⟨by have := HK.out; have := HI.out; have := HC2.out; omega⟩, ⟨by have := HY.out; have := HI.out; rw [List.length_append, List.length_singleton]; omega⟩, HA, HM2, HO2, HB2⟩
        have b4 : (z == 2) = false := by simpa using c4
        by_cases c5 : z = 1
        · subst c5
          have e4 : levOf a1 1 = a1 + a1 % 2 := by simp [levOf]
          rw [e4] at HA
          clear e4 c4
          go_wp2_with (first | ((with_reducible refine gate_builtin (b := .append) (xs := #[.tmp 49, .tmp 54]) rfl ?_); at_builtin; refine Kd.R_append (Kd.int .i64) (w0 := w) w.heap.size rfl (.tmp 49) (.tmp 54) 22 3 (.int .i64 0) 8 rfl Try.underlying22 info3 rfl (by decide) (by omega) u7 y (a1 + a1 % 2) [.int .i64 (a1 + a1 % 2)] (fun k => k ≠ gm) (fun _ => False) rfl rfl ?aP (fun _ hk => hk.elim) ?aF ?aO ?aB ?aS ?aL ?_; (case aP => exact rfl); (case aB => exact HB.out); (case aF => exact fun k hk => by have := blk_lt HM.out; omega); (case aO => exact HO.out); (case aS => exact HB.out.size); (case aL => have := HYL.out; omega); intro v7 w2 ho hb hg hat; have HO2 := Aside0.mk ho; have HB2 := Aside0.mk hb; have HM2 := Aside0.mk (blk_grown HM.out hg (fun e => HO.out.1 gm e.symm rfl)); clear ho hb hg hat))
          go_roundg (gk - 1)
          case measure => have := HK.out; have := HI.out; have := HC2.out; omega
          case rel => exact ⟨y ++ [a1 + a1 % 2], x + 1, by rw [show wrap64 (x + 1) = x + 1 from by have := HI.out; have := HL.out; unfold wrap64; omega], ⟨by have := HI.out; have := HC2.out; omega⟩, ⟨by have := HK.out; have := HI.out; have := HC2.out; omega⟩, ⟨by have := HY.out; have := HI.out; rw [List.length_append, List.length_singleton]; omega⟩, HA, HM2, HO2, HB2⟩
        have b5 : (z == 1) = false := by simpa using c5
        by_cases c6 : a1 % 2 = 1
        · have e4 : levOf a1 z = a1 + a1 % 2 := by simp [levOf, c4, c6]
          rw [e4] at HA
          have b6 : (a1 % 2 == 1) = true := by simpa using c6
          clear e4 c4 c5 c6
          go_wp2_with (first | ((with_reducible refine gate_builtin (b := .append) (xs := #[.tmp 49, .tmp 54]) rfl ?_); at_builtin; refine Kd.R_append (Kd.int .i64) (w0 := w) w.heap.size rfl (.tmp 49) (.tmp 54) 22 3 (.int .i64 0) 8 rfl Try.underlying22 info3 rfl (by decide) (by omega) u7 y (a1 + a1 % 2) [.int .i64 (a1 + a1 % 2)] (fun k => k ≠ gm) (fun _ => False) rfl rfl ?aP (fun _ hk => hk.elim) ?aF ?aO ?aB ?aS ?aL ?_; (case aP => exact rfl); (case aB => exact HB.out); (case aF => exact fun k hk => by have := blk_lt HM.out; omega); (case aO => exact HO.out); (case aS => exact HB.out.size); (case aL => have := HYL.out; omega); intro v7 w2 ho hb hg hat; have HO2 := Aside0.mk ho; have HB2 := Aside0.mk hb; have HM2 := Aside0.mk (blk_grown HM.out hg (fun e => HO.out.1 gm e.symm rfl)); clear ho hb hg hat))
          go_roundg (gk - 1)
          case measure => have := HK.out; have := HI.out; have := HC2.out; omega
          case rel => exact ⟨y ++ [a1 + a1 % 2], x + 1, by rw [show wrap64 (x + 1) = x + 1 from by have := HI.out; have := HL.out; unfold wrap64; omega], ⟨by have := HI.out; have := HC2.out; omega⟩, ⟨by have := HK.out; have := HI.out; have := HC2.out; omega⟩, ⟨by have := HY.out; have := HI.out; rw [List.length_append, List.length_singleton]; omega⟩, HA, HM2, HO2, HB2⟩
        · have e4 : levOf a1 z = a1 + 2 := by simp [levOf, c4, c5, c6]
          rw [e4] at HA
          have b6 : (a1 % 2 == 1) = false := by simpa using c6
          clear e4 c4 c5 c6
          go_wp2_with (first | ((with_reducible refine gate_builtin (b := .append) (xs := #[.tmp 23, .tmp 26]) rfl ?_); at_builtin; refine Kd.R_append (Kd.int .i64) (w0 := w) w.heap.size rfl (.tmp 23) (.tmp 26) 22 3 (.int .i64 0) 8 rfl Try.underlying22 info3 rfl (by decide) (by omega) u7 y (a1 + 2) [.int .i64 (a1 + 2)] (fun k => k ≠ gm) (fun _ => False) rfl rfl ?aP (fun _ hk => hk.elim) ?aF ?aO ?aB ?aS ?aL ?_; (case aP => exact rfl); (case aB => exact HB.out); (case aF => exact fun k hk => by have := blk_lt HM.out; omega); (case aO => exact HO.out); (case aS => exact HB.out.size); (case aL => have := HYL.out; omega); intro v7 w2 ho hb hg hat; have HO2 := Aside0.mk ho; have HB2 := Aside0.mk hb; have HM2 := Aside0.mk (blk_grown HM.out hg (fun e => HO.out.1 gm e.symm rfl)); clear ho hb hg hat))
          go_roundg (gk - 1)
          case measure => have := HK.out; have := HI.out; have := HC2.out; omega
          case rel => exact ⟨y ++ [a1 + 2], x + 1, by rw [show wrap64 (x + 1) = x + 1 from by have := HI.out; have := HL.out; unfold wrap64; omega], ⟨by have := HI.out; have := HC2.out; omega⟩, ⟨by have := HK.out; have := HI.out; have := HC2.out; omega⟩, ⟨by have := HY.out; have := HI.out; rw [List.length_append, List.length_singleton]; omega⟩, HA, HM2, HO2, HB2⟩
    · have h4 : x = l0.length := by have := HI.out; omega
      have c2b : decide (x < (l0.length : Int)) = false := decide_eq_false c2
      have HA2 := HA.out
      rw [List.drop_of_length_le (by have := HI.out; omega), levGo] at HA2
      simp only [Prod.mk.injEq] at HA2
      obtain ⟨rfl, rfl⟩ := HA2
      clear hlook
      go_wp2
      go_ret2
      exact ⟨_, rfl, Kd.R_mono HO.out (fun _ _ => trivial), HB.out⟩
end Go.Proofs.Ytcjmjggifeaggaa.X
