/- colophonref11.Levels by hand. -/
import Derived.Test.YtcjmjggifeaggaaHLev
namespace Go.Proofs.Ytcjmjggifeaggaa.X
open Go.RowKit Go.Proofs.YtcjmjggifeaggaaW.PrintWords Go.Proofs.YtcjmjggifeaggaaW.PrintLast Go.Proofs.YtcjmjggifeaggaaW.PrintMore Go.Proofs.Ytcjmjggifeaggaa.G
set_option linter.unusedVariables false
set_option linter.unusedSimpArgs false

def evens : List Int := [0, 0, 1, 0, 2, 0, 0, 2]
def odds : List Int := [0, 1, 0, 0, 1, 0, 0, 1]
def refLev (a x : Int) : Int := if a % 2 = 0 then a + rd evens x else a + rd odds x
def refGo (a : Int) : List Int → List Int → List Int × Int
  | acc, [] => (acc, 0)
  | acc, x :: r => if x ≠ 1 ∧ x ≠ 2 ∧ x ≠ 4 ∧ x ≠ 7 then ([], 50) else refGo a (acc ++ [refLev a x]) r
def colophonref11_Levels.f (l0 : List Int) (a1 : Int) : Option (List Int × Int) :=
  if l0.length < 17592186044416 then some (if a1 < 0 ∨ 126 < a1 then ([], 2) else refGo a1 [] l0) else none

set_option maxHeartbeats 8000000 in
set_option maxRecDepth 100000 in
theorem colophonref11_Levels.calls (A0 : Option Addr) (c0 : Nat) (l0 : List Int) (a1 : Int) (r1 : List Int) (r2 : Int) (w : World) (hr0 : Kd.C (Kd.int .i64) w A0 l0.length l0) (hc0 : l0.length ≤ c0) (h : colophonref11_Levels.f l0 a1 = some (r1, r2)) :
    Calls Try.prog 14 #[.slice A0 l0.length c0, .int .i64 a1] w fun e w' => ∃ v0_ : Value, e = .returned (.tuple #[v0_, .int .i64 r2]) ∧ Kd.R (Kd.int .i64) 3 w' w.heap.size (fun _ => True) v0_ r1 ∧ Below w.heap.size w w' := by
  have hl : l0.length < 17592186044416 := by unfold colophonref11_Levels.f at h; split at h; assumption; simp at h
  rw [colophonref11_Levels.f, if_pos hl] at h
  have info3 : (Try.prog.info? 3).map (fun i => (i.zero, i.size, i.bytes)) = some (some (.int .i64 0), 1, 8) := by kernel_rfl
  by_cases c0_ : a1 < 0
  · rw [if_pos (.inl c0_)] at h
    simp only [Option.some.injEq, Prod.mk.injEq] at h
    obtain ⟨rfl, rfl⟩ := h
    have b0 : decide (a1 < 0) = true := decide_eq_true c0_
    go_enter Try.func14, Try.ntmps14
    go_wp2
    go_ret2
    exact ⟨_, rfl, Kd.R_nil _ _ _ _ _, Below.refl _ _⟩
  by_cases c1_ : 126 < a1
  · rw [if_pos (.inr c1_)] at h
    simp only [Option.some.injEq, Prod.mk.injEq] at h
    obtain ⟨rfl, rfl⟩ := h
    have b0 : decide (a1 < 0) = false := decide_eq_false c0_
    have b1 : decide (126 < a1) = true := decide_eq_true c1_
    go_enter Try.func14, Try.ntmps14
    go_wp2
    go_ret2
    exact ⟨_, rfl, Kd.R_nil _ _ _ _ _, Below.refl _ _⟩
  rw [if_neg (by omega)] at h
  have b0 : decide (a1 < 0) = false := decide_eq_false c0_
  have b1 : decide (126 < a1) = false := decide_eq_false c1_
  have H : Aside0 (refGo a1 [] l0 = (r1, r2)) := ⟨Option.some.inj h⟩
  have HR := Aside0.mk hr0
  have HL := Aside0.mk hl
  have g0 : 0 ≤ a1 := by omega
  have g1 : a1 ≤ 126 := by omega
  clear hr0 h hl c0_ c1_
  go_enter Try.func14, Try.ntmps14
  go_wp2
  go_loopg [8, 9] (l0.length + 1) (fun kq v8 v9 w' => ∃ (y : List Int) (x : Int), v9 = .int .i64 x ∧ Aside0 (0 ≤ x ∧ x ≤ l0.length) ∧ Aside0 (kq + x.toNat = l0.length + 1) ∧ Aside0 (y.length = x.toNat) ∧ Aside0 (refGo a1 y (l0.drop x.toNat) = (r1, r2)) ∧ Aside0 (w'.heap[w.heap.size]? = some (.cells #[.int .i64 0, .int .i64 0, .int .i64 1, .int .i64 0, .int .i64 2, .int .i64 0, .int .i64 0, .int .i64 2] 47 (0, 0))) ∧ Aside0 (w'.heap[w.heap.size + 1]? = some (.cells #[.int .i64 0, .int .i64 1, .int .i64 0, .int .i64 0, .int .i64 1, .int .i64 0, .int .i64 0, .int .i64 1] 47 (0, 0))) ∧ Aside0 (Kd.R (Kd.int .i64) 3 w' w.heap.size (fun k => k ≠ w.heap.size ∧ k ≠ w.heap.size + 1) v8 y) ∧ Aside0 (Below w.heap.size w w'))
  case atStart => exact ⟨[], 0, rfl, ⟨by omega⟩, ⟨rfl⟩, ⟨rfl⟩, ⟨H.out⟩, ⟨blk_alloc (blk_new _ _) _⟩, ⟨by have := blk_new (w.alloc (.cells #[.int .i64 0, .int .i64 0, .int .i64 1, .int .i64 0, .int .i64 2, .int .i64 0, .int .i64 0, .int .i64 2] 47)) (.cells #[.int .i64 0, .int .i64 1, .int .i64 0, .int .i64 0, .int .i64 1, .int .i64 0, .int .i64 0, .int .i64 1] 47); rwa [World.size_alloc] at this⟩, ⟨Kd.R_nil _ _ _ _ _⟩, ⟨below_alloc (below_alloc (Below.refl _ _) _) _⟩⟩
  case round =>
    clear H
    obtain ⟨y, x, rfl, HI, HK, HY, HA, HE, HD, HO, HB⟩ := hrel
    by_cases c2 : x < (l0.length : Int)
    · have c2b : decide (x < (l0.length : Int)) = true := decide_eq_true c2
      obtain ⟨ad, e, hx⟩ := Kd.at_int (Kd.C_below HR.out HB.out) x HI.out.1 c2
      cases e
      have p1 : (0 ≤ x) = True := eq_true HI.out.1
      have q1 : (x < (l0.length : Int)) = True := eq_true c2
      have HC2 := Aside0.mk c2
      have HA2 := HA.out
      rw [drop_rd HI.out.1 c2] at HA2
      clear c2 HA
      have hyl : (y.length + 1) * 8 ≤ 140737488355328 := by have := HY.out; have := HI.out; have := HL.out; omega
      have HYL := Aside0.mk hyl
      clear hyl
      generalize hz : rd l0 x = z at *
      clear hz
      by_cases z1 : z = 1
      · subst z1
        have HA := Aside0.mk HA2
        clear HA2
        have hE : wr.cell? ⟨w.heap.size, 1, none⟩ = some (.int .i64 0) := (blk_cell HE.out 1).trans rfl
        have hD : wr.cell? ⟨w.heap.size + 1, 1, none⟩ = some (.int .i64 1) := (blk_cell HD.out 1).trans rfl
        by_cases c6 : a1 % 2 = 0
        · rw [refGo, if_neg (by decide), show refLev a1 1 = a1 by simp [refLev, c6, rd, evens]] at HA
          have b6 : (a1 % 2 == 0) = true := by simpa using c6
          clear c6
          go_wp2_with (first | ((with_reducible refine gate_builtin (b := .append) (xs := #[.tmp 46, .tmp 52]) rfl ?_); at_builtin; refine Kd.R_append (Kd.int .i64) (w0 := w) w.heap.size rfl (.tmp 46) (.tmp 52) 22 3 (.int .i64 0) 8 rfl Try.underlying22 info3 rfl (by decide) (by omega) u8 y (a1) [.int .i64 (a1)] (fun k => k ≠ w.heap.size ∧ k ≠ w.heap.size + 1) (fun _ => False) rfl rfl ?aP (fun _ hk => hk.elim) ?aF ?aO ?aB ?aS ?aL ?_; (case aP => exact rfl); (case aB => exact HB.out); (case aF => exact fun k hk => by have := blk_lt HE.out; have := blk_lt HD.out; omega); (case aO => exact HO.out); (case aS => exact HB.out.size); (case aL => have := HYL.out; omega); intro v8 w2 ho hb hg hat; have HO2 := Aside0.mk ho; have HB2 := Aside0.mk hb; have HE2 := Aside0.mk (blk_grown HE.out hg (fun e => (HO.out.1 _ e.symm).1 rfl)); have HD2 := Aside0.mk (blk_grown HD.out hg (fun e => (HO.out.1 _ e.symm).2 rfl)); clear ho hb hg hat))
          go_roundg (gk - 1)
          case measure => have := HK.out; have := HI.out; have := HC2.out; omega
          case rel => exact ⟨y ++ [a1], x + 1, by rw [show wrap64 (x + 1) = x + 1 from by have := HI.out; have := HL.out; unfold wrap64; omega], ⟨by have := HI.out; have := HC2.out; omega⟩, ⟨by have := HK.out; have := HI.out; have := HC2.out; omega⟩, ⟨by have := HY.out; have := HI.out; rw [List.length_append, List.length_singleton]; omega⟩, HA, HE2, HD2, HO2, HB2⟩
        · rw [refGo, if_neg (by decide), show refLev a1 1 = a1 + 1 by simp [refLev, c6, rd, odds]] at HA
          have b6 : (a1 % 2 == 0) = false := by simpa using c6
          clear c6
          go_wp2_with (first | ((with_reducible refine gate_builtin (b := .append) (xs := #[.tmp 54, .tmp 60]) rfl ?_); at_builtin; refine Kd.R_append (Kd.int .i64) (w0 := w) w.heap.size rfl (.tmp 54) (.tmp 60) 22 3 (.int .i64 0) 8 rfl Try.underlying22 info3 rfl (by decide) (by omega) u8 y (a1 + 1) [.int .i64 (a1 + 1)] (fun k => k ≠ w.heap.size ∧ k ≠ w.heap.size + 1) (fun _ => False) rfl rfl ?aP (fun _ hk => hk.elim) ?aF ?aO ?aB ?aS ?aL ?_; (case aP => exact rfl); (case aB => exact HB.out); (case aF => exact fun k hk => by have := blk_lt HE.out; have := blk_lt HD.out; omega); (case aO => exact HO.out); (case aS => exact HB.out.size); (case aL => have := HYL.out; omega); intro v8 w2 ho hb hg hat; have HO2 := Aside0.mk ho; have HB2 := Aside0.mk hb; have HE2 := Aside0.mk (blk_grown HE.out hg (fun e => (HO.out.1 _ e.symm).1 rfl)); have HD2 := Aside0.mk (blk_grown HD.out hg (fun e => (HO.out.1 _ e.symm).2 rfl)); clear ho hb hg hat))
          go_roundg (gk - 1)
          case measure => have := HK.out; have := HI.out; have := HC2.out; omega
          case rel => exact ⟨y ++ [a1 + 1], x + 1, by rw [show wrap64 (x + 1) = x + 1 from by have := HI.out; have := HL.out; unfold wrap64; omega], ⟨by have := HI.out; have := HC2.out; omega⟩, ⟨by have := HK.out; have := HI.out; have := HC2.out; omega⟩, ⟨by have := HY.out; have := HI.out; rw [List.length_append, List.length_singleton]; omega⟩, HA, HE2, HD2, HO2, HB2⟩
      by_cases z2 : z = 2
      · subst z2
        have HA := Aside0.mk HA2
        clear HA2
        have hE : wr.cell? ⟨w.heap.size, 2, none⟩ = some (.int .i64 1) := (blk_cell HE.out 2).trans rfl
        have hD : wr.cell? ⟨w.heap.size + 1, 2, none⟩ = some (.int .i64 0) := (blk_cell HD.out 2).trans rfl
        by_cases c6 : a1 % 2 = 0
        · rw [refGo, if_neg (by decide), show refLev a1 2 = a1 + 1 by simp [refLev, c6, rd, evens]] at HA
          have b6 : (a1 % 2 == 0) = true := by simpa using c6
          clear c6
          go_wp2_with (first | ((with_reducible refine gate_builtin (b := .append) (xs := #[.tmp 46, .tmp 52]) rfl ?_); at_builtin; refine Kd.R_append (Kd.int .i64) (w0 := w) w.heap.size rfl (.tmp 46) (.tmp 52) 22 3 (.int .i64 0) 8 rfl Try.underlying22 info3 rfl (by decide) (by omega) u8 y (a1 + 1) [.int .i64 (a1 + 1)] (fun k => k ≠ w.heap.size ∧ k ≠ w.heap.size + 1) (fun _ => False) rfl rfl ?aP (fun _ hk => hk.elim) ?aF ?aO ?aB ?aS ?aL ?_; (case aP => exact rfl); (case aB => exact HB.out); (case aF => exact fun k hk => by have := blk_lt HE.out; have := blk_lt HD.out; omega); (case aO => exact HO.out); (case aS => exact HB.out.size); (case aL => have := HYL.out; omega); intro v8 w2 ho hb hg hat; have HO2 := Aside0.mk ho; have HB2 := Aside0.mk hb; have HE2 := Aside0.mk (blk_grown HE.out hg (fun e => (HO.out.1 _ e.symm).1 rfl)); have HD2 := Aside0.mk (blk_grown HD.out hg (fun e => (HO.out.1 _ e.symm).2 rfl)); clear ho hb hg hat))
          go_roundg (gk - 1)
          case measure => have := HK.out; have := HI.out; have := HC2.out; omega
          case rel => exact ⟨y ++ [a1 + 1], x + 1, by rw [show wrap64 (x + 1) = x + 1 from by have := HI.out; have := HL.out; unfold wrap64; omega], ⟨by have := HI.out; have := HC2.out; omega⟩, ⟨by have := HK.out; have := HI.out; have := HC2.out; omega⟩, ⟨by have := HY.out; have := HI.out; rw [List.length_append, List.length_singleton]; omega⟩, HA, HE2, HD2, HO2, HB2⟩
        · rw [refGo, if_neg (by decide), show refLev a1 2 = a1 by simp [refLev, c6, rd, odds]] at HA
          have b6 : (a1 % 2 == 0) = false := by simpa using c6
          clear c6
          go_wp2_with (first | ((with_reducible refine gate_builtin (b := .append) (xs := #[.tmp 54, .tmp 60]) rfl ?_); at_builtin; refine Kd.R_append (Kd.int .i64) (w0 := w) w.heap.size rfl (.tmp 54) (.tmp 60) 22 3 (.int .i64 0) 8 rfl Try.underlying22 info3 rfl (by decide) (by omega) u8 y (a1) [.int .i64 (a1)] (fun k => k ≠ w.heap.size ∧ k ≠ w.heap.size + 1) (fun _ => False) rfl rfl ?aP (fun _ hk => hk.elim) ?aF ?aO ?aB ?aS ?aL ?_; (case aP => exact rfl); (case aB => exact HB.out); (case aF => exact fun k hk => by have := blk_lt HE.out; have := blk_lt HD.out; omega); (case aO => exact HO.out); (case aS => exact HB.out.size); (case aL => have := HYL.out; omega); intro v8 w2 ho hb hg hat; have HO2 := Aside0.mk ho; have HB2 := Aside0.mk hb; have HE2 := Aside0.mk (blk_grown HE.out hg (fun e => (HO.out.1 _ e.symm).1 rfl)); have HD2 := Aside0.mk (blk_grown HD.out hg (fun e => (HO.out.1 _ e.symm).2 rfl)); clear ho hb hg hat))
          go_roundg (gk - 1)
          case measure => have := HK.out; have := HI.out; have := HC2.out; omega
          case rel => exact ⟨y ++ [a1], x + 1, by rw [show wrap64 (x + 1) = x + 1 from by have := HI.out; have := HL.out; unfold wrap64; omega], ⟨by have := HI.out; have := HC2.out; omega⟩, ⟨by have := HK.out; have := HI.out; have := HC2.out; omega⟩, ⟨by have := HY.out; have := HI.out; rw [List.length_append, List.length_singleton]; omega⟩, HA, HE2, HD2, HO2, HB2⟩
      by_cases z4 : z = 4
      · subst z4
        have HA := Aside0.mk HA2
        clear HA2
        have hE : wr.cell? ⟨w.heap.size, 4, none⟩ = some (.int .i64 2) := (blk_cell HE.out 4).trans rfl
        have hD : wr.cell? ⟨w.heap.size + 1, 4, none⟩ = some (.int .i64 1) := (blk_cell HD.out 4).trans rfl
        by_cases c6 : a1 % 2 = 0
        · rw [refGo, if_neg (by decide), show refLev a1 4 = a1 + 2 by simp [refLev, c6, rd, evens]] at HA
          have b6 : (a1 % 2 == 0) = true := by simpa using c6
          clear c6
          go_wp2_with (first | ((with_reducible refine gate_builtin (b := .append) (xs := #[.tmp 46, .tmp 52]) rfl ?_); at_builtin; refine Kd.R_append (Kd.int .i64) (w0 := w) w.heap.size rfl (.tmp 46) (.tmp 52) 22 3 (.int .i64 0) 8 rfl Try.underlying22 info3 rfl (by decide) (by omega) u8 y (a1 + 2) [.int .i64 (a1 + 2)] (fun k => k ≠ w.heap.size ∧ k ≠ w.heap.size + 1) (fun _ => False) rfl rfl ?aP (fun _ hk => hk.elim) ?aF ?aO ?aB ?aS ?aL ?_; (case aP => exact rfl); (case aB => exact HB.out); (case aF => exact fun k hk => by have := blk_lt HE.out; have := blk_lt HD.out; omega); (case aO => exact HO.out); (case aS => exact HB.out.size); (case aL => have := HYL.out; omega); intro v8 w2 ho hb hg hat; have HO2 := Aside0.mk ho; have HB2 := Aside0.mk hb; have HE2 := Aside0.mk (blk_grown HE.out hg (fun e => (HO.out.1 _ e.symm).1 rfl)); have HD2 := Aside0.mk (blk_grown HD.out hg (fun e => (HO.out.1 _ e.symm).2 rfl)); clear ho hb hg hat))
          go_roundg (gk - 1)
          case measure => have := HK.out; have := HI.out; have := HC2.out; omega
          case rel => exact ⟨y ++ [a1 + 2], x + 1, by rw [show wrap64 (x + 1) = x + 1 from by have := HI.out; have := HL.out; unfold wrap64; omega], ⟨by have := HI.out; have := HC2.out; omega⟩, ⟨by have := HK.out; have := HI.out; have := HC2.out; omega⟩, ⟨by have := HY.out; have := HI.out; rw [List.length_append, List.length_singleton]; omega⟩, HA, HE2, HD2, HO2, HB2⟩
        · rw [refGo, if_neg (by decide), show refLev a1 4 = a1 + 1 by simp [refLev, c6, rd, odds]] at HA
          have b6 : (a1 % 2 == 0) = false := by simpa using c6
          clear c6
          go_wp2_with (first | ((with_reducible refine gate_builtin (b := .append) (xs := #[.tmp 54, .tmp 60]) rfl ?_); at_builtin; refine Kd.R_append (Kd.int .i64) (w0 := w) w.heap.size rfl (.tmp 54) (.tmp 60) 22 3 (.int .i64 0) 8 rfl Try.underlying22 info3 rfl (by decide) (by omega) u8 y (a1 + 1) [.int .i64 (a1 + 1)] (fun k => k ≠ w.heap.size ∧ k ≠ w.heap.size + 1) (fun _ => False) rfl rfl ?aP (fun _ hk => hk.elim) ?aF ?aO ?aB ?aS ?aL ?_; (case aP => exact rfl); (case aB => exact HB.out); (case aF => exact fun k hk => by have := blk_lt HE.out; have := blk_lt HD.out; omega); (case aO => exact HO.out); (case aS => exact HB.out.size); (case aL => have := HYL.out; omega); intro v8 w2 ho hb hg hat; have HO2 := Aside0.mk ho; have HB2 := Aside0.mk hb; have HE2 := Aside0.mk (blk_grown HE.out hg (fun e => (HO.out.1 _ e.symm).1 rfl)); have HD2 := Aside0.mk (blk_grown HD.out hg (fun e => (HO.out.1 _ e.symm).2 rfl)); clear ho hb hg hat))
          go_roundg (gk - 1)
          case measure => have := HK.out; have := HI.out; have := HC2.out; omega
          case rel => exact ⟨y ++ [a1 + 1], x + 1, by rw [show wrap64 (x + 1) = x + 1 from by have := HI.out; have := HL.out; unfold wrap64; omega], ⟨by have := HI.out; have := HC2.out; omega⟩, ⟨by have := HK.out; have := HI.out; have := HC2.out; omega⟩, ⟨by have := HY.out; have := HI.out; rw [List.length_append, List.length_singleton]; omega⟩, HA, HE2, HD2, HO2, HB2⟩
      by_cases z7 : z = 7
      · subst z7
        have HA := Aside0.mk HA2
        clear HA2
        have hE : wr.cell? ⟨w.heap.size, 7, none⟩ = some (.int .i64 2) := (blk_cell HE.out 7).trans rfl
        have hD : wr.cell? ⟨w.heap.size + 1, 7, none⟩ = some (.int .i64 1) := (blk_cell HD.out 7).trans rfl
        by_cases c6 : a1 % 2 = 0
        · rw [refGo, if_neg (by decide), show refLev a1 7 = a1 + 2 by simp [refLev, c6, rd, evens]] at HA
          have b6 : (a1 % 2 == 0) = true := by simpa using c6
          clear c6
          go_wp2_with (first | ((with_reducible refine gate_builtin (b := .append) (xs := #[.tmp 46, .tmp 52]) rfl ?_); at_builtin; refine Kd.R_append (Kd.int .i64) (w0 := w) w.heap.size rfl (.tmp 46) (.tmp 52) 22 3 (.int .i64 0) 8 rfl Try.underlying22 info3 rfl (by decide) (by omega) u8 y (a1 + 2) [.int .i64 (a1 + 2)] (fun k => k ≠ w.heap.size ∧ k ≠ w.heap.size + 1) (fun _ => False) rfl rfl ?aP (fun _ hk => hk.elim) ?aF ?aO ?aB ?aS ?aL ?_; (case aP => exact rfl); (case aB => exact HB.out); (case aF => exact fun k hk => by have := blk_lt HE.out; have := blk_lt HD.out; omega); (case aO => exact HO.out); (case aS => exact HB.out.size); (case aL => have := HYL.out; omega); intro v8 w2 ho hb hg hat; have HO2 := Aside0.mk ho; have HB2 := Aside0.mk hb; have HE2 := Aside0.mk (blk_grown HE.out hg (fun e => (HO.out.1 _ e.symm).1 rfl)); have HD2 := Aside0.mk (blk_grown HD.out hg (fun e => (HO.out.1 _ e.symm).2 rfl)); clear ho hb hg hat))
          go_roundg (gk - 1)
          case measure => have := HK.out; have := HI.out; have := HC2.out; omega
          case rel => exact ⟨y ++ [a1 + 2], x + 1, by rw [show wrap64 (x + 1) = x + 1 from by have := HI.out; have := HL.out; unfold wrap64; omega], ⟨by have := HI.out; have := HC2.out; omega⟩, ⟨by have := HK.out; have := HI.out; have := HC2.out; omega⟩, ⟨by have := HY.out; have := HI.out; rw [List.length_append, List.length_singleton]; omega⟩, HA, HE2, HD2, HO2, HB2⟩
        · rw [refGo, if_neg (by decide), show refLev a1 7 = a1 + 1 by simp [refLev, c6, rd, odds]] at HA
          have b6 : (a1 % 2 == 0) = false := by simpa using c6
          clear c6
          go_wp2_with (first | ((with_reducible refine gate_builtin (b := .append) (xs := #[.tmp 54, .tmp 60]) rfl ?_); at_builtin; refine Kd.R_append (Kd.int .i64) (w0 := w) w.heap.size rfl (.tmp 54) (.tmp 60) 22 3 (.int .i64 0) 8 rfl Try.underlying22 info3 rfl (by decide) (by omega) u8 y (a1 + 1) [.int .i64 (a1 + 1)] (fun k => k ≠ w.heap.size ∧ k ≠ w.heap.size + 1) (fun _ => False) rfl rfl ?aP (fun _ hk => hk.elim) ?aF ?aO ?aB ?aS ?aL ?_; (case aP => exact rfl); (case aB => exact HB.out); (case aF => exact fun k hk => by have := blk_lt HE.out; have := blk_lt HD.out; omega); (case aO => exact HO.out); (case aS => exact HB.out.size); (case aL => have := HYL.out; omega); intro v8 w2 ho hb hg hat; have HO2 := Aside0.mk ho; have HB2 := Aside0.mk hb; have HE2 := Aside0.mk (blk_grown HE.out hg (fun e => (HO.out.1 _ e.symm).1 rfl)); have HD2 := Aside0.mk (blk_grown HD.out hg (fun e => (HO.out.1 _ e.symm).2 rfl)); clear ho hb hg hat))
          go_roundg (gk - 1)
          case measure => have := HK.out; have := HI.out; have := HC2.out; omega
          case rel => exact ⟨y ++ [a1 + 1], x + 1, by rw [show wrap64 (x + 1) = x + 1 from by have := HI.out; have := HL.out; unfold wrap64; omega], ⟨by have := HI.out; have := HC2.out; omega⟩, ⟨by have := HK.out; have := HI.out; have := HC2.out; omega⟩, ⟨by have := HY.out; have := HI.out; rw [List.length_append, List.length_singleton]; omega⟩, HA, HE2, HD2, HO2, HB2⟩
      rw [refGo, if_pos ⟨z1, z2, z4, z7⟩] at HA2
      simp only [Prod.mk.injEq] at HA2
      obtain ⟨rfl, rfl⟩ := HA2
      have n1 : (z != 1) = true := by simpa using z1
      have n2 : (z != 2) = true := by simpa using z2
      have n4 : (z != 4) = true := by simpa using z4
      have n7 : (z != 7) = true := by simpa using z7
      clear z1 z2 z4 z7
      go_wp2
      go_ret2
      exact ⟨_, rfl, Kd.R_nil _ _ _ _ _, HB.out⟩
    · have h4 : x = l0.length := by have := HI.out; omega
      have c2b : decide (x < (l0.length : Int)) = false := decide_eq_false c2
      have HA2 := HA.out
      rw [List.drop_of_length_le (by have := HI.out; omega), refGo] at HA2
      simp only [Prod.mk.injEq] at HA2
      obtain ⟨rfl, rfl⟩ := HA2
      go_wp2
      go_ret2
      exact ⟨_, rfl, Kd.R_mono HO.out (fun _ _ => trivial), HB.out⟩
end Go.Proofs.Ytcjmjggifeaggaa.X
