-- Written by this session's own program over the seat's translation (a changed print); not the kit's printed text
import Derived.Test.YteldofimjklckaaX0
import Derived.Test.YteldofimjklckaaX1
import Derived.Test.YteldofimjklckaaHWorks
namespace Go.Proofs.Yteldofimjklckaa.X
open Go.RowKit Go.Proofs.YteldofimjklckaaW.PrintWords Go.Proofs.YteldofimjklckaaW.PrintLast Go.Proofs.YteldofimjklckaaW.PrintMore Go.Proofs.Yteldofimjklckaa.G
attribute [local go_sem] max2_int min2_int max_two min_two max_three min_three max_four min_four   -- for this text's walks alone
set_option linter.unusedVariables false
set_option linter.unusedSimpArgs false

/-! ### colophonlaw08_RunsJoin: function 7 -/
mutual
def colophonlaw08_RunsJoin.l0 : Nat → List Int → Int → Int → List (List Int) → Int → Int → Option (Bool)
  | 0, _, _, _, _, _, _ => none
  | k + 1, x0, x3, x4, x12, x13, x14 => if x14 < x13 then (if 0 ≤ x14 then (if x14 < (x12.length : Int) then (if ((rd_L1 x12 x14).length : Int) = 0 then (some false) else (colophonlaw08_RunsJoin.l1 k x0 x3 x4 (rd_L1 x12 x14) x12 x13 x14 (rd_L1 x12 x14) ((rd_L1 x12 x14).length : Int) 0)) else (none)) else (none)) else (colophonlaw08_RunsJoin.l3 k x0 x3)
def colophonlaw08_RunsJoin.l1 : Nat → List Int → Int → Int → List Int → List (List Int) → Int → Int → List Int → Int → Int → Option (Bool)
  | 0, _, _, _, _, _, _, _, _, _, _ => none
  | k + 1, x0, x3, x4, x6, x12, x13, x14, x21, x22, x23 => if x23 < x22 then (if 0 ≤ x23 then (if x23 < (x21.length : Int) then (colophonlaw08_RunsJoin.l2 k x0 x3 x4 x6 (rd x21 x23) x12 x13 x14 x21 x22 x23) else (none)) else (none)) else (if 0 < (x6.length : Int) then (if 0 ≤ (rd x6 0) then (if (rd x6 0) < (x0.length : Int) then (if (rd x0 (rd x6 0)) = x4 then (some false) else (colophonlaw08_RunsJoin.l0 k x0 x3 (rd x0 (rd x6 0)) x12 x13 (wrap64 (x14 + 1)))) else (none)) else (none)) else (none))
def colophonlaw08_RunsJoin.l2 : Nat → List Int → Int → Int → List Int → Int → List (List Int) → Int → Int → List Int → Int → Int → Option (Bool)
  | 0, _, _, _, _, _, _, _, _, _, _, _ => none
  | k + 1, x0, x3, x4, x6, x8, x12, x13, x14, x21, x22, x23 => if x3 < (x0.length : Int) then (if 0 ≤ x3 then (if (rd x0 x3) < 0 then (colophonlaw08_RunsJoin.l2 k x0 (wrap64 (x3 + 1)) x4 x6 x8 x12 x13 x14 x21 x22 x23) else (if x8 = x3 then (if x3 ≥ (x0.length : Int) then (some false) else (if 0 ≤ x8 then (if x8 < (x0.length : Int) then (if 0 < (x6.length : Int) then (if 0 ≤ (rd x6 0) then (if (rd x6 0) < (x0.length : Int) then (if (rd x0 x8) = (rd x0 (rd x6 0)) then (colophonlaw08_RunsJoin.l1 k x0 (wrap64 (x3 + 1)) x4 x6 x12 x13 x14 x21 x22 (wrap64 (x23 + 1))) else (some false)) else (none)) else (none)) else (none)) else (none)) else (none))) else (some false))) else (none)) else (if x8 = x3 then (if x3 ≥ (x0.length : Int) then (some false) else (if 0 ≤ x8 then (if x8 < (x0.length : Int) then (if 0 < (x6.length : Int) then (if 0 ≤ (rd x6 0) then (if (rd x6 0) < (x0.length : Int) then (if (rd x0 x8) = (rd x0 (rd x6 0)) then (colophonlaw08_RunsJoin.l1 k x0 (wrap64 (x3 + 1)) x4 x6 x12 x13 x14 x21 x22 (wrap64 (x23 + 1))) else (some false)) else (none)) else (none)) else (none)) else (none)) else (none))) else (some false))
def colophonlaw08_RunsJoin.l3 : Nat → List Int → Int → Option (Bool)
  | 0, _, _ => none
  | k + 1, x0, x3 => if x3 < (x0.length : Int) then (if 0 ≤ x3 then (if (rd x0 x3) < 0 then (colophonlaw08_RunsJoin.l3 k x0 (wrap64 (x3 + 1))) else (some (x3 == (x0.length : Int)))) else (none)) else (some (x3 == (x0.length : Int)))
end
def colophonlaw08_RunsJoin.f (k : Nat) (l0 : List Int) : Option (Bool) := (colophonlaw08_works.f).bind fun t457 => (if t457 = true then ((runs_Levels.f k l0).bind fun t458 => (colophonlaw08_RunsJoin.l0 k l0 0 (-1) t458 (t458.length : Int) 0)) else (some false))
theorem colophonlaw08_RunsJoin.mono_l : ∀ k, (∀ y0 y1 y2 y3 y4 y5, LeO (colophonlaw08_RunsJoin.l0 k y0 y1 y2 y3 y4 y5) (colophonlaw08_RunsJoin.l0 (k + 1) y0 y1 y2 y3 y4 y5)) ∧ (∀ y0 y1 y2 y3 y4 y5 y6 y7 y8 y9, LeO (colophonlaw08_RunsJoin.l1 k y0 y1 y2 y3 y4 y5 y6 y7 y8 y9) (colophonlaw08_RunsJoin.l1 (k + 1) y0 y1 y2 y3 y4 y5 y6 y7 y8 y9)) ∧ (∀ y0 y1 y2 y3 y4 y5 y6 y7 y8 y9 y10, LeO (colophonlaw08_RunsJoin.l2 k y0 y1 y2 y3 y4 y5 y6 y7 y8 y9 y10) (colophonlaw08_RunsJoin.l2 (k + 1) y0 y1 y2 y3 y4 y5 y6 y7 y8 y9 y10)) ∧ (∀ y0 y1, LeO (colophonlaw08_RunsJoin.l3 k y0 y1) (colophonlaw08_RunsJoin.l3 (k + 1) y0 y1))
  | 0 => ⟨fun _ _ _ _ _ _ r h => by simp [colophonlaw08_RunsJoin.l0] at h, fun _ _ _ _ _ _ _ _ _ _ r h => by simp [colophonlaw08_RunsJoin.l1] at h, fun _ _ _ _ _ _ _ _ _ _ _ r h => by simp [colophonlaw08_RunsJoin.l2] at h, fun _ _ r h => by simp [colophonlaw08_RunsJoin.l3] at h⟩
  | k + 1 => by
    obtain ⟨ih0, ih1, ih2, ih3⟩ := colophonlaw08_RunsJoin.mono_l k
    refine ⟨?_, ?_, ?_, ?_⟩
    · intro y0 y1 y2 y3 y4 y5
      unfold colophonlaw08_RunsJoin.l0
      repeat' first
      | (with_reducible exact ih0 _ _ _ _ _ _)
      | (with_reducible exact ih1 _ _ _ _ _ _ _ _ _ _)
      | (with_reducible exact ih2 _ _ _ _ _ _ _ _ _ _ _)
      | (with_reducible exact ih3 _ _)
      | (with_reducible exact runs_Levels.mono _ _)
      | (with_reducible exact LeO.refl _)
      | (with_reducible exact LeO.none _)
      | (with_reducible refine LeO.ite ?_ ?_)
      | (with_reducible refine LeO.bind ?_ (fun _ => ?_))
      | exact ih0 _ _ _ _ _ _
      | exact ih1 _ _ _ _ _ _ _ _ _ _
      | exact ih2 _ _ _ _ _ _ _ _ _ _ _
      | exact ih3 _ _
      | exact runs_Levels.mono _ _
      | exact LeO.none _
      | refine LeO.ite ?_ ?_
      | refine LeO.bind ?_ (fun _ => ?_)
    · intro y0 y1 y2 y3 y4 y5 y6 y7 y8 y9
      unfold colophonlaw08_RunsJoin.l1
      repeat' first
      | (with_reducible exact ih0 _ _ _ _ _ _)
      | (with_reducible exact ih1 _ _ _ _ _ _ _ _ _ _)
      | (with_reducible exact ih2 _ _ _ _ _ _ _ _ _ _ _)
      | (with_reducible exact ih3 _ _)
      | (with_reducible exact runs_Levels.mono _ _)
      | (with_reducible exact LeO.refl _)
      | (with_reducible exact LeO.none _)
      | (with_reducible refine LeO.ite ?_ ?_)
      | (with_reducible refine LeO.bind ?_ (fun _ => ?_))
      | exact ih0 _ _ _ _ _ _
      | exact ih1 _ _ _ _ _ _ _ _ _ _
      | exact ih2 _ _ _ _ _ _ _ _ _ _ _
      | exact ih3 _ _
      | exact runs_Levels.mono _ _
      | exact LeO.none _
      | refine LeO.ite ?_ ?_
      | refine LeO.bind ?_ (fun _ => ?_)
    · intro y0 y1 y2 y3 y4 y5 y6 y7 y8 y9 y10
      unfold colophonlaw08_RunsJoin.l2
      repeat' first
      | (with_reducible exact ih0 _ _ _ _ _ _)
      | (with_reducible exact ih1 _ _ _ _ _ _ _ _ _ _)
      | (with_reducible exact ih2 _ _ _ _ _ _ _ _ _ _ _)
      | (with_reducible exact ih3 _ _)
      | (with_reducible exact runs_Levels.mono _ _)
      | (with_reducible exact LeO.refl _)
      | (with_reducible exact LeO.none _)
      | (with_reducible refine LeO.ite ?_ ?_)
      | (with_reducible refine LeO.bind ?_ (fun _ => ?_))
      | exact ih0 _ _ _ _ _ _
      | exact ih1 _ _ _ _ _ _ _ _ _ _
      | exact ih2 _ _ _ _ _ _ _ _ _ _ _
      | exact ih3 _ _
      | exact runs_Levels.mono _ _
      | exact LeO.none _
      | refine LeO.ite ?_ ?_
      | refine LeO.bind ?_ (fun _ => ?_)
    · intro y0 y1
      unfold colophonlaw08_RunsJoin.l3
      repeat' first
      | (with_reducible exact ih0 _ _ _ _ _ _)
      | (with_reducible exact ih1 _ _ _ _ _ _ _ _ _ _)
      | (with_reducible exact ih2 _ _ _ _ _ _ _ _ _ _ _)
      | (with_reducible exact ih3 _ _)
      | (with_reducible exact runs_Levels.mono _ _)
      | (with_reducible exact LeO.refl _)
      | (with_reducible exact LeO.none _)
      | (with_reducible refine LeO.ite ?_ ?_)
      | (with_reducible refine LeO.bind ?_ (fun _ => ?_))
      | exact ih0 _ _ _ _ _ _
      | exact ih1 _ _ _ _ _ _ _ _ _ _
      | exact ih2 _ _ _ _ _ _ _ _ _ _ _
      | exact ih3 _ _
      | exact runs_Levels.mono _ _
      | exact LeO.none _
      | refine LeO.ite ?_ ?_
      | refine LeO.bind ?_ (fun _ => ?_)
theorem colophonlaw08_RunsJoin.mono : ∀ a0 k, LeO (colophonlaw08_RunsJoin.f k a0) (colophonlaw08_RunsJoin.f (k + 1) a0) := by
  intro a0 k
  obtain ⟨ih0, ih1, ih2, ih3⟩ := colophonlaw08_RunsJoin.mono_l k
  unfold colophonlaw08_RunsJoin.f
  repeat' first
      | (with_reducible exact ih0 _ _ _ _ _ _)
      | (with_reducible exact ih1 _ _ _ _ _ _ _ _ _ _)
      | (with_reducible exact ih2 _ _ _ _ _ _ _ _ _ _ _)
      | (with_reducible exact ih3 _ _)
      | (with_reducible exact runs_Levels.mono _ _)
      | (with_reducible exact LeO.refl _)
      | (with_reducible exact LeO.none _)
      | (with_reducible refine LeO.ite ?_ ?_)
      | (with_reducible refine LeO.bind ?_ (fun _ => ?_))
      | exact ih0 _ _ _ _ _ _
      | exact ih1 _ _ _ _ _ _ _ _ _ _
      | exact ih2 _ _ _ _ _ _ _ _ _ _ _
      | exact ih3 _ _
      | exact runs_Levels.mono _ _
      | exact LeO.none _
      | refine LeO.ite ?_ ?_
      | refine LeO.bind ?_ (fun _ => ?_)
set_option maxHeartbeats 8000000 in
set_option maxRecDepth 100000 in
theorem colophonlaw08_RunsJoin.calls (k : Nat) (A0 : Option Addr) (c0 : Nat) (l0 : List Int) (r : Bool) (w : World) (hr0 : Kd.C (Kd.int .i64) w A0 l0.length l0) (hc0 : l0.length ≤ c0) (h : colophonlaw08_RunsJoin.f k l0 = some r) :
    Calls Try.prog 7 #[.slice A0 l0.length c0] w fun e w' => e = .returned (.bool r) ∧ Below w.heap.size w w' := by
  have HR0 := Aside0.mk hr0
  have HC0 := Aside0.mk hc0
  clear hr0 hc0
  have HB := Aside0.mk (Below.refl w.heap.size w)
  have H : ((colophonlaw08_works.f).bind fun t457 => (if t457 = true then ((runs_Levels.f k l0).bind fun t458 => (colophonlaw08_RunsJoin.l0 k l0 0 (-1) t458 (t458.length : Int) 0)) else (some false))) = some r := h
  clear h
  replace H := Option.bind_eq_some_iff.mp H
  obtain ⟨t457, A20, H⟩ := H
  replace H : (if t457 = true then ((runs_Levels.f k l0).bind fun t458 => (colophonlaw08_RunsJoin.l0 k l0 0 (-1) t458 (t458.length : Int) 0)) else (some false)) = some r := H
  have A2 := Aside0.mk A20
  clear A20
  by_cases c3 : t457 = true
  · subst c3
    have H1 : ((runs_Levels.f k l0).bind fun t458 => (colophonlaw08_RunsJoin.l0 k l0 0 (-1) t458 (t458.length : Int) 0)) = some r := by rw [if_pos rfl] at H; exact H
    clear H
    have H := H1
    clear H1
    replace H := Option.bind_eq_some_iff.mp H
    obtain ⟨t458, A40, H⟩ := H
    replace H : (colophonlaw08_RunsJoin.l0 k l0 0 (-1) t458 (t458.length : Int) 0) = some r := H
    have A4 := Aside0.mk A40
    clear A40
    have H' := Aside0.mk H
    clear H
    go_enter Try.func7, Try.ntmps7
    go_wp2_with (first | (go_at_call 9; (with_reducible refine (colophonlaw08_works.calls  true _ A2.out).mono ?_); rintro e w5 ⟨rfl, hb⟩; have n0_ := Aside0.mk (below_step (by repeat (first | (with_reducible first | exact HB.out | apply below_alloc | apply pw_below_drewN | apply below_drew1) | exact HB.out)) hb); clear HB; have HB := n0_; clear n0_; (try clear hb); (try clear hb2); (try clear hk); (try clear hi)) | (go_at_call 10; (with_reducible refine (runs_Levels.calls k _ _ l0 t458 _ ?side1 ?side2 A4.out).mono ?_); (case side1 => repeat (first | exact (Kd.C_below HR0.out HB.out) | (with_reducible refine Kd.C_alloc ?_ _) | (with_reducible refine Kd.C_drewN ?_ _) | (with_reducible refine Kd.C_drew ?_))); (case side2 => exact HC0.out); rintro e w6 ⟨v459, rfl, ho0, hb⟩; have n0_ := Aside0.mk (Kd.S_lower ho0 (below_size (by repeat (first | (with_reducible first | exact HB.out | apply below_alloc | apply pw_below_drewN | apply below_drew1) | exact HB.out)))); have n1_ := Aside0.mk (below_step (by repeat (first | (with_reducible first | exact HB.out | apply below_alloc | apply pw_below_drewN | apply below_drew1) | exact HB.out)) hb); clear HB; have HO460 := n0_; have HB := n1_; clear n0_ n1_; (try clear hb); (try clear hb2); (try clear hk); (try clear hi); (try clear ho0); obtain ⟨Ao7, co7, eo7⟩ := Kd.S_slice HO460.out; subst eo7))
    repeat (go_quiet (first | (go_at_call 9; (with_reducible refine (colophonlaw08_works.calls  true _ A2.out).mono ?_); rintro e w5 ⟨rfl, hb⟩; have n0_ := Aside0.mk (below_step (by repeat (first | (with_reducible first | exact HB.out | apply below_alloc | apply pw_below_drewN | apply below_drew1) | exact HB.out)) hb); clear HB; have HB := n0_; clear n0_; (try clear hb); (try clear hb2); (try clear hk); (try clear hi)) | (go_at_call 10; (with_reducible refine (runs_Levels.calls k _ _ l0 t458 _ ?side1 ?side2 A4.out).mono ?_); (case side1 => repeat (first | exact (Kd.C_below HR0.out HB.out) | (with_reducible refine Kd.C_alloc ?_ _) | (with_reducible refine Kd.C_drewN ?_ _) | (with_reducible refine Kd.C_drew ?_))); (case side2 => exact HC0.out); rintro e w6 ⟨v459, rfl, ho0, hb⟩; have n0_ := Aside0.mk (Kd.S_lower ho0 (below_size (by repeat (first | (with_reducible first | exact HB.out | apply below_alloc | apply pw_below_drewN | apply below_drew1) | exact HB.out)))); have n1_ := Aside0.mk (below_step (by repeat (first | (with_reducible first | exact HB.out | apply below_alloc | apply pw_below_drewN | apply below_drew1) | exact HB.out)) hb); clear HB; have HO460 := n0_; have HB := n1_; clear n0_ n1_; (try clear hb); (try clear hb2); (try clear hk); (try clear hi); (try clear ho0); obtain ⟨Ao7, co7, eo7⟩ := Kd.S_slice HO460.out; subst eo7)); try go_wp2_with (first | (go_at_call 9; (with_reducible refine (colophonlaw08_works.calls  true _ A2.out).mono ?_); rintro e w5 ⟨rfl, hb⟩; have n0_ := Aside0.mk (below_step (by repeat (first | (with_reducible first | exact HB.out | apply below_alloc | apply pw_below_drewN | apply below_drew1) | exact HB.out)) hb); clear HB; have HB := n0_; clear n0_; (try clear hb); (try clear hb2); (try clear hk); (try clear hi)) | (go_at_call 10; (with_reducible refine (runs_Levels.calls k _ _ l0 t458 _ ?side1 ?side2 A4.out).mono ?_); (case side1 => repeat (first | exact (Kd.C_below HR0.out HB.out) | (with_reducible refine Kd.C_alloc ?_ _) | (with_reducible refine Kd.C_drewN ?_ _) | (with_reducible refine Kd.C_drew ?_))); (case side2 => exact HC0.out); rintro e w6 ⟨v459, rfl, ho0, hb⟩; have n0_ := Aside0.mk (Kd.S_lower ho0 (below_size (by repeat (first | (with_reducible first | exact HB.out | apply below_alloc | apply pw_below_drewN | apply below_drew1) | exact HB.out)))); have n1_ := Aside0.mk (below_step (by repeat (first | (with_reducible first | exact HB.out | apply below_alloc | apply pw_below_drewN | apply below_drew1) | exact HB.out)) hb); clear HB; have HO460 := n0_; have HB := n1_; clear n0_ n1_; (try clear hb); (try clear hb2); (try clear hk); (try clear hi); (try clear ho0); obtain ⟨Ao7, co7, eo7⟩ := Kd.S_slice HO460.out; subst eo7)))
    go_loopg [3, 4, 14] k (fun kq v3 v4 v14 w' => ∃ (x3_1 : Int) (x4_1 : Int) (x14_1 : Int), v3 = .int .i64 x3_1 ∧ v4 = .int .i64 x4_1 ∧ v14 = .int .i64 x14_1 ∧ Aside0 (colophonlaw08_RunsJoin.l0 kq l0 x3_1 x4_1 t458 (t458.length : Int) x14_1 = some r) ∧ Aside0 (kq ≤ k) ∧ Aside0 (Kd.S (Kd.slice 3 (Kd.int .i64)) 22 w' w.heap.size (fun _ => True) (.slice Ao7 t458.length co7) t458) ∧ Aside0 (Below w.heap.size w w'))
    case atStart => exact ⟨(0), ((-1)), (0), (by first | rfl | (simp; done) | (simp [*]; done)), (by first | rfl | (simp; done) | (simp [*]; done)), (by first | rfl | (simp; done) | (simp [*]; done)), H', ⟨Nat.le_refl _⟩, ⟨by (with_reducible repeat (first | apply Kd.S_alloc | apply Kd.S_drewN | apply Kd.S_drew)); exact HO460.out⟩, ⟨by repeat (first | (with_reducible first | exact HB.out | apply below_alloc | apply pw_below_drewN | apply below_drew1) | exact HB.out)⟩⟩
    case round =>
      clear H'
      try clear p2
      try clear c3
      try clear c7
      obtain ⟨x3_1, x4_1, x14_1, rfl, rfl, rfl, HA, HK1, HO_12, HB⟩ := hrel
      cases gk with
      | zero => exact absurd HA.out (by simp [colophonlaw08_RunsJoin.l0])
      | succ k1 =>
        have H := HA.out
        clear HA
        simp only [colophonlaw08_RunsJoin.l0] at H
        by_cases c8 : x14_1 < (t458.length : Int)
        · rw [if_pos c8] at H
          have c8b0 : decide (x14_1 < (t458.length : Int)) = true := decide_eq_true c8
          clear c8
          by_cases c9 : 0 ≤ x14_1
          · rw [if_pos c9] at H
            have c9b0 : decide (0 ≤ x14_1) = true := decide_eq_true c9
            clear c9
            by_cases c10 : x14_1 < (t458.length : Int)
            · rw [if_pos c10] at H
              have c10b0 : decide (x14_1 < (t458.length : Int)) = true := decide_eq_true c10
              clear c10
              by_cases c11 : ((rd_L1 t458 x14_1).length : Int) = 0
              · rw [if_pos c11] at H
                have c11b0 : (((rd_L1 t458 x14_1).length : Int) == 0) = true := beq_iff_eq.mpr c11
                have c11b1 : (((rd_L1 t458 x14_1).length : Int) != 0) = false := bne_eq_false_iff_eq.mpr c11
                clear c11
                obtain rfl := Option.some.inj H
                have p461 : 0 ≤ (x14_1 : Int) := of_decide_eq_true (by first | (with_reducible assumption) | assumption)
                have q461 : x14_1 < (t458.length : Int) := of_decide_eq_true (by first | (with_reducible assumption) | assumption)
                obtain ⟨ad461, A461_0, c461_0, e461, hx461_0, hl461_0, hi461_0⟩ := at_L1 (Kd.S_reads' HO_12.out).2.2 x14_1 p461 q461
                cases e461
                obtain ⟨ce461, hce461, hMe461, hcc461⟩ := Kd.S_get HO_12.out [] x14_1 p461 (by first | exact q461 | exact of_decide_eq_true (by first | (with_reducible assumption) | assumption) | (have e_ := (Kd.S_reads' HO_12.out).1; omega))
                obtain ⟨ve461_0, rfl, ge461_0⟩ := hMe461
                have hv461_0 := hcc461 0 _ rfl
                rw [Nat.add_zero, show ((Kd.slice 3 (Kd.int .i64))).sz = 1 from rfl, Nat.mul_one] at hv461_0
                replace hv461_0 := Option.some.inj (hv461_0.symm.trans hx461_0)
                rw [hv461_0] at ge461_0
                have HL461_0 := Aside0.mk (show Kd.R (Kd.int .i64) 3 _ _ _ _ (rd_L1 t458 x14_1) from ge461_0)
                clear hv461_0 ge461_0
                clear hcc461 hce461
                have HR461_0 := Aside0.mk hi461_0
                have HC461_0 := Aside0.mk hl461_0
                clear hi461_0 hl461_0
                replace p461 := eq_true p461
                replace q461 := eq_true q461
                go_wp2
                repeat (go_quiet (fail); try go_wp2)
                go_ret
                exact ⟨by first | rfl | (simp [errW_none, errW_some] <;> rfl) | (simp [*, errW_none, errW_some] <;> rfl), by repeat (first | (with_reducible first | exact HB.out | apply below_alloc | apply pw_below_drewN | apply below_drew1) | exact HB.out)⟩
              · rw [if_neg c11] at H
                have c11b0 : (((rd_L1 t458 x14_1).length : Int) == 0) = false := beq_eq_false_iff_ne.mpr c11
                have c11b1 : (((rd_L1 t458 x14_1).length : Int) != 0) = true := bne_iff_ne.mpr c11
                have c11b2 : ¬ ((rd_L1 t458 x14_1) = []) := fun h_ => c11 (by rw [h_]; rfl)
                have H' := Aside0.mk H
                clear H
                have p461 : 0 ≤ (x14_1 : Int) := of_decide_eq_true (by first | (with_reducible assumption) | assumption)
                have q461 : x14_1 < (t458.length : Int) := of_decide_eq_true (by first | (with_reducible assumption) | assumption)
                obtain ⟨ad461, A461_0, c461_0, e461, hx461_0, hl461_0, hi461_0⟩ := at_L1 (Kd.S_reads' HO_12.out).2.2 x14_1 p461 q461
                cases e461
                obtain ⟨ce461, hce461, hMe461, hcc461⟩ := Kd.S_get HO_12.out [] x14_1 p461 (by first | exact q461 | exact of_decide_eq_true (by first | (with_reducible assumption) | assumption) | (have e_ := (Kd.S_reads' HO_12.out).1; omega))
                obtain ⟨ve461_0, rfl, ge461_0⟩ := hMe461
                have hv461_0 := hcc461 0 _ rfl
                rw [Nat.add_zero, show ((Kd.slice 3 (Kd.int .i64))).sz = 1 from rfl, Nat.mul_one] at hv461_0
                replace hv461_0 := Option.some.inj (hv461_0.symm.trans hx461_0)
                rw [hv461_0] at ge461_0
                have HL461_0 := Aside0.mk (show Kd.R (Kd.int .i64) 3 _ _ _ _ (rd_L1 t458 x14_1) from ge461_0)
                clear hv461_0 ge461_0
                clear hcc461 hce461
                have HR461_0 := Aside0.mk hi461_0
                have HC461_0 := Aside0.mk hl461_0
                clear hi461_0 hl461_0
                replace p461 := eq_true p461
                replace q461 := eq_true q461
                go_wp2
                repeat (go_quiet (fail); try go_wp2)
                go_loopg [3, 23] k1 (fun kq v3 v23 w' => ∃ (x3_2 : Int) (x23_2 : Int), v3 = .int .i64 x3_2 ∧ v23 = .int .i64 x23_2 ∧ Aside0 (colophonlaw08_RunsJoin.l1 kq l0 x3_2 x4_1 (rd_L1 t458 x14_1) t458 (t458.length : Int) x14_1 (rd_L1 t458 x14_1) ((rd_L1 t458 x14_1).length : Int) x23_2 = some r) ∧ Aside0 (kq ≤ k1) ∧ Aside0 (Kd.S (Kd.slice 3 (Kd.int .i64)) 22 w' w.heap.size (fun _ => True) (.slice (some ad461) t458.length co7) t458) ∧ Aside0 (Kd.C (Kd.int .i64) w' A461_0 (rd_L1 t458 x14_1).length (rd_L1 t458 x14_1)) ∧ Aside0 (Below w.heap.size w w'))
                case atStart => exact ⟨(x3_1), (0), (by first | rfl | (simp; done) | (simp [*]; done)), (by first | rfl | (simp; done) | (simp [*]; done)), H', ⟨Nat.le_refl _⟩, ⟨by (with_reducible repeat (first | apply Kd.S_alloc | apply Kd.S_drewN | apply Kd.S_drew)); exact HO_12.out⟩, ⟨by repeat (first | (with_reducible exact HR461_0.out) | (with_reducible refine Kd.C_alloc ?_ _) | (with_reducible refine Kd.C_drewN ?_ _) | (with_reducible refine Kd.C_drew ?_) | exact HR461_0.out)⟩, ⟨by repeat (first | (with_reducible first | exact HB.out | apply below_alloc | apply pw_below_drewN | apply below_drew1) | exact HB.out)⟩⟩
                case round =>
                  clear H'
                  try clear c1
                  try clear p2
                  try clear c3
                  try clear c4
                  try clear p4
                  try clear q4
                  try clear hx4
                  try clear c7
                  try clear c8
                  try clear c8b0
                  try clear c9
                  try clear c9b0
                  try clear c10
                  try clear c10b0
                  try clear c11
                  try clear c11b0
                  try clear c11b1
                  try clear c11b2
                  try clear hx461_0
                  try clear p2
                  try clear p461
                  try clear q461
                  obtain ⟨x3_2, x23_2, rfl, rfl, HA, HK2, HO_12, HR461_0, HB⟩ := hrel
                  cases gk with
                  | zero => exact absurd HA.out (by simp [colophonlaw08_RunsJoin.l1])
                  | succ k2 =>
                    have H := HA.out
                    clear HA
                    simp only [colophonlaw08_RunsJoin.l1] at H
                    by_cases c12 : x23_2 < ((rd_L1 t458 x14_1).length : Int)
                    · rw [if_pos c12] at H
                      have c12b0 : decide (x23_2 < ((rd_L1 t458 x14_1).length : Int)) = true := decide_eq_true c12
                      clear c12
                      by_cases c13 : 0 ≤ x23_2
                      · rw [if_pos c13] at H
                        have c13b0 : decide (0 ≤ x23_2) = true := decide_eq_true c13
                        clear c13
                        by_cases c14 : x23_2 < ((rd_L1 t458 x14_1).length : Int)
                        · rw [if_pos c14] at H
                          have c14b0 : decide (x23_2 < ((rd_L1 t458 x14_1).length : Int)) = true := decide_eq_true c14
                          clear c14
                          have H' := Aside0.mk H
                          clear H
                          have p466 : 0 ≤ (x23_2 : Int) := of_decide_eq_true (by first | (with_reducible assumption) | assumption)
                          have q466 : x23_2 < ((rd_L1 t458 x14_1).length : Int) := of_decide_eq_true (by first | (with_reducible assumption) | assumption)
                          obtain ⟨ad466, e466, hx466_0⟩ := Kd.at_int HR461_0.out x23_2 p466 q466
                          cases e466
                          replace p466 := eq_true p466
                          replace q466 := eq_true q466
                          go_wp2
                          repeat (go_quiet (fail); try go_wp2)
                          go_loopg [3] k2 (fun kq v3 w' => ∃ (x3_3 : Int), v3 = .int .i64 x3_3 ∧ Aside0 (colophonlaw08_RunsJoin.l2 kq l0 x3_3 x4_1 (rd_L1 t458 x14_1) (rd (rd_L1 t458 x14_1) x23_2) t458 (t458.length : Int) x14_1 (rd_L1 t458 x14_1) ((rd_L1 t458 x14_1).length : Int) x23_2 = some r) ∧ Aside0 (kq ≤ k2) ∧ Aside0 (Kd.S (Kd.slice 3 (Kd.int .i64)) 22 w' w.heap.size (fun _ => True) (.slice (some ad461) t458.length co7) t458) ∧ Aside0 (Kd.C (Kd.int .i64) w' (some ad466) (rd_L1 t458 x14_1).length (rd_L1 t458 x14_1)) ∧ Aside0 (Below w.heap.size w w'))
                          case atStart => exact ⟨(x3_2), (by first | rfl | (simp; done) | (simp [*]; done)), H', ⟨Nat.le_refl _⟩, ⟨by (with_reducible repeat (first | apply Kd.S_alloc | apply Kd.S_drewN | apply Kd.S_drew)); exact HO_12.out⟩, ⟨by repeat (first | (with_reducible exact HR461_0.out) | (with_reducible refine Kd.C_alloc ?_ _) | (with_reducible refine Kd.C_drewN ?_ _) | (with_reducible refine Kd.C_drew ?_) | exact HR461_0.out)⟩, ⟨by repeat (first | (with_reducible first | exact HB.out | apply below_alloc | apply pw_below_drewN | apply below_drew1) | exact HB.out)⟩⟩
                          case round =>
                            clear H'
                            try clear c1
                            try clear p2
                            try clear c3
                            try clear c4
                            try clear p4
                            try clear q4
                            try clear hx4
                            try clear c7
                            try clear c8
                            try clear c8b0
                            try clear c9
                            try clear c9b0
                            try clear c10
                            try clear c10b0
                            try clear c11
                            try clear c11b0
                            try clear c11b1
                            try clear c11b2
                            try clear c12
                            try clear c12b0
                            try clear c13
                            try clear c13b0
                            try clear c14
                            try clear c14b0
                            try clear hx461_0
                            try clear hx466_0
                            try clear p2
                            try clear p4
                            try clear p461
                            try clear p466
                            try clear q4
                            try clear q461
                            try clear q466
                            obtain ⟨x3_3, rfl, HA, HK3, HO_12, HR461_0, HB⟩ := hrel
                            cases gk with
                            | zero => exact absurd HA.out (by simp [colophonlaw08_RunsJoin.l2])
                            | succ k3 =>
                              have H := HA.out
                              clear HA
                              simp only [colophonlaw08_RunsJoin.l2] at H
                              by_cases c15 : x3_3 < (l0.length : Int)
                              · rw [if_pos c15] at H
                                have c15b0 : decide (x3_3 < (l0.length : Int)) = true := decide_eq_true c15
                                clear c15
                                by_cases c16 : 0 ≤ x3_3
                                · rw [if_pos c16] at H
                                  have c16b0 : decide (0 ≤ x3_3) = true := decide_eq_true c16
                                  clear c16
                                  by_cases c17 : (rd l0 x3_3) < 0
                                  · rw [if_pos c17] at H
                                    have c17b0 : decide ((rd l0 x3_3) < 0) = true := decide_eq_true c17
                                    clear c17
                                    have H' := Aside0.mk H
                                    clear H
                                    have p467 : 0 ≤ (x3_3 : Int) := of_decide_eq_true (by first | (with_reducible assumption) | assumption)
                                    have q467 : x3_3 < (l0.length : Int) := of_decide_eq_true (by first | (with_reducible assumption) | assumption)
                                    obtain ⟨ad467, e467, hx467_0⟩ := Kd.at_int HR0.out x3_3 p467 q467
                                    cases e467
                                    replace hx467_0 := (HB.out.cell (World.block_lt_of_cell? w _ hx467_0)).trans hx467_0
                                    replace p467 := eq_true p467
                                    replace q467 := eq_true q467
                                    go_wp2
                                    repeat (go_quiet (fail); try go_wp2)
                                    go_roundg k3
                                    case measure => have := HK1.out; have := HK2.out; have := HK3.out; omega
                                    case rel => exact ⟨(wrap64 (x3_3 + 1)), (by first | rfl | (simp; done) | (simp [*]; done)), H', ⟨by have := HK1.out; have := HK2.out; have := HK3.out; omega⟩, ⟨by (with_reducible repeat (first | apply Kd.S_alloc | apply Kd.S_drewN | apply Kd.S_drew)); exact HO_12.out⟩, ⟨by repeat (first | (with_reducible exact HR461_0.out) | (with_reducible refine Kd.C_alloc ?_ _) | (with_reducible refine Kd.C_drewN ?_ _) | (with_reducible refine Kd.C_drew ?_) | exact HR461_0.out)⟩, ⟨by repeat (first | (with_reducible first | exact HB.out | apply below_alloc | apply pw_below_drewN | apply below_drew1) | exact HB.out)⟩⟩
                                  · rw [if_neg c17] at H
                                    have c17b0 : decide ((rd l0 x3_3) < 0) = false := decide_eq_false c17
                                    clear c17
                                    by_cases c18 : (rd (rd_L1 t458 x14_1) x23_2) = x3_3
                                    · rw [if_pos c18] at H
                                      have c18b0 : ((rd (rd_L1 t458 x14_1) x23_2) == x3_3) = true := beq_iff_eq.mpr c18
                                      have c18b1 : ((rd (rd_L1 t458 x14_1) x23_2) != x3_3) = false := bne_eq_false_iff_eq.mpr c18
                                      clear c18
                                      by_cases c19 : x3_3 ≥ (l0.length : Int)
                                      · rw [if_pos c19] at H
                                        have c19b0 : decide ((l0.length : Int) ≤ x3_3) = true := decide_eq_true c19
                                        clear c19
                                        obtain rfl := Option.some.inj H
                                        have p467 : 0 ≤ (x3_3 : Int) := of_decide_eq_true (by first | (with_reducible assumption) | assumption)
                                        have q467 : x3_3 < (l0.length : Int) := of_decide_eq_true (by first | (with_reducible assumption) | assumption)
                                        obtain ⟨ad467, e467, hx467_0⟩ := Kd.at_int HR0.out x3_3 p467 q467
                                        cases e467
                                        replace hx467_0 := (HB.out.cell (World.block_lt_of_cell? w _ hx467_0)).trans hx467_0
                                        replace p467 := eq_true p467
                                        replace q467 := eq_true q467
                                        go_wp2
                                        repeat (go_quiet (fail); try go_wp2)
                                        go_ret
                                        exact ⟨by first | rfl | (simp [errW_none, errW_some] <;> rfl) | (simp [*, errW_none, errW_some] <;> rfl), by repeat (first | (with_reducible first | exact HB.out | apply below_alloc | apply pw_below_drewN | apply below_drew1) | exact HB.out)⟩
                                      · rw [if_neg c19] at H
                                        have c19b0 : decide ((l0.length : Int) ≤ x3_3) = false := decide_eq_false c19
                                        clear c19
                                        by_cases c20 : 0 ≤ (rd (rd_L1 t458 x14_1) x23_2)
                                        · rw [if_pos c20] at H
                                          have c20b0 : decide (0 ≤ (rd (rd_L1 t458 x14_1) x23_2)) = true := decide_eq_true c20
                                          clear c20
                                          by_cases c21 : (rd (rd_L1 t458 x14_1) x23_2) < (l0.length : Int)
                                          · rw [if_pos c21] at H
                                            have c21b0 : decide ((rd (rd_L1 t458 x14_1) x23_2) < (l0.length : Int)) = true := decide_eq_true c21
                                            clear c21
                                            by_cases c22 : 0 < ((rd_L1 t458 x14_1).length : Int)
                                            · rw [if_pos c22] at H
                                              have c22b0 : decide (0 < ((rd_L1 t458 x14_1).length : Int)) = true := decide_eq_true c22
                                              have c22b1 : decide (0 < (rd_L1 t458 x14_1).length) = true := decide_eq_true (by omega)
                                              clear c22
                                              by_cases c23 : 0 ≤ (rd (rd_L1 t458 x14_1) 0)
                                              · rw [if_pos c23] at H
                                                have c23b0 : decide (0 ≤ (rd (rd_L1 t458 x14_1) 0)) = true := decide_eq_true c23
                                                clear c23
                                                by_cases c24 : (rd (rd_L1 t458 x14_1) 0) < (l0.length : Int)
                                                · rw [if_pos c24] at H
                                                  have c24b0 : decide ((rd (rd_L1 t458 x14_1) 0) < (l0.length : Int)) = true := decide_eq_true c24
                                                  clear c24
                                                  by_cases c25 : (rd l0 (rd (rd_L1 t458 x14_1) x23_2)) = (rd l0 (rd (rd_L1 t458 x14_1) 0))
                                                  · rw [if_pos c25] at H
                                                    have c25b0 : ((rd l0 (rd (rd_L1 t458 x14_1) x23_2)) == (rd l0 (rd (rd_L1 t458 x14_1) 0))) = true := beq_iff_eq.mpr c25
                                                    have c25b1 : ((rd l0 (rd (rd_L1 t458 x14_1) x23_2)) != (rd l0 (rd (rd_L1 t458 x14_1) 0))) = false := bne_eq_false_iff_eq.mpr c25
                                                    clear c25
                                                    have H' := Aside0.mk H
                                                    clear H
                                                    have p467 : 0 ≤ (x3_3 : Int) := of_decide_eq_true (by first | (with_reducible assumption) | assumption)
                                                    have q467 : x3_3 < (l0.length : Int) := of_decide_eq_true (by first | (with_reducible assumption) | assumption)
                                                    obtain ⟨ad467, e467, hx467_0⟩ := Kd.at_int HR0.out x3_3 p467 q467
                                                    cases e467
                                                    replace hx467_0 := (HB.out.cell (World.block_lt_of_cell? w _ hx467_0)).trans hx467_0
                                                    replace p467 := eq_true p467
                                                    replace q467 := eq_true q467
                                                    have p468 : 0 ≤ ((rd (rd_L1 t458 x14_1) x23_2) : Int) := of_decide_eq_true (by first | (with_reducible assumption) | assumption)
                                                    have q468 : (rd (rd_L1 t458 x14_1) x23_2) < (l0.length : Int) := of_decide_eq_true (by first | (with_reducible assumption) | assumption)
                                                    obtain ⟨ad468, e468, hx468_0⟩ := Kd.at_int HR0.out (rd (rd_L1 t458 x14_1) x23_2) p468 q468
                                                    obtain rfl : ad467 = ad468 := (by injection e468)
                                                    replace hx468_0 := (HB.out.cell (World.block_lt_of_cell? w _ hx468_0)).trans hx468_0
                                                    replace p468 := eq_true p468
                                                    replace q468 := eq_true q468
                                                    have p469 : 0 ≤ (0 : Int) := (by omega)
                                                    have q469 : 0 < ((rd_L1 t458 x14_1).length : Int) := of_decide_eq_true (by first | (with_reducible assumption) | assumption)
                                                    obtain ⟨ad469, e469, hx469_0⟩ := Kd.at_int HR461_0.out 0 p469 q469
                                                    obtain rfl : ad466 = ad469 := (by injection e469)
                                                    have qi469 : (0 < (rd_L1 t458 x14_1).length) = True := eq_true (by omega)
                                                    (try rw [show ((0 : Int)).toNat = 0 from rfl] at hx469_0)
                                                    (try rw [Addr.add_zero'] at hx469_0)
                                                    replace p469 := eq_true p469
                                                    replace q469 := eq_true q469
                                                    have p470 : 0 ≤ ((rd (rd_L1 t458 x14_1) 0) : Int) := of_decide_eq_true (by first | (with_reducible assumption) | assumption)
                                                    have q470 : (rd (rd_L1 t458 x14_1) 0) < (l0.length : Int) := of_decide_eq_true (by first | (with_reducible assumption) | assumption)
                                                    obtain ⟨ad470, e470, hx470_0⟩ := Kd.at_int HR0.out (rd (rd_L1 t458 x14_1) 0) p470 q470
                                                    obtain rfl : ad467 = ad470 := (by injection e470)
                                                    replace hx470_0 := (HB.out.cell (World.block_lt_of_cell? w _ hx470_0)).trans hx470_0
                                                    replace p470 := eq_true p470
                                                    replace q470 := eq_true q470
                                                    go_wp2
                                                    repeat (go_quiet (fail); try go_wp2)
                                                    go_roundg k3
                                                    case measure => have := HK1.out; have := HK2.out; have := HK3.out; omega
                                                    case rel => exact ⟨(wrap64 (x3_3 + 1)), (wrap64 (x23_2 + 1)), (by first | rfl | (simp; done) | (simp [*]; done)), (by first | rfl | (simp; done) | (simp [*]; done)), H', ⟨by have := HK1.out; have := HK2.out; have := HK3.out; omega⟩, ⟨by (with_reducible repeat (first | apply Kd.S_alloc | apply Kd.S_drewN | apply Kd.S_drew)); exact HO_12.out⟩, ⟨by repeat (first | (with_reducible exact HR461_0.out) | (with_reducible refine Kd.C_alloc ?_ _) | (with_reducible refine Kd.C_drewN ?_ _) | (with_reducible refine Kd.C_drew ?_) | exact HR461_0.out)⟩, ⟨by repeat (first | (with_reducible first | exact HB.out | apply below_alloc | apply pw_below_drewN | apply below_drew1) | exact HB.out)⟩⟩
                                                  · rw [if_neg c25] at H
                                                    have c25b0 : ((rd l0 (rd (rd_L1 t458 x14_1) x23_2)) == (rd l0 (rd (rd_L1 t458 x14_1) 0))) = false := beq_eq_false_iff_ne.mpr c25
                                                    have c25b1 : ((rd l0 (rd (rd_L1 t458 x14_1) x23_2)) != (rd l0 (rd (rd_L1 t458 x14_1) 0))) = true := bne_iff_ne.mpr c25
                                                    obtain rfl := Option.some.inj H
                                                    have p467 : 0 ≤ (x3_3 : Int) := of_decide_eq_true (by first | (with_reducible assumption) | assumption)
                                                    have q467 : x3_3 < (l0.length : Int) := of_decide_eq_true (by first | (with_reducible assumption) | assumption)
                                                    obtain ⟨ad467, e467, hx467_0⟩ := Kd.at_int HR0.out x3_3 p467 q467
                                                    cases e467
                                                    replace hx467_0 := (HB.out.cell (World.block_lt_of_cell? w _ hx467_0)).trans hx467_0
                                                    replace p467 := eq_true p467
                                                    replace q467 := eq_true q467
                                                    have p468 : 0 ≤ ((rd (rd_L1 t458 x14_1) x23_2) : Int) := of_decide_eq_true (by first | (with_reducible assumption) | assumption)
                                                    have q468 : (rd (rd_L1 t458 x14_1) x23_2) < (l0.length : Int) := of_decide_eq_true (by first | (with_reducible assumption) | assumption)
                                                    obtain ⟨ad468, e468, hx468_0⟩ := Kd.at_int HR0.out (rd (rd_L1 t458 x14_1) x23_2) p468 q468
                                                    obtain rfl : ad467 = ad468 := (by injection e468)
                                                    replace hx468_0 := (HB.out.cell (World.block_lt_of_cell? w _ hx468_0)).trans hx468_0
                                                    replace p468 := eq_true p468
                                                    replace q468 := eq_true q468
                                                    have p469 : 0 ≤ (0 : Int) := (by omega)
                                                    have q469 : 0 < ((rd_L1 t458 x14_1).length : Int) := of_decide_eq_true (by first | (with_reducible assumption) | assumption)
                                                    obtain ⟨ad469, e469, hx469_0⟩ := Kd.at_int HR461_0.out 0 p469 q469
                                                    obtain rfl : ad466 = ad469 := (by injection e469)
                                                    have qi469 : (0 < (rd_L1 t458 x14_1).length) = True := eq_true (by omega)
                                                    (try rw [show ((0 : Int)).toNat = 0 from rfl] at hx469_0)
                                                    (try rw [Addr.add_zero'] at hx469_0)
                                                    replace p469 := eq_true p469
                                                    replace q469 := eq_true q469
                                                    have p470 : 0 ≤ ((rd (rd_L1 t458 x14_1) 0) : Int) := of_decide_eq_true (by first | (with_reducible assumption) | assumption)
                                                    have q470 : (rd (rd_L1 t458 x14_1) 0) < (l0.length : Int) := of_decide_eq_true (by first | (with_reducible assumption) | assumption)
                                                    obtain ⟨ad470, e470, hx470_0⟩ := Kd.at_int HR0.out (rd (rd_L1 t458 x14_1) 0) p470 q470
                                                    obtain rfl : ad467 = ad470 := (by injection e470)
                                                    replace hx470_0 := (HB.out.cell (World.block_lt_of_cell? w _ hx470_0)).trans hx470_0
                                                    replace p470 := eq_true p470
                                                    replace q470 := eq_true q470
                                                    go_wp2
                                                    repeat (go_quiet (fail); try go_wp2)
                                                    go_ret
                                                    exact ⟨by first | rfl | (simp [errW_none, errW_some] <;> rfl) | (simp [*, errW_none, errW_some] <;> rfl), by repeat (first | (with_reducible first | exact HB.out | apply below_alloc | apply pw_below_drewN | apply below_drew1) | exact HB.out)⟩
                                                · rw [if_neg c24] at H
                                                  exact absurd H (by simp)
                                              · rw [if_neg c23] at H
                                                exact absurd H (by simp)
                                            · rw [if_neg c22] at H
                                              exact absurd H (by simp)
                                          · rw [if_neg c21] at H
                                            exact absurd H (by simp)
                                        · rw [if_neg c20] at H
                                          exact absurd H (by simp)
                                    · rw [if_neg c18] at H
                                      have c18b0 : ((rd (rd_L1 t458 x14_1) x23_2) == x3_3) = false := beq_eq_false_iff_ne.mpr c18
                                      have c18b1 : ((rd (rd_L1 t458 x14_1) x23_2) != x3_3) = true := bne_iff_ne.mpr c18
                                      obtain rfl := Option.some.inj H
                                      have p467 : 0 ≤ (x3_3 : Int) := of_decide_eq_true (by first | (with_reducible assumption) | assumption)
                                      have q467 : x3_3 < (l0.length : Int) := of_decide_eq_true (by first | (with_reducible assumption) | assumption)
                                      obtain ⟨ad467, e467, hx467_0⟩ := Kd.at_int HR0.out x3_3 p467 q467
                                      cases e467
                                      replace hx467_0 := (HB.out.cell (World.block_lt_of_cell? w _ hx467_0)).trans hx467_0
                                      replace p467 := eq_true p467
                                      replace q467 := eq_true q467
                                      go_wp2
                                      repeat (go_quiet (fail); try go_wp2)
                                      go_ret
                                      exact ⟨by first | rfl | (simp [errW_none, errW_some] <;> rfl) | (simp [*, errW_none, errW_some] <;> rfl), by repeat (first | (with_reducible first | exact HB.out | apply below_alloc | apply pw_below_drewN | apply below_drew1) | exact HB.out)⟩
                                · rw [if_neg c16] at H
                                  exact absurd H (by simp)
                              · rw [if_neg c15] at H
                                have c15b0 : decide (x3_3 < (l0.length : Int)) = false := decide_eq_false c15
                                clear c15
                                by_cases c26 : (rd (rd_L1 t458 x14_1) x23_2) = x3_3
                                · rw [if_pos c26] at H
                                  have c26b0 : ((rd (rd_L1 t458 x14_1) x23_2) == x3_3) = true := beq_iff_eq.mpr c26
                                  have c26b1 : ((rd (rd_L1 t458 x14_1) x23_2) != x3_3) = false := bne_eq_false_iff_eq.mpr c26
                                  clear c26
                                  by_cases c27 : x3_3 ≥ (l0.length : Int)
                                  · rw [if_pos c27] at H
                                    have c27b0 : decide ((l0.length : Int) ≤ x3_3) = true := decide_eq_true c27
                                    clear c27
                                    obtain rfl := Option.some.inj H
                                    go_wp2
                                    repeat (go_quiet (fail); try go_wp2)
                                    go_ret
                                    exact ⟨by first | rfl | (simp [errW_none, errW_some] <;> rfl) | (simp [*, errW_none, errW_some] <;> rfl), by repeat (first | (with_reducible first | exact HB.out | apply below_alloc | apply pw_below_drewN | apply below_drew1) | exact HB.out)⟩
                                  · rw [if_neg c27] at H
                                    have c27b0 : decide ((l0.length : Int) ≤ x3_3) = false := decide_eq_false c27
                                    clear c27
                                    by_cases c28 : 0 ≤ (rd (rd_L1 t458 x14_1) x23_2)
                                    · rw [if_pos c28] at H
                                      have c28b0 : decide (0 ≤ (rd (rd_L1 t458 x14_1) x23_2)) = true := decide_eq_true c28
                                      clear c28
                                      by_cases c29 : (rd (rd_L1 t458 x14_1) x23_2) < (l0.length : Int)
                                      · rw [if_pos c29] at H
                                        have c29b0 : decide ((rd (rd_L1 t458 x14_1) x23_2) < (l0.length : Int)) = true := decide_eq_true c29
                                        clear c29
                                        by_cases c30 : 0 < ((rd_L1 t458 x14_1).length : Int)
                                        · rw [if_pos c30] at H
                                          have c30b0 : decide (0 < ((rd_L1 t458 x14_1).length : Int)) = true := decide_eq_true c30
                                          have c30b1 : decide (0 < (rd_L1 t458 x14_1).length) = true := decide_eq_true (by omega)
                                          clear c30
                                          by_cases c31 : 0 ≤ (rd (rd_L1 t458 x14_1) 0)
                                          · rw [if_pos c31] at H
                                            have c31b0 : decide (0 ≤ (rd (rd_L1 t458 x14_1) 0)) = true := decide_eq_true c31
                                            clear c31
                                            by_cases c32 : (rd (rd_L1 t458 x14_1) 0) < (l0.length : Int)
                                            · rw [if_pos c32] at H
                                              have c32b0 : decide ((rd (rd_L1 t458 x14_1) 0) < (l0.length : Int)) = true := decide_eq_true c32
                                              clear c32
                                              by_cases c33 : (rd l0 (rd (rd_L1 t458 x14_1) x23_2)) = (rd l0 (rd (rd_L1 t458 x14_1) 0))
                                              · rw [if_pos c33] at H
                                                have c33b0 : ((rd l0 (rd (rd_L1 t458 x14_1) x23_2)) == (rd l0 (rd (rd_L1 t458 x14_1) 0))) = true := beq_iff_eq.mpr c33
                                                have c33b1 : ((rd l0 (rd (rd_L1 t458 x14_1) x23_2)) != (rd l0 (rd (rd_L1 t458 x14_1) 0))) = false := bne_eq_false_iff_eq.mpr c33
                                                clear c33
                                                have H' := Aside0.mk H
                                                clear H
                                                have p471 : 0 ≤ ((rd (rd_L1 t458 x14_1) x23_2) : Int) := of_decide_eq_true (by first | (with_reducible assumption) | assumption)
                                                have q471 : (rd (rd_L1 t458 x14_1) x23_2) < (l0.length : Int) := of_decide_eq_true (by first | (with_reducible assumption) | assumption)
                                                obtain ⟨ad471, e471, hx471_0⟩ := Kd.at_int HR0.out (rd (rd_L1 t458 x14_1) x23_2) p471 q471
                                                cases e471
                                                replace hx471_0 := (HB.out.cell (World.block_lt_of_cell? w _ hx471_0)).trans hx471_0
                                                replace p471 := eq_true p471
                                                replace q471 := eq_true q471
                                                have p472 : 0 ≤ (0 : Int) := (by omega)
                                                have q472 : 0 < ((rd_L1 t458 x14_1).length : Int) := of_decide_eq_true (by first | (with_reducible assumption) | assumption)
                                                obtain ⟨ad472, e472, hx472_0⟩ := Kd.at_int HR461_0.out 0 p472 q472
                                                obtain rfl : ad466 = ad472 := (by injection e472)
                                                have qi472 : (0 < (rd_L1 t458 x14_1).length) = True := eq_true (by omega)
                                                (try rw [show ((0 : Int)).toNat = 0 from rfl] at hx472_0)
                                                (try rw [Addr.add_zero'] at hx472_0)
                                                replace p472 := eq_true p472
                                                replace q472 := eq_true q472
                                                have p473 : 0 ≤ ((rd (rd_L1 t458 x14_1) 0) : Int) := of_decide_eq_true (by first | (with_reducible assumption) | assumption)
                                                have q473 : (rd (rd_L1 t458 x14_1) 0) < (l0.length : Int) := of_decide_eq_true (by first | (with_reducible assumption) | assumption)
                                                obtain ⟨ad473, e473, hx473_0⟩ := Kd.at_int HR0.out (rd (rd_L1 t458 x14_1) 0) p473 q473
                                                obtain rfl : ad471 = ad473 := (by injection e473)
                                                replace hx473_0 := (HB.out.cell (World.block_lt_of_cell? w _ hx473_0)).trans hx473_0
                                                replace p473 := eq_true p473
                                                replace q473 := eq_true q473
                                                go_wp2
                                                repeat (go_quiet (fail); try go_wp2)
                                                go_roundg k3
                                                case measure => have := HK1.out; have := HK2.out; have := HK3.out; omega
                                                case rel => exact ⟨(wrap64 (x3_3 + 1)), (wrap64 (x23_2 + 1)), (by first | rfl | (simp; done) | (simp [*]; done)), (by first | rfl | (simp; done) | (simp [*]; done)), H', ⟨by have := HK1.out; have := HK2.out; have := HK3.out; omega⟩, ⟨by (with_reducible repeat (first | apply Kd.S_alloc | apply Kd.S_drewN | apply Kd.S_drew)); exact HO_12.out⟩, ⟨by repeat (first | (with_reducible exact HR461_0.out) | (with_reducible refine Kd.C_alloc ?_ _) | (with_reducible refine Kd.C_drewN ?_ _) | (with_reducible refine Kd.C_drew ?_) | exact HR461_0.out)⟩, ⟨by repeat (first | (with_reducible first | exact HB.out | apply below_alloc | apply pw_below_drewN | apply below_drew1) | exact HB.out)⟩⟩
                                              · rw [if_neg c33] at H
                                                have c33b0 : ((rd l0 (rd (rd_L1 t458 x14_1) x23_2)) == (rd l0 (rd (rd_L1 t458 x14_1) 0))) = false := beq_eq_false_iff_ne.mpr c33
                                                have c33b1 : ((rd l0 (rd (rd_L1 t458 x14_1) x23_2)) != (rd l0 (rd (rd_L1 t458 x14_1) 0))) = true := bne_iff_ne.mpr c33
                                                obtain rfl := Option.some.inj H
                                                have p471 : 0 ≤ ((rd (rd_L1 t458 x14_1) x23_2) : Int) := of_decide_eq_true (by first | (with_reducible assumption) | assumption)
                                                have q471 : (rd (rd_L1 t458 x14_1) x23_2) < (l0.length : Int) := of_decide_eq_true (by first | (with_reducible assumption) | assumption)
                                                obtain ⟨ad471, e471, hx471_0⟩ := Kd.at_int HR0.out (rd (rd_L1 t458 x14_1) x23_2) p471 q471
                                                cases e471
                                                replace hx471_0 := (HB.out.cell (World.block_lt_of_cell? w _ hx471_0)).trans hx471_0
                                                replace p471 := eq_true p471
                                                replace q471 := eq_true q471
                                                have p472 : 0 ≤ (0 : Int) := (by omega)
                                                have q472 : 0 < ((rd_L1 t458 x14_1).length : Int) := of_decide_eq_true (by first | (with_reducible assumption) | assumption)
                                                obtain ⟨ad472, e472, hx472_0⟩ := Kd.at_int HR461_0.out 0 p472 q472
                                                obtain rfl : ad466 = ad472 := (by injection e472)
                                                have qi472 : (0 < (rd_L1 t458 x14_1).length) = True := eq_true (by omega)
                                                (try rw [show ((0 : Int)).toNat = 0 from rfl] at hx472_0)
                                                (try rw [Addr.add_zero'] at hx472_0)
                                                replace p472 := eq_true p472
                                                replace q472 := eq_true q472
                                                have p473 : 0 ≤ ((rd (rd_L1 t458 x14_1) 0) : Int) := of_decide_eq_true (by first | (with_reducible assumption) | assumption)
                                                have q473 : (rd (rd_L1 t458 x14_1) 0) < (l0.length : Int) := of_decide_eq_true (by first | (with_reducible assumption) | assumption)
                                                obtain ⟨ad473, e473, hx473_0⟩ := Kd.at_int HR0.out (rd (rd_L1 t458 x14_1) 0) p473 q473
                                                obtain rfl : ad471 = ad473 := (by injection e473)
                                                replace hx473_0 := (HB.out.cell (World.block_lt_of_cell? w _ hx473_0)).trans hx473_0
                                                replace p473 := eq_true p473
                                                replace q473 := eq_true q473
                                                go_wp2
                                                repeat (go_quiet (fail); try go_wp2)
                                                go_ret
                                                exact ⟨by first | rfl | (simp [errW_none, errW_some] <;> rfl) | (simp [*, errW_none, errW_some] <;> rfl), by repeat (first | (with_reducible first | exact HB.out | apply below_alloc | apply pw_below_drewN | apply below_drew1) | exact HB.out)⟩
                                            · rw [if_neg c32] at H
                                              exact absurd H (by simp)
                                          · rw [if_neg c31] at H
                                            exact absurd H (by simp)
                                        · rw [if_neg c30] at H
                                          exact absurd H (by simp)
                                      · rw [if_neg c29] at H
                                        exact absurd H (by simp)
                                    · rw [if_neg c28] at H
                                      exact absurd H (by simp)
                                · rw [if_neg c26] at H
                                  have c26b0 : ((rd (rd_L1 t458 x14_1) x23_2) == x3_3) = false := beq_eq_false_iff_ne.mpr c26
                                  have c26b1 : ((rd (rd_L1 t458 x14_1) x23_2) != x3_3) = true := bne_iff_ne.mpr c26
                                  obtain rfl := Option.some.inj H
                                  go_wp2
                                  repeat (go_quiet (fail); try go_wp2)
                                  go_ret
                                  exact ⟨by first | rfl | (simp [errW_none, errW_some] <;> rfl) | (simp [*, errW_none, errW_some] <;> rfl), by repeat (first | (with_reducible first | exact HB.out | apply below_alloc | apply pw_below_drewN | apply below_drew1) | exact HB.out)⟩
                        · rw [if_neg c14] at H
                          exact absurd H (by simp)
                      · rw [if_neg c13] at H
                        exact absurd H (by simp)
                    · rw [if_neg c12] at H
                      have c12b0 : decide (x23_2 < ((rd_L1 t458 x14_1).length : Int)) = false := decide_eq_false c12
                      clear c12
                      by_cases c34 : 0 < ((rd_L1 t458 x14_1).length : Int)
                      · rw [if_pos c34] at H
                        have c34b0 : decide (0 < ((rd_L1 t458 x14_1).length : Int)) = true := decide_eq_true c34
                        have c34b1 : decide (0 < (rd_L1 t458 x14_1).length) = true := decide_eq_true (by omega)
                        clear c34
                        by_cases c35 : 0 ≤ (rd (rd_L1 t458 x14_1) 0)
                        · rw [if_pos c35] at H
                          have c35b0 : decide (0 ≤ (rd (rd_L1 t458 x14_1) 0)) = true := decide_eq_true c35
                          clear c35
                          by_cases c36 : (rd (rd_L1 t458 x14_1) 0) < (l0.length : Int)
                          · rw [if_pos c36] at H
                            have c36b0 : decide ((rd (rd_L1 t458 x14_1) 0) < (l0.length : Int)) = true := decide_eq_true c36
                            clear c36
                            by_cases c37 : (rd l0 (rd (rd_L1 t458 x14_1) 0)) = x4_1
                            · rw [if_pos c37] at H
                              have c37b0 : ((rd l0 (rd (rd_L1 t458 x14_1) 0)) == x4_1) = true := beq_iff_eq.mpr c37
                              have c37b1 : ((rd l0 (rd (rd_L1 t458 x14_1) 0)) != x4_1) = false := bne_eq_false_iff_eq.mpr c37
                              clear c37
                              obtain rfl := Option.some.inj H
                              have p462 : 0 ≤ (0 : Int) := (by omega)
                              have q462 : 0 < ((rd_L1 t458 x14_1).length : Int) := of_decide_eq_true (by first | (with_reducible assumption) | assumption)
                              obtain ⟨ad462, e462, hx462_0⟩ := Kd.at_int HR461_0.out 0 p462 q462
                              cases e462
                              have qi462 : (0 < (rd_L1 t458 x14_1).length) = True := eq_true (by omega)
                              (try rw [show ((0 : Int)).toNat = 0 from rfl] at hx462_0)
                              (try rw [Addr.add_zero'] at hx462_0)
                              replace p462 := eq_true p462
                              replace q462 := eq_true q462
                              have p463 : 0 ≤ ((rd (rd_L1 t458 x14_1) 0) : Int) := of_decide_eq_true (by first | (with_reducible assumption) | assumption)
                              have q463 : (rd (rd_L1 t458 x14_1) 0) < (l0.length : Int) := of_decide_eq_true (by first | (with_reducible assumption) | assumption)
                              obtain ⟨ad463, e463, hx463_0⟩ := Kd.at_int HR0.out (rd (rd_L1 t458 x14_1) 0) p463 q463
                              cases e463
                              replace hx463_0 := (HB.out.cell (World.block_lt_of_cell? w _ hx463_0)).trans hx463_0
                              replace p463 := eq_true p463
                              replace q463 := eq_true q463
                              go_wp2
                              repeat (go_quiet (fail); try go_wp2)
                              go_ret
                              exact ⟨by first | rfl | (simp [errW_none, errW_some] <;> rfl) | (simp [*, errW_none, errW_some] <;> rfl), by repeat (first | (with_reducible first | exact HB.out | apply below_alloc | apply pw_below_drewN | apply below_drew1) | exact HB.out)⟩
                            · rw [if_neg c37] at H
                              have c37b0 : ((rd l0 (rd (rd_L1 t458 x14_1) 0)) == x4_1) = false := beq_eq_false_iff_ne.mpr c37
                              have c37b1 : ((rd l0 (rd (rd_L1 t458 x14_1) 0)) != x4_1) = true := bne_iff_ne.mpr c37
                              have H' := Aside0.mk H
                              clear H
                              have p462 : 0 ≤ (0 : Int) := (by omega)
                              have q462 : 0 < ((rd_L1 t458 x14_1).length : Int) := of_decide_eq_true (by first | (with_reducible assumption) | assumption)
                              obtain ⟨ad462, e462, hx462_0⟩ := Kd.at_int HR461_0.out 0 p462 q462
                              cases e462
                              have qi462 : (0 < (rd_L1 t458 x14_1).length) = True := eq_true (by omega)
                              (try rw [show ((0 : Int)).toNat = 0 from rfl] at hx462_0)
                              (try rw [Addr.add_zero'] at hx462_0)
                              replace p462 := eq_true p462
                              replace q462 := eq_true q462
                              have p463 : 0 ≤ ((rd (rd_L1 t458 x14_1) 0) : Int) := of_decide_eq_true (by first | (with_reducible assumption) | assumption)
                              have q463 : (rd (rd_L1 t458 x14_1) 0) < (l0.length : Int) := of_decide_eq_true (by first | (with_reducible assumption) | assumption)
                              obtain ⟨ad463, e463, hx463_0⟩ := Kd.at_int HR0.out (rd (rd_L1 t458 x14_1) 0) p463 q463
                              cases e463
                              replace hx463_0 := (HB.out.cell (World.block_lt_of_cell? w _ hx463_0)).trans hx463_0
                              replace p463 := eq_true p463
                              replace q463 := eq_true q463
                              have p464 : 0 ≤ (0 : Int) := (by omega)
                              have q464 : 0 < ((rd_L1 t458 x14_1).length : Int) := of_decide_eq_true (by first | (with_reducible assumption) | assumption)
                              obtain ⟨ad464, e464, hx464_0⟩ := Kd.at_int HR461_0.out 0 p464 q464
                              obtain rfl : ad462 = ad464 := (by injection e464)
                              have qi464 : (0 < (rd_L1 t458 x14_1).length) = True := eq_true (by omega)
                              (try rw [show ((0 : Int)).toNat = 0 from rfl] at hx464_0)
                              (try rw [Addr.add_zero'] at hx464_0)
                              replace p464 := eq_true p464
                              replace q464 := eq_true q464
                              have p465 : 0 ≤ ((rd (rd_L1 t458 x14_1) 0) : Int) := of_decide_eq_true (by first | (with_reducible assumption) | assumption)
                              have q465 : (rd (rd_L1 t458 x14_1) 0) < (l0.length : Int) := of_decide_eq_true (by first | (with_reducible assumption) | assumption)
                              obtain ⟨ad465, e465, hx465_0⟩ := Kd.at_int HR0.out (rd (rd_L1 t458 x14_1) 0) p465 q465
                              obtain rfl : ad463 = ad465 := (by injection e465)
                              replace hx465_0 := (HB.out.cell (World.block_lt_of_cell? w _ hx465_0)).trans hx465_0
                              replace p465 := eq_true p465
                              replace q465 := eq_true q465
                              go_wp2
                              repeat (go_quiet (fail); try go_wp2)
                              go_roundg k2
                              case measure => have := HK1.out; have := HK2.out; omega
                              case rel => exact ⟨(x3_2), (rd l0 (rd (rd_L1 t458 x14_1) 0)), (wrap64 (x14_1 + 1)), (by first | rfl | (simp; done) | (simp [*]; done)), (by first | rfl | (simp; done) | (simp [*]; done)), (by first | rfl | (simp; done) | (simp [*]; done)), H', ⟨by have := HK1.out; have := HK2.out; omega⟩, ⟨by (with_reducible repeat (first | apply Kd.S_alloc | apply Kd.S_drewN | apply Kd.S_drew)); exact HO_12.out⟩, ⟨by repeat (first | (with_reducible first | exact HB.out | apply below_alloc | apply pw_below_drewN | apply below_drew1) | exact HB.out)⟩⟩
                          · rw [if_neg c36] at H
                            exact absurd H (by simp)
                        · rw [if_neg c35] at H
                          exact absurd H (by simp)
                      · rw [if_neg c34] at H
                        exact absurd H (by simp)
            · rw [if_neg c10] at H
              exact absurd H (by simp)
          · rw [if_neg c9] at H
            exact absurd H (by simp)
        · rw [if_neg c8] at H
          have c8b0 : decide (x14_1 < (t458.length : Int)) = false := decide_eq_false c8
          clear c8
          have H' := Aside0.mk H
          clear H
          go_wp2
          repeat (go_quiet (fail); try go_wp2)
          go_loopg [3] k1 (fun kq v3 w' => ∃ (x3_2 : Int), v3 = .int .i64 x3_2 ∧ Aside0 (colophonlaw08_RunsJoin.l3 kq l0 x3_2 = some r) ∧ Aside0 (kq ≤ k1) ∧ Aside0 (Below w.heap.size w w'))
          case atStart => exact ⟨(x3_1), (by first | rfl | (simp; done) | (simp [*]; done)), H', ⟨Nat.le_refl _⟩, ⟨by repeat (first | (with_reducible first | exact HB.out | apply below_alloc | apply pw_below_drewN | apply below_drew1) | exact HB.out)⟩⟩
          case round =>
            clear H'
            try clear c1
            try clear c2
            try clear p2
            try clear c3
            try clear c4
            try clear p4
            try clear q4
            try clear hx4
            try clear qi4
            try clear p6
            try clear c7
            try clear c8
            try clear c8b0
            try clear c9
            try clear c9b0
            try clear c10
            try clear c10b0
            try clear c11
            try clear c11b0
            try clear c11b1
            try clear c11b2
            try clear c12
            try clear c12b0
            try clear c13
            try clear c13b0
            try clear c14
            try clear c14b0
            try clear c15
            try clear c15b0
            try clear c16
            try clear c16b0
            try clear c17
            try clear c17b0
            try clear c18
            try clear c18b0
            try clear c18b1
            try clear c19
            try clear c19b0
            try clear c20
            try clear c20b0
            try clear c21
            try clear c21b0
            try clear c22
            try clear c22b0
            try clear c22b1
            try clear c23
            try clear c23b0
            try clear c24
            try clear c24b0
            try clear c25
            try clear c25b0
            try clear c25b1
            try clear c26
            try clear c26b0
            try clear c26b1
            try clear c27
            try clear c27b0
            try clear c28
            try clear c28b0
            try clear c29
            try clear c29b0
            try clear c30
            try clear c30b0
            try clear c30b1
            try clear c31
            try clear c31b0
            try clear c32
            try clear c32b0
            try clear c33
            try clear c33b0
            try clear c33b1
            try clear c34
            try clear c34b0
            try clear c34b1
            try clear c35
            try clear c35b0
            try clear c36
            try clear c36b0
            try clear c37
            try clear c37b0
            try clear c37b1
            try clear hx461_0
            try clear hx462_0
            try clear hx463_0
            try clear hx464_0
            try clear hx465_0
            try clear hx466_0
            try clear hx467_0
            try clear hx468_0
            try clear hx469_0
            try clear hx470_0
            try clear hx471_0
            try clear hx472_0
            try clear hx473_0
            try clear p2
            try clear p4
            try clear p461
            try clear p462
            try clear p463
            try clear p464
            try clear p465
            try clear p466
            try clear p467
            try clear p468
            try clear p469
            try clear p470
            try clear p471
            try clear p472
            try clear p473
            try clear q4
            try clear q461
            try clear q462
            try clear q463
            try clear q464
            try clear q465
            try clear q466
            try clear q467
            try clear q468
            try clear q469
            try clear q470
            try clear q471
            try clear q472
            try clear q473
            obtain ⟨x3_2, rfl, HA, HK2, HB⟩ := hrel
            cases gk with
            | zero => exact absurd HA.out (by simp [colophonlaw08_RunsJoin.l3])
            | succ k2 =>
              have H := HA.out
              clear HA
              simp only [colophonlaw08_RunsJoin.l3] at H
              by_cases c38 : x3_2 < (l0.length : Int)
              · rw [if_pos c38] at H
                have c38b0 : decide (x3_2 < (l0.length : Int)) = true := decide_eq_true c38
                clear c38
                by_cases c39 : 0 ≤ x3_2
                · rw [if_pos c39] at H
                  have c39b0 : decide (0 ≤ x3_2) = true := decide_eq_true c39
                  clear c39
                  by_cases c40 : (rd l0 x3_2) < 0
                  · rw [if_pos c40] at H
                    have c40b0 : decide ((rd l0 x3_2) < 0) = true := decide_eq_true c40
                    clear c40
                    have H' := Aside0.mk H
                    clear H
                    have p474 : 0 ≤ (x3_2 : Int) := of_decide_eq_true (by first | (with_reducible assumption) | assumption)
                    have q474 : x3_2 < (l0.length : Int) := of_decide_eq_true (by first | (with_reducible assumption) | assumption)
                    obtain ⟨ad474, e474, hx474_0⟩ := Kd.at_int HR0.out x3_2 p474 q474
                    cases e474
                    replace hx474_0 := (HB.out.cell (World.block_lt_of_cell? w _ hx474_0)).trans hx474_0
                    replace p474 := eq_true p474
                    replace q474 := eq_true q474
                    go_wp2
                    repeat (go_quiet (fail); try go_wp2)
                    go_roundg k2
                    case measure => have := HK1.out; have := HK2.out; omega
                    case rel => exact ⟨(wrap64 (x3_2 + 1)), (by first | rfl | (simp; done) | (simp [*]; done)), H', ⟨by have := HK1.out; have := HK2.out; omega⟩, ⟨by repeat (first | (with_reducible first | exact HB.out | apply below_alloc | apply pw_below_drewN | apply below_drew1) | exact HB.out)⟩⟩
                  · rw [if_neg c40] at H
                    have c40b0 : decide ((rd l0 x3_2) < 0) = false := decide_eq_false c40
                    clear c40
                    obtain rfl := Option.some.inj H
                    have p474 : 0 ≤ (x3_2 : Int) := of_decide_eq_true (by first | (with_reducible assumption) | assumption)
                    have q474 : x3_2 < (l0.length : Int) := of_decide_eq_true (by first | (with_reducible assumption) | assumption)
                    obtain ⟨ad474, e474, hx474_0⟩ := Kd.at_int HR0.out x3_2 p474 q474
                    cases e474
                    replace hx474_0 := (HB.out.cell (World.block_lt_of_cell? w _ hx474_0)).trans hx474_0
                    replace p474 := eq_true p474
                    replace q474 := eq_true q474
                    go_wp2
                    repeat (go_quiet (fail); try go_wp2)
                    go_ret
                    exact ⟨by first | rfl | (simp [errW_none, errW_some] <;> rfl) | (simp [*, errW_none, errW_some] <;> rfl), by repeat (first | (with_reducible first | exact HB.out | apply below_alloc | apply pw_below_drewN | apply below_drew1) | exact HB.out)⟩
                · rw [if_neg c39] at H
                  exact absurd H (by simp)
              · rw [if_neg c38] at H
                have c38b0 : decide (x3_2 < (l0.length : Int)) = false := decide_eq_false c38
                clear c38
                obtain rfl := Option.some.inj H
                go_wp2
                repeat (go_quiet (fail); try go_wp2)
                go_ret
                exact ⟨by first | rfl | (simp [errW_none, errW_some] <;> rfl) | (simp [*, errW_none, errW_some] <;> rfl), by repeat (first | (with_reducible first | exact HB.out | apply below_alloc | apply pw_below_drewN | apply below_drew1) | exact HB.out)⟩
  · replace c3 := Bool.eq_false_iff.mpr c3
    subst c3
    have H1 : (some false) = some r := by rw [if_neg (show ¬ (false = true) by decide)] at H; exact H
    clear H
    have H := H1
    clear H1
    obtain rfl := Option.some.inj H
    go_enter Try.func7, Try.ntmps7
    go_wp2_with (first | (go_at_call 9; (with_reducible refine (colophonlaw08_works.calls  false _ A2.out).mono ?_); rintro e w41 ⟨rfl, hb⟩; have n0_ := Aside0.mk (below_step (by repeat (first | (with_reducible first | exact HB.out | apply below_alloc | apply pw_below_drewN | apply below_drew1) | exact HB.out)) hb); clear HB; have HB := n0_; clear n0_; (try clear hb); (try clear hb2); (try clear hk); (try clear hi)))
    repeat (go_quiet (first | (go_at_call 9; (with_reducible refine (colophonlaw08_works.calls  false _ A2.out).mono ?_); rintro e w41 ⟨rfl, hb⟩; have n0_ := Aside0.mk (below_step (by repeat (first | (with_reducible first | exact HB.out | apply below_alloc | apply pw_below_drewN | apply below_drew1) | exact HB.out)) hb); clear HB; have HB := n0_; clear n0_; (try clear hb); (try clear hb2); (try clear hk); (try clear hi))); try go_wp2_with (first | (go_at_call 9; (with_reducible refine (colophonlaw08_works.calls  false _ A2.out).mono ?_); rintro e w41 ⟨rfl, hb⟩; have n0_ := Aside0.mk (below_step (by repeat (first | (with_reducible first | exact HB.out | apply below_alloc | apply pw_below_drewN | apply below_drew1) | exact HB.out)) hb); clear HB; have HB := n0_; clear n0_; (try clear hb); (try clear hb2); (try clear hk); (try clear hi))))
    go_ret
    exact ⟨by first | rfl | (simp [errW_none, errW_some] <;> rfl) | (simp [*, errW_none, errW_some] <;> rfl), by repeat (first | (with_reducible first | exact HB.out | apply below_alloc | apply pw_below_drewN | apply below_drew1) | exact HB.out)⟩

/-- THE ONE PURE STATEMENT of colophonlaw08_RunsJoin: yours. -/
def colophonlaw08_RunsJoin.Pure : Prop := ∀ (l0 : List Int), l0.length ≤ maxLen → l0.length * 8 ≤ 140737488351232 → (∀ x ∈ l0, (Lit.int .i64 x).wf = true) → ∃ k, colophonlaw08_RunsJoin.f k l0 = some true
theorem colophonlaw08_RunsJoin.walk (P : colophonlaw08_RunsJoin.Pure) (a0 : Option Addr) (len0 cap0 : Nat) (z0 : List Int) (w : World) (w0 : (a0 = none ∧ len0 = 0 ∧ cap0 = 0 ∧ z0 = []) ∨ ∃ x, a0 = some x ∧ len0 ≤ cap0 ∧ cap0 ≤ maxLen ∧ z0.length = cap0 ∧ (∀ i, i < z0.length → w.cell? (x.add i) = some (.int .i64 (z0.getD i 0))) ∧ ∀ n ∈ z0, (Lit.int .i64 n).wf = true) (y0 : len0 * 8 ≤ 140737488351232) :
    Calls Try.prog 7 #[.slice a0 len0 cap0] w fun e w' => e = .returned (.bool true) ∧ Below w.heap.size w w' := by
  obtain ⟨l0, rfl, hr0, hm0, hw0, hc0⟩ := ReadsInt.ofRowC w0
  obtain ⟨k, h⟩ := P l0 hm0 y0 hw0
  refine (colophonlaw08_RunsJoin.calls k _ _ l0 true w (Kd.C_of_reads (d := (0 : Int)) (h1 := fun _ => rfl) hr0) hc0 h).mono ?_
  rintro e w' ⟨rfl, hd⟩
  exact ⟨rfl, hd⟩

end Go.Proofs.Yteldofimjklckaa.X
