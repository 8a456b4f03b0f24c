-- Written by this session's own program over the seat's translation (a changed print); not the kit's printed text
import Derived.Test.YteldofimjklckaaX0
import Derived.Test.YteldofimjklckaaX14
import Derived.Test.YteldofimjklckaaSeqM
import Derived.Test.YteldofimjklckaaHWorks
namespace Go.Proofs.Yteldofimjklckaa.X
open Go.RowKit Go.Proofs.YteldofimjklckaaW.PrintWords Go.Proofs.YteldofimjklckaaW.PrintLast Go.Proofs.YteldofimjklckaaW.PrintMore Go.Proofs.Yteldofimjklckaa.G
attribute [local go_sem] max2_int min2_int max_two min_two max_three min_three max_four min_four   -- for this text's walks alone
set_option linter.unusedVariables false
set_option linter.unusedSimpArgs false

/-! ### colophonlaw08_RunsSides: function 8 -/
mutual
def colophonlaw08_RunsSides.l0 : Nat → Int → List (S36) → Bool → Int → List Int → Int → Int → Option (Bool)
  | 0, _, _, _, _, _, _, _ => none
  | k + 1, x1, x5, x7, x8, x29, x30, x31 => if x31 < x30 then (if 0 ≤ x31 then (if x31 < (x29.length : Int) then (if x7 = true then (if (rd x29 x31) < 15 then ((explicit_Removed.f (rd x29 x31)).bind fun t481 => (if t481 = true then (colophonlaw08_RunsSides.l0 k x1 x5 true x8 x29 x30 (wrap64 (x31 + 1))) else (colophonlaw08_RunsSides.l0 k x1 x5 true (wrap64 (x8 + 1)) x29 x30 (wrap64 (x31 + 1))))) else (if (rd x29 x31) = 19 then ((explicit_Removed.f (rd x29 x31)).bind fun t482 => (if t482 = true then (colophonlaw08_RunsSides.l0 k x1 x5 true x8 x29 x30 (wrap64 (x31 + 1))) else (colophonlaw08_RunsSides.l0 k x1 x5 true (wrap64 (x8 + 1)) x29 x30 (wrap64 (x31 + 1))))) else ((explicit_Removed.f (rd x29 x31)).bind fun t483 => (if t483 = true then (colophonlaw08_RunsSides.l0 k x1 x5 ((rd x29 x31) == 23) x8 x29 x30 (wrap64 (x31 + 1))) else (colophonlaw08_RunsSides.l0 k x1 x5 ((rd x29 x31) == 23) (wrap64 (x8 + 1)) x29 x30 (wrap64 (x31 + 1))))))) else ((explicit_Removed.f (rd x29 x31)).bind fun t484 => (if t484 = true then (colophonlaw08_RunsSides.l0 k x1 x5 false x8 x29 x30 (wrap64 (x31 + 1))) else (colophonlaw08_RunsSides.l0 k x1 x5 false (wrap64 (x8 + 1)) x29 x30 (wrap64 (x31 + 1)))))) else (none)) else (none)) else (colophonlaw08_RunsSides.l1 k x1 x5 x7 x8 x5 (x5.length : Int) 0)
def colophonlaw08_RunsSides.l1 : Nat → Int → List (S36) → Bool → Int → List (S36) → Int → Int → Option (Bool)
  | 0, _, _, _, _, _, _, _ => none
  | k + 1, x1, x5, x7, x8, x54, x55, x56 => if x56 < x55 then (if 0 ≤ x56 then (if x56 < (x54.length : Int) then (if ((rd_T36 x54 x56).f2) = 1 then (if ((rd_T36 x54 x56).f3) = 1 then (if ((rd_T36 x54 x56).f1) < x1 then (some false) else (colophonlaw08_RunsSides.l1 k x1 x5 x7 x8 x54 x55 (wrap64 (x56 + 1)))) else (if ((rd_T36 x54 x56).f3) = 2 then (if ((rd_T36 x54 x56).f1) < x1 then (some false) else (colophonlaw08_RunsSides.l1 k x1 x5 x7 x8 x54 x55 (wrap64 (x56 + 1)))) else (some false))) else (if ((rd_T36 x54 x56).f2) = 2 then (if ((rd_T36 x54 x56).f3) = 1 then (if ((rd_T36 x54 x56).f1) < x1 then (some false) else (colophonlaw08_RunsSides.l1 k x1 x5 x7 x8 x54 x55 (wrap64 (x56 + 1)))) else (if ((rd_T36 x54 x56).f3) = 2 then (if ((rd_T36 x54 x56).f1) < x1 then (some false) else (colophonlaw08_RunsSides.l1 k x1 x5 x7 x8 x54 x55 (wrap64 (x56 + 1)))) else (some false))) else (some false))) else (none)) else (none)) else (if x7 = true then (if x8 = 0 then (some ((x5.length : Int) == 0)) else (if (x5.length : Int) = 1 then (if 0 < (x5.length : Int) then (if (((rd_T36 x5 0).f0).length : Int) = x8 then (if ((rd_T36 x5 0).f1) = x1 then (if ((rd_T36 x5 0).f2) = (wrap64 (1 + x1)) then (some (((rd_T36 x5 0).f3) == (wrap64 (1 + x1)))) else (some false)) else (some false)) else (some false)) else (none)) else (some false))) else (some true))
end
def colophonlaw08_RunsSides.f (k : Nat) (l0 : List Int) (a1 : Int) : Option (Bool) := (colophonlaw08_works.f).bind fun t475 => (if t475 = true then (if (l0.length : Int) > 2000 then (some true) else ((runs_Sequences.f l0 a1).bind fun bt476 => (if bt476.2 = 0 then (colophonlaw08_RunsSides.l0 k a1 bt476.1 true 0 l0 (l0.length : Int) 0) else (some ((bt476.1.length : Int) == 0))))) else (some false))
theorem colophonlaw08_RunsSides.mono_l : ∀ k, (∀ y0 y1 y2 y3 y4 y5 y6, LeO (colophonlaw08_RunsSides.l0 k y0 y1 y2 y3 y4 y5 y6) (colophonlaw08_RunsSides.l0 (k + 1) y0 y1 y2 y3 y4 y5 y6)) ∧ (∀ y0 y1 y2 y3 y4 y5 y6, LeO (colophonlaw08_RunsSides.l1 k y0 y1 y2 y3 y4 y5 y6) (colophonlaw08_RunsSides.l1 (k + 1) y0 y1 y2 y3 y4 y5 y6))
  | 0 => ⟨fun _ _ _ _ _ _ _ r h => by simp [colophonlaw08_RunsSides.l0] at h, fun _ _ _ _ _ _ _ r h => by simp [colophonlaw08_RunsSides.l1] at h⟩
  | k + 1 => by
    obtain ⟨ih0, ih1⟩ := colophonlaw08_RunsSides.mono_l k
    refine ⟨?_, ?_⟩
    · intro y0 y1 y2 y3 y4 y5 y6
      unfold colophonlaw08_RunsSides.l0
      repeat' first
      | (with_reducible exact ih0 _ _ _ _ _ _ _)
      | (with_reducible exact ih1 _ _ _ _ _ _ _)
      | (with_reducible exact LeO.refl _)
      | (with_reducible exact LeO.none _)
      | (with_reducible refine LeO.ite ?_ ?_)
      | (with_reducible refine LeO.bind ?_ (fun _ => ?_))
      | exact ih0 _ _ _ _ _ _ _
      | exact ih1 _ _ _ _ _ _ _
      | exact LeO.none _
      | refine LeO.ite ?_ ?_
      | refine LeO.bind ?_ (fun _ => ?_)
    · intro y0 y1 y2 y3 y4 y5 y6
      unfold colophonlaw08_RunsSides.l1
      repeat' first
      | (with_reducible exact ih0 _ _ _ _ _ _ _)
      | (with_reducible exact ih1 _ _ _ _ _ _ _)
      | (with_reducible exact LeO.refl _)
      | (with_reducible exact LeO.none _)
      | (with_reducible refine LeO.ite ?_ ?_)
      | (with_reducible refine LeO.bind ?_ (fun _ => ?_))
      | exact ih0 _ _ _ _ _ _ _
      | exact ih1 _ _ _ _ _ _ _
      | exact LeO.none _
      | refine LeO.ite ?_ ?_
      | refine LeO.bind ?_ (fun _ => ?_)
theorem colophonlaw08_RunsSides.mono : ∀ a0 a1 k, LeO (colophonlaw08_RunsSides.f k a0 a1) (colophonlaw08_RunsSides.f (k + 1) a0 a1) := by
  intro a0 a1 k
  obtain ⟨ih0, ih1⟩ := colophonlaw08_RunsSides.mono_l k
  unfold colophonlaw08_RunsSides.f
  repeat' first
      | (with_reducible exact ih0 _ _ _ _ _ _ _)
      | (with_reducible exact ih1 _ _ _ _ _ _ _)
      | (with_reducible exact LeO.refl _)
      | (with_reducible exact LeO.none _)
      | (with_reducible refine LeO.ite ?_ ?_)
      | (with_reducible refine LeO.bind ?_ (fun _ => ?_))
      | exact ih0 _ _ _ _ _ _ _
      | exact ih1 _ _ _ _ _ _ _
      | exact LeO.none _
      | refine LeO.ite ?_ ?_
      | refine LeO.bind ?_ (fun _ => ?_)
set_option maxHeartbeats 8000000 in
set_option maxRecDepth 100000 in
theorem colophonlaw08_RunsSides.calls (k : Nat) (A0 : Option Addr) (c0 : Nat) (l0 : List Int) (a1 : Int) (r : Bool) (w : World) (hr0 : Kd.C (Kd.int .i64) w A0 l0.length l0) (hc0 : l0.length ≤ c0) (h : colophonlaw08_RunsSides.f k l0 a1 = some r) :
    Calls Try.prog 8 #[.slice A0 l0.length c0, .int .i64 a1] w fun e w' => e = .returned (.bool r) ∧ Below w.heap.size w w' := by
  have hu36 := Try.underlying36
  have HR0 := Aside0.mk hr0
  have HC0 := Aside0.mk hc0
  clear hr0 hc0
  have HB := Aside0.mk (Below.refl w.heap.size w)
  have H : ((colophonlaw08_works.f).bind fun t475 => (if t475 = true then (if (l0.length : Int) > 2000 then (some true) else ((runs_Sequences.f l0 a1).bind fun bt476 => (if bt476.2 = 0 then (colophonlaw08_RunsSides.l0 k a1 bt476.1 true 0 l0 (l0.length : Int) 0) else (some ((bt476.1.length : Int) == 0))))) else (some false))) = some r := h
  clear h
  replace H := Option.bind_eq_some_iff.mp H
  obtain ⟨t475, A30, H⟩ := H
  replace H : (if t475 = true then (if (l0.length : Int) > 2000 then (some true) else ((runs_Sequences.f l0 a1).bind fun bt476 => (if bt476.2 = 0 then (colophonlaw08_RunsSides.l0 k a1 bt476.1 true 0 l0 (l0.length : Int) 0) else (some ((bt476.1.length : Int) == 0))))) else (some false)) = some r := H
  have A3 := Aside0.mk A30
  clear A30
  by_cases c4 : t475 = true
  · as_aux_lemma =>
    subst c4
    have H1 : (if (l0.length : Int) > 2000 then (some true) else ((runs_Sequences.f l0 a1).bind fun bt476 => (if bt476.2 = 0 then (colophonlaw08_RunsSides.l0 k a1 bt476.1 true 0 l0 (l0.length : Int) 0) else (some ((bt476.1.length : Int) == 0))))) = some r := by rw [if_pos rfl] at H; exact H
    clear H
    have H := H1
    clear H1
    by_cases c5 : (l0.length : Int) > 2000
    · rw [if_pos c5] at H
      have c5b0 : decide (2000 < (l0.length : Int)) = true := decide_eq_true c5
      have c5b1 : decide (2000 < l0.length) = true := decide_eq_true (by omega)
      clear c5
      obtain rfl := Option.some.inj H
      go_enter Try.func8, Try.ntmps8
      go_wp2_with (first | ((with_reducible refine gate_callee (f := 9) rfl ?_); refine goesL_ (some 13) rfl rfl Try.func9 (by kernel_rfl) rfl #[] rfl (by (try simp only [List.map_toArray, List.map_cons, List.map_nil]); first | done | rfl | (simp only [List.length_drop, List.length_take]; rfl)) ?_; (with_reducible refine (colophonlaw08_works.calls  true _ A3.out).mono ?_); rintro e w6 ⟨rfl, hb⟩; refine ⟨_, rfl, ?_⟩; have n0_ := Aside0.mk (below_step (by repeat (first | (with_reducible first | exact HB.out | apply below_alloc | apply pw_below_drewN | apply below_drew1) | exact HB.out)) hb); clear HB; have HB := n0_; clear n0_; (try clear hb); (try clear hb2); (try clear hk); (try clear hi)))
      go_ret
      exact ⟨by first | rfl | (simp [errW_none, errW_some] <;> rfl) | (simp [*, errW_none, errW_some] <;> rfl), by repeat (first | (with_reducible first | exact HB.out | apply below_alloc | apply pw_below_drewN | apply below_drew1) | exact HB.out)⟩
    · as_aux_lemma =>
      rw [if_neg c5] at H
      have c5b0 : decide (2000 < (l0.length : Int)) = false := decide_eq_false c5
      have c5b1 : decide (2000 < l0.length) = false := decide_eq_false (by omega)
      clear c5
      replace H := Option.bind_eq_some_iff.mp H
      obtain ⟨⟨t476, t477⟩, A70, H⟩ := H
      replace H : (if t477 = 0 then (colophonlaw08_RunsSides.l0 k a1 t476 true 0 l0 (l0.length : Int) 0) else (some ((t476.length : Int) == 0))) = some r := H
      have A7 := Aside0.mk A70
      clear A70
      by_cases c8 : t477 = 0
      · as_aux_lemma =>
        rw [if_pos c8] at H
        have c8b0 : (t477 == 0) = true := beq_iff_eq.mpr c8
        have c8b1 : (t477 != 0) = false := bne_eq_false_iff_eq.mpr c8
        clear c8
        have H' := Aside0.mk H
        clear H
        go_enter Try.func8, Try.ntmps8
        go_wp2_with (first | ((with_reducible refine gate_callee (f := 9) rfl ?_); refine goesL_ (some 13) rfl rfl Try.func9 (by kernel_rfl) rfl #[] rfl (by (try simp only [List.map_toArray, List.map_cons, List.map_nil]); first | done | rfl | (simp only [List.length_drop, List.length_take]; rfl)) ?_; (with_reducible refine (colophonlaw08_works.calls  true _ A3.out).mono ?_); rintro e w9 ⟨rfl, hb⟩; refine ⟨_, rfl, ?_⟩; have n0_ := Aside0.mk (below_step (by repeat (first | (with_reducible first | exact HB.out | apply below_alloc | apply pw_below_drewN | apply below_drew1) | exact HB.out)) hb); clear HB; have HB := n0_; clear n0_; (try clear hb); (try clear hb2); (try clear hk); (try clear hi)) | ((with_reducible refine gate_callee (f := 14) rfl ?_); refine goesL_ (some 21) rfl rfl Try.func14 (by kernel_rfl) rfl #[.slice A0 l0.length c0, .int .i64 a1] rfl (by (try simp only [List.map_toArray, List.map_cons, List.map_nil]); first | done | rfl | (simp only [List.length_drop, List.length_take]; rfl)) ?_; (with_reducible refine (runs_Sequences.calls _ _ l0 a1 t476 t477 _ ?side1 ?side2 A7.out).mono ?_); (case side1 => repeat (first | exact (Kd.C_below HR0.out HB.out) | (with_reducible refine Kd.C_alloc ?_ _) | (with_reducible refine Kd.C_drewN ?_ _) | (with_reducible refine Kd.C_drew ?_))); (case side2 => exact HC0.out); rintro e w10 ⟨v478, rfl, ho0, hb⟩; refine ⟨_, rfl, ?_⟩; have n0_ := Aside0.mk (Kd.S_lower ho0 (below_size (by repeat (first | (with_reducible first | exact HB.out | apply below_alloc | apply pw_below_drewN | apply below_drew1) | exact HB.out)))); have n1_ := Aside0.mk (below_step (by repeat (first | (with_reducible first | exact HB.out | apply below_alloc | apply pw_below_drewN | apply below_drew1) | exact HB.out)) hb); clear HB; have HO479 := n0_; have HB := n1_; clear n0_ n1_; (try clear hb); (try clear hb2); (try clear hk); (try clear hi); (try clear ho0)))
        go_loopg [7, 8, 31] k (fun kq v7 v8 v31 w' => ∃ (x7_1 : Bool) (x8_1 : Int) (x31_1 : Int), v7 = .bool x7_1 ∧ v8 = .int .i64 x8_1 ∧ v31 = .int .i64 x31_1 ∧ Aside0 (colophonlaw08_RunsSides.l0 kq a1 t476 x7_1 x8_1 l0 (l0.length : Int) x31_1 = some r) ∧ Aside0 (kq ≤ k) ∧ Aside0 (Kd.S k36 36 w' w.heap.size (fun _ => True) v478 t476) ∧ Aside0 (Below w.heap.size w w'))
        case atStart => exact ⟨(true), (0), (0), (by first | rfl | (simp; done) | (simp [*]; done)), (by first | rfl | (simp; done) | (simp [*]; done)), (by first | rfl | (simp; done) | (simp [*]; done)), H', ⟨Nat.le_refl _⟩, ⟨by (with_reducible repeat (first | apply Kd.S_alloc | apply Kd.S_drewN | apply Kd.S_drew)); exact HO479.out⟩, ⟨by repeat (first | (with_reducible first | exact HB.out | apply below_alloc | apply pw_below_drewN | apply below_drew1) | exact HB.out)⟩⟩
        case round =>
          clear H'
          try clear c1
          try clear p2
          try clear c4
          try clear c5
          try clear c5b0
          try clear c5b1
          try clear c8
          try clear c8b0
          try clear c8b1
          try clear c9
          obtain ⟨x7_1, x8_1, x31_1, rfl, rfl, rfl, HA, HK1, HO_5, HB⟩ := hrel
          cases gk with
          | zero => exact absurd HA.out (by simp [colophonlaw08_RunsSides.l0])
          | succ k1 =>
            have H := HA.out
            clear HA
            simp only [colophonlaw08_RunsSides.l0] at H
            by_cases c11 : x31_1 < (l0.length : Int)
            · as_aux_lemma =>
              rw [if_pos c11] at H
              have c11b0 : decide (x31_1 < (l0.length : Int)) = true := decide_eq_true c11
              clear c11
              by_cases c12 : 0 ≤ x31_1
              · as_aux_lemma =>
                rw [if_pos c12] at H
                have c12b0 : decide (0 ≤ x31_1) = true := decide_eq_true c12
                clear c12
                by_cases c13 : x31_1 < (l0.length : Int)
                · as_aux_lemma =>
                  rw [if_pos c13] at H
                  have c13b0 : decide (x31_1 < (l0.length : Int)) = true := decide_eq_true c13
                  clear c13
                  by_cases c14 : x7_1 = true
                  · as_aux_lemma =>
                    subst c14
                    have H1 : (if (rd l0 x31_1) < 15 then ((explicit_Removed.f (rd l0 x31_1)).bind fun t481 => (if t481 = true then (colophonlaw08_RunsSides.l0 k1 a1 t476 true x8_1 l0 (l0.length : Int) (wrap64 (x31_1 + 1))) else (colophonlaw08_RunsSides.l0 k1 a1 t476 true (wrap64 (x8_1 + 1)) l0 (l0.length : Int) (wrap64 (x31_1 + 1))))) else (if (rd l0 x31_1) = 19 then ((explicit_Removed.f (rd l0 x31_1)).bind fun t482 => (if t482 = true then (colophonlaw08_RunsSides.l0 k1 a1 t476 true x8_1 l0 (l0.length : Int) (wrap64 (x31_1 + 1))) else (colophonlaw08_RunsSides.l0 k1 a1 t476 true (wrap64 (x8_1 + 1)) l0 (l0.length : Int) (wrap64 (x31_1 + 1))))) else ((explicit_Removed.f (rd l0 x31_1)).bind fun t483 => (if t483 = true then (colophonlaw08_RunsSides.l0 k1 a1 t476 ((rd l0 x31_1) == 23) x8_1 l0 (l0.length : Int) (wrap64 (x31_1 + 1))) else (colophonlaw08_RunsSides.l0 k1 a1 t476 ((rd l0 x31_1) == 23) (wrap64 (x8_1 + 1)) l0 (l0.length : Int) (wrap64 (x31_1 + 1))))))) = some r := by rw [if_pos rfl] at H; exact H
                    clear H
                    have H := H1
                    clear H1
                    by_cases c15 : (rd l0 x31_1) < 15
                    · rw [if_pos c15] at H
                      have c15b0 : decide ((rd l0 x31_1) < 15) = true := decide_eq_true c15
                      clear c15
                      replace H := Option.bind_eq_some_iff.mp H
                      obtain ⟨t481, A160, H⟩ := H
                      replace H : (if t481 = true then (colophonlaw08_RunsSides.l0 k1 a1 t476 true x8_1 l0 (l0.length : Int) (wrap64 (x31_1 + 1))) else (colophonlaw08_RunsSides.l0 k1 a1 t476 true (wrap64 (x8_1 + 1)) l0 (l0.length : Int) (wrap64 (x31_1 + 1)))) = some r := H
                      have A16 := Aside0.mk A160
                      clear A160
                      by_cases c17 : t481 = true
                      · subst c17
                        have H1 : (colophonlaw08_RunsSides.l0 k1 a1 t476 true x8_1 l0 (l0.length : Int) (wrap64 (x31_1 + 1))) = some r := by rw [if_pos rfl] at H; exact H
                        clear H
                        have H := H1
                        clear H1
                        have H' := Aside0.mk H
                        clear H
                        have p480 : 0 ≤ (x31_1 : Int) := of_decide_eq_true (by first | (with_reducible assumption) | assumption)
                        have q480 : x31_1 < (l0.length : Int) := of_decide_eq_true (by first | (with_reducible assumption) | assumption)
                        obtain ⟨ad480, e480, hx480_0⟩ := Kd.at_int HR0.out x31_1 p480 q480
                        cases e480
                        replace hx480_0 := (HB.out.cell (World.block_lt_of_cell? w _ hx480_0)).trans hx480_0
                        replace p480 := eq_true p480
                        replace q480 := eq_true q480
                        go_wp2_with (first | ((with_reducible refine gate_callee (f := 19) rfl ?_); refine goesL_ (some 49) rfl rfl Try.func19 (by kernel_rfl) rfl #[.int .i64 (rd l0 x31_1)] rfl (by (try simp only [List.map_toArray, List.map_cons, List.map_nil]); first | done | rfl | (simp only [List.length_drop, List.length_take]; rfl)) ?_; (with_reducible refine (explicit_Removed.calls (rd l0 x31_1) true _ A16.out).mono ?_); rintro e w' ⟨rfl, ⟨nd, rfl⟩⟩; refine ⟨_, rfl, ?_⟩))
                        go_roundg k1
                        case measure => have := HK1.out; omega
                        case rel => exact ⟨(true), (x8_1), (wrap64 (x31_1 + 1)), (by first | rfl | (simp; done) | (simp [*]; done)), (by first | rfl | (simp; done) | (simp [*]; done)), (by first | rfl | (simp; done) | (simp [*]; done)), H', ⟨by have := HK1.out; omega⟩, ⟨by (with_reducible repeat (first | apply Kd.S_alloc | apply Kd.S_drewN | apply Kd.S_drew)); exact HO_5.out⟩, ⟨by repeat (first | (with_reducible first | exact HB.out | apply below_alloc | apply pw_below_drewN | apply below_drew1) | exact HB.out)⟩⟩
                      · replace c17 := Bool.eq_false_iff.mpr c17
                        subst c17
                        have H1 : (colophonlaw08_RunsSides.l0 k1 a1 t476 true (wrap64 (x8_1 + 1)) l0 (l0.length : Int) (wrap64 (x31_1 + 1))) = some r := by rw [if_neg (show ¬ (false = true) by decide)] at H; exact H
                        clear H
                        have H := H1
                        clear H1
                        have H' := Aside0.mk H
                        clear H
                        have p480 : 0 ≤ (x31_1 : Int) := of_decide_eq_true (by first | (with_reducible assumption) | assumption)
                        have q480 : x31_1 < (l0.length : Int) := of_decide_eq_true (by first | (with_reducible assumption) | assumption)
                        obtain ⟨ad480, e480, hx480_0⟩ := Kd.at_int HR0.out x31_1 p480 q480
                        cases e480
                        replace hx480_0 := (HB.out.cell (World.block_lt_of_cell? w _ hx480_0)).trans hx480_0
                        replace p480 := eq_true p480
                        replace q480 := eq_true q480
                        go_wp2_with (first | ((with_reducible refine gate_callee (f := 19) rfl ?_); refine goesL_ (some 49) rfl rfl Try.func19 (by kernel_rfl) rfl #[.int .i64 (rd l0 x31_1)] rfl (by (try simp only [List.map_toArray, List.map_cons, List.map_nil]); first | done | rfl | (simp only [List.length_drop, List.length_take]; rfl)) ?_; (with_reducible refine (explicit_Removed.calls (rd l0 x31_1) false _ A16.out).mono ?_); rintro e w' ⟨rfl, ⟨nd, rfl⟩⟩; refine ⟨_, rfl, ?_⟩))
                        go_roundg k1
                        case measure => have := HK1.out; omega
                        case rel => exact ⟨(true), (wrap64 (x8_1 + 1)), (wrap64 (x31_1 + 1)), (by first | rfl | (simp; done) | (simp [*]; done)), (by first | rfl | (simp; done) | (simp [*]; done)), (by first | rfl | (simp; done) | (simp [*]; done)), H', ⟨by have := HK1.out; omega⟩, ⟨by (with_reducible repeat (first | apply Kd.S_alloc | apply Kd.S_drewN | apply Kd.S_drew)); exact HO_5.out⟩, ⟨by repeat (first | (with_reducible first | exact HB.out | apply below_alloc | apply pw_below_drewN | apply below_drew1) | exact HB.out)⟩⟩
                    · rw [if_neg c15] at H
                      have c15b0 : decide ((rd l0 x31_1) < 15) = false := decide_eq_false c15
                      clear c15
                      by_cases c18 : (rd l0 x31_1) = 19
                      · rw [if_pos c18] at H
                        have c18b0 : ((rd l0 x31_1) == 19) = true := beq_iff_eq.mpr c18
                        have c18b1 : ((rd l0 x31_1) != 19) = false := bne_eq_false_iff_eq.mpr c18
                        clear c18
                        replace H := Option.bind_eq_some_iff.mp H
                        obtain ⟨t482, A190, H⟩ := H
                        replace H : (if t482 = true then (colophonlaw08_RunsSides.l0 k1 a1 t476 true x8_1 l0 (l0.length : Int) (wrap64 (x31_1 + 1))) else (colophonlaw08_RunsSides.l0 k1 a1 t476 true (wrap64 (x8_1 + 1)) l0 (l0.length : Int) (wrap64 (x31_1 + 1)))) = some r := H
                        have A19 := Aside0.mk A190
                        clear A190
                        by_cases c20 : t482 = true
                        · subst c20
                          have H1 : (colophonlaw08_RunsSides.l0 k1 a1 t476 true x8_1 l0 (l0.length : Int) (wrap64 (x31_1 + 1))) = some r := by rw [if_pos rfl] at H; exact H
                          clear H
                          have H := H1
                          clear H1
                          have H' := Aside0.mk H
                          clear H
                          have p480 : 0 ≤ (x31_1 : Int) := of_decide_eq_true (by first | (with_reducible assumption) | assumption)
                          have q480 : x31_1 < (l0.length : Int) := of_decide_eq_true (by first | (with_reducible assumption) | assumption)
                          obtain ⟨ad480, e480, hx480_0⟩ := Kd.at_int HR0.out x31_1 p480 q480
                          cases e480
                          replace hx480_0 := (HB.out.cell (World.block_lt_of_cell? w _ hx480_0)).trans hx480_0
                          replace p480 := eq_true p480
                          replace q480 := eq_true q480
                          go_wp2_with (first | ((with_reducible refine gate_callee (f := 19) rfl ?_); refine goesL_ (some 49) rfl rfl Try.func19 (by kernel_rfl) rfl #[.int .i64 (rd l0 x31_1)] rfl (by (try simp only [List.map_toArray, List.map_cons, List.map_nil]); first | done | rfl | (simp only [List.length_drop, List.length_take]; rfl)) ?_; (with_reducible refine (explicit_Removed.calls (rd l0 x31_1) true _ A19.out).mono ?_); rintro e w' ⟨rfl, ⟨nd, rfl⟩⟩; refine ⟨_, rfl, ?_⟩))
                          go_roundg k1
                          case measure => have := HK1.out; omega
                          case rel => exact ⟨(true), (x8_1), (wrap64 (x31_1 + 1)), (by first | rfl | (simp; done) | (simp [*]; done)), (by first | rfl | (simp; done) | (simp [*]; done)), (by first | rfl | (simp; done) | (simp [*]; done)), H', ⟨by have := HK1.out; omega⟩, ⟨by (with_reducible repeat (first | apply Kd.S_alloc | apply Kd.S_drewN | apply Kd.S_drew)); exact HO_5.out⟩, ⟨by repeat (first | (with_reducible first | exact HB.out | apply below_alloc | apply pw_below_drewN | apply below_drew1) | exact HB.out)⟩⟩
                        · replace c20 := Bool.eq_false_iff.mpr c20
                          subst c20
                          have H1 : (colophonlaw08_RunsSides.l0 k1 a1 t476 true (wrap64 (x8_1 + 1)) l0 (l0.length : Int) (wrap64 (x31_1 + 1))) = some r := by rw [if_neg (show ¬ (false = true) by decide)] at H; exact H
                          clear H
                          have H := H1
                          clear H1
                          have H' := Aside0.mk H
                          clear H
                          have p480 : 0 ≤ (x31_1 : Int) := of_decide_eq_true (by first | (with_reducible assumption) | assumption)
                          have q480 : x31_1 < (l0.length : Int) := of_decide_eq_true (by first | (with_reducible assumption) | assumption)
                          obtain ⟨ad480, e480, hx480_0⟩ := Kd.at_int HR0.out x31_1 p480 q480
                          cases e480
                          replace hx480_0 := (HB.out.cell (World.block_lt_of_cell? w _ hx480_0)).trans hx480_0
                          replace p480 := eq_true p480
                          replace q480 := eq_true q480
                          go_wp2_with (first | ((with_reducible refine gate_callee (f := 19) rfl ?_); refine goesL_ (some 49) rfl rfl Try.func19 (by kernel_rfl) rfl #[.int .i64 (rd l0 x31_1)] rfl (by (try simp only [List.map_toArray, List.map_cons, List.map_nil]); first | done | rfl | (simp only [List.length_drop, List.length_take]; rfl)) ?_; (with_reducible refine (explicit_Removed.calls (rd l0 x31_1) false _ A19.out).mono ?_); rintro e w' ⟨rfl, ⟨nd, rfl⟩⟩; refine ⟨_, rfl, ?_⟩))
                          go_roundg k1
                          case measure => have := HK1.out; omega
                          case rel => exact ⟨(true), (wrap64 (x8_1 + 1)), (wrap64 (x31_1 + 1)), (by first | rfl | (simp; done) | (simp [*]; done)), (by first | rfl | (simp; done) | (simp [*]; done)), (by first | rfl | (simp; done) | (simp [*]; done)), H', ⟨by have := HK1.out; omega⟩, ⟨by (with_reducible repeat (first | apply Kd.S_alloc | apply Kd.S_drewN | apply Kd.S_drew)); exact HO_5.out⟩, ⟨by repeat (first | (with_reducible first | exact HB.out | apply below_alloc | apply pw_below_drewN | apply below_drew1) | exact HB.out)⟩⟩
                      · rw [if_neg c18] at H
                        have c18b0 : ((rd l0 x31_1) == 19) = false := beq_eq_false_iff_ne.mpr c18
                        have c18b1 : ((rd l0 x31_1) != 19) = true := bne_iff_ne.mpr c18
                        replace H := Option.bind_eq_some_iff.mp H
                        obtain ⟨t483, A210, H⟩ := H
                        replace H : (if t483 = true then (colophonlaw08_RunsSides.l0 k1 a1 t476 ((rd l0 x31_1) == 23) x8_1 l0 (l0.length : Int) (wrap64 (x31_1 + 1))) else (colophonlaw08_RunsSides.l0 k1 a1 t476 ((rd l0 x31_1) == 23) (wrap64 (x8_1 + 1)) l0 (l0.length : Int) (wrap64 (x31_1 + 1)))) = some r := H
                        have A21 := Aside0.mk A210
                        clear A210
                        by_cases c22 : t483 = true
                        · subst c22
                          have H1 : (colophonlaw08_RunsSides.l0 k1 a1 t476 ((rd l0 x31_1) == 23) x8_1 l0 (l0.length : Int) (wrap64 (x31_1 + 1))) = some r := by rw [if_pos rfl] at H; exact H
                          clear H
                          have H := H1
                          clear H1
                          have H' := Aside0.mk H
                          clear H
                          have p480 : 0 ≤ (x31_1 : Int) := of_decide_eq_true (by first | (with_reducible assumption) | assumption)
                          have q480 : x31_1 < (l0.length : Int) := of_decide_eq_true (by first | (with_reducible assumption) | assumption)
                          obtain ⟨ad480, e480, hx480_0⟩ := Kd.at_int HR0.out x31_1 p480 q480
                          cases e480
                          replace hx480_0 := (HB.out.cell (World.block_lt_of_cell? w _ hx480_0)).trans hx480_0
                          replace p480 := eq_true p480
                          replace q480 := eq_true q480
                          go_wp2_with (first | ((with_reducible refine gate_callee (f := 19) rfl ?_); refine goesL_ (some 49) rfl rfl Try.func19 (by kernel_rfl) rfl #[.int .i64 (rd l0 x31_1)] rfl (by (try simp only [List.map_toArray, List.map_cons, List.map_nil]); first | done | rfl | (simp only [List.length_drop, List.length_take]; rfl)) ?_; (with_reducible refine (explicit_Removed.calls (rd l0 x31_1) true _ A21.out).mono ?_); rintro e w' ⟨rfl, ⟨nd, rfl⟩⟩; refine ⟨_, rfl, ?_⟩))
                          go_roundg k1
                          case measure => have := HK1.out; omega
                          case rel => exact ⟨(((rd l0 x31_1) == 23)), (x8_1), (wrap64 (x31_1 + 1)), (by first | rfl | (simp; done) | (simp [*]; done)), (by first | rfl | (simp; done) | (simp [*]; done)), (by first | rfl | (simp; done) | (simp [*]; done)), H', ⟨by have := HK1.out; omega⟩, ⟨by (with_reducible repeat (first | apply Kd.S_alloc | apply Kd.S_drewN | apply Kd.S_drew)); exact HO_5.out⟩, ⟨by repeat (first | (with_reducible first | exact HB.out | apply below_alloc | apply pw_below_drewN | apply below_drew1) | exact HB.out)⟩⟩
                        · replace c22 := Bool.eq_false_iff.mpr c22
                          subst c22
                          have H1 : (colophonlaw08_RunsSides.l0 k1 a1 t476 ((rd l0 x31_1) == 23) (wrap64 (x8_1 + 1)) l0 (l0.length : Int) (wrap64 (x31_1 + 1))) = some r := by rw [if_neg (show ¬ (false = true) by decide)] at H; exact H
                          clear H
                          have H := H1
                          clear H1
                          have H' := Aside0.mk H
                          clear H
                          have p480 : 0 ≤ (x31_1 : Int) := of_decide_eq_true (by first | (with_reducible assumption) | assumption)
                          have q480 : x31_1 < (l0.length : Int) := of_decide_eq_true (by first | (with_reducible assumption) | assumption)
                          obtain ⟨ad480, e480, hx480_0⟩ := Kd.at_int HR0.out x31_1 p480 q480
                          cases e480
                          replace hx480_0 := (HB.out.cell (World.block_lt_of_cell? w _ hx480_0)).trans hx480_0
                          replace p480 := eq_true p480
                          replace q480 := eq_true q480
                          go_wp2_with (first | ((with_reducible refine gate_callee (f := 19) rfl ?_); refine goesL_ (some 49) rfl rfl Try.func19 (by kernel_rfl) rfl #[.int .i64 (rd l0 x31_1)] rfl (by (try simp only [List.map_toArray, List.map_cons, List.map_nil]); first | done | rfl | (simp only [List.length_drop, List.length_take]; rfl)) ?_; (with_reducible refine (explicit_Removed.calls (rd l0 x31_1) false _ A21.out).mono ?_); rintro e w' ⟨rfl, ⟨nd, rfl⟩⟩; refine ⟨_, rfl, ?_⟩))
                          go_roundg k1
                          case measure => have := HK1.out; omega
                          case rel => exact ⟨(((rd l0 x31_1) == 23)), (wrap64 (x8_1 + 1)), (wrap64 (x31_1 + 1)), (by first | rfl | (simp; done) | (simp [*]; done)), (by first | rfl | (simp; done) | (simp [*]; done)), (by first | rfl | (simp; done) | (simp [*]; done)), H', ⟨by have := HK1.out; omega⟩, ⟨by (with_reducible repeat (first | apply Kd.S_alloc | apply Kd.S_drewN | apply Kd.S_drew)); exact HO_5.out⟩, ⟨by repeat (first | (with_reducible first | exact HB.out | apply below_alloc | apply pw_below_drewN | apply below_drew1) | exact HB.out)⟩⟩
                  · replace c14 := Bool.eq_false_iff.mpr c14
                    subst c14
                    have H1 : ((explicit_Removed.f (rd l0 x31_1)).bind fun t484 => (if t484 = true then (colophonlaw08_RunsSides.l0 k1 a1 t476 false x8_1 l0 (l0.length : Int) (wrap64 (x31_1 + 1))) else (colophonlaw08_RunsSides.l0 k1 a1 t476 false (wrap64 (x8_1 + 1)) l0 (l0.length : Int) (wrap64 (x31_1 + 1))))) = some r := by rw [if_neg (show ¬ (false = true) by decide)] at H; exact H
                    clear H
                    have H := H1
                    clear H1
                    replace H := Option.bind_eq_some_iff.mp H
                    obtain ⟨t484, A230, H⟩ := H
                    replace H : (if t484 = true then (colophonlaw08_RunsSides.l0 k1 a1 t476 false x8_1 l0 (l0.length : Int) (wrap64 (x31_1 + 1))) else (colophonlaw08_RunsSides.l0 k1 a1 t476 false (wrap64 (x8_1 + 1)) l0 (l0.length : Int) (wrap64 (x31_1 + 1)))) = some r := H
                    have A23 := Aside0.mk A230
                    clear A230
                    by_cases c24 : t484 = true
                    · subst c24
                      have H1 : (colophonlaw08_RunsSides.l0 k1 a1 t476 false x8_1 l0 (l0.length : Int) (wrap64 (x31_1 + 1))) = some r := by rw [if_pos rfl] at H; exact H
                      clear H
                      have H := H1
                      clear H1
                      have H' := Aside0.mk H
                      clear H
                      have p480 : 0 ≤ (x31_1 : Int) := of_decide_eq_true (by first | (with_reducible assumption) | assumption)
                      have q480 : x31_1 < (l0.length : Int) := of_decide_eq_true (by first | (with_reducible assumption) | assumption)
                      obtain ⟨ad480, e480, hx480_0⟩ := Kd.at_int HR0.out x31_1 p480 q480
                      cases e480
                      replace hx480_0 := (HB.out.cell (World.block_lt_of_cell? w _ hx480_0)).trans hx480_0
                      replace p480 := eq_true p480
                      replace q480 := eq_true q480
                      go_wp2_with (first | ((with_reducible refine gate_callee (f := 19) rfl ?_); refine goesL_ (some 49) rfl rfl Try.func19 (by kernel_rfl) rfl #[.int .i64 (rd l0 x31_1)] rfl (by (try simp only [List.map_toArray, List.map_cons, List.map_nil]); first | done | rfl | (simp only [List.length_drop, List.length_take]; rfl)) ?_; (with_reducible refine (explicit_Removed.calls (rd l0 x31_1) true _ A23.out).mono ?_); rintro e w' ⟨rfl, ⟨nd, rfl⟩⟩; refine ⟨_, rfl, ?_⟩))
                      go_roundg k1
                      case measure => have := HK1.out; omega
                      case rel => exact ⟨(false), (x8_1), (wrap64 (x31_1 + 1)), (by first | rfl | (simp; done) | (simp [*]; done)), (by first | rfl | (simp; done) | (simp [*]; done)), (by first | rfl | (simp; done) | (simp [*]; done)), H', ⟨by have := HK1.out; omega⟩, ⟨by (with_reducible repeat (first | apply Kd.S_alloc | apply Kd.S_drewN | apply Kd.S_drew)); exact HO_5.out⟩, ⟨by repeat (first | (with_reducible first | exact HB.out | apply below_alloc | apply pw_below_drewN | apply below_drew1) | exact HB.out)⟩⟩
                    · replace c24 := Bool.eq_false_iff.mpr c24
                      subst c24
                      have H1 : (colophonlaw08_RunsSides.l0 k1 a1 t476 false (wrap64 (x8_1 + 1)) l0 (l0.length : Int) (wrap64 (x31_1 + 1))) = some r := by rw [if_neg (show ¬ (false = true) by decide)] at H; exact H
                      clear H
                      have H := H1
                      clear H1
                      have H' := Aside0.mk H
                      clear H
                      have p480 : 0 ≤ (x31_1 : Int) := of_decide_eq_true (by first | (with_reducible assumption) | assumption)
                      have q480 : x31_1 < (l0.length : Int) := of_decide_eq_true (by first | (with_reducible assumption) | assumption)
                      obtain ⟨ad480, e480, hx480_0⟩ := Kd.at_int HR0.out x31_1 p480 q480
                      cases e480
                      replace hx480_0 := (HB.out.cell (World.block_lt_of_cell? w _ hx480_0)).trans hx480_0
                      replace p480 := eq_true p480
                      replace q480 := eq_true q480
                      go_wp2_with (first | ((with_reducible refine gate_callee (f := 19) rfl ?_); refine goesL_ (some 49) rfl rfl Try.func19 (by kernel_rfl) rfl #[.int .i64 (rd l0 x31_1)] rfl (by (try simp only [List.map_toArray, List.map_cons, List.map_nil]); first | done | rfl | (simp only [List.length_drop, List.length_take]; rfl)) ?_; (with_reducible refine (explicit_Removed.calls (rd l0 x31_1) false _ A23.out).mono ?_); rintro e w' ⟨rfl, ⟨nd, rfl⟩⟩; refine ⟨_, rfl, ?_⟩))
                      go_roundg k1
                      case measure => have := HK1.out; omega
                      case rel => exact ⟨(false), (wrap64 (x8_1 + 1)), (wrap64 (x31_1 + 1)), (by first | rfl | (simp; done) | (simp [*]; done)), (by first | rfl | (simp; done) | (simp [*]; done)), (by first | rfl | (simp; done) | (simp [*]; done)), H', ⟨by have := HK1.out; omega⟩, ⟨by (with_reducible repeat (first | apply Kd.S_alloc | apply Kd.S_drewN | apply Kd.S_drew)); exact HO_5.out⟩, ⟨by repeat (first | (with_reducible first | exact HB.out | apply below_alloc | apply pw_below_drewN | apply below_drew1) | exact HB.out)⟩⟩
                · rw [if_neg c13] at H
                  exact absurd H (by simp)
              · rw [if_neg c12] at H
                exact absurd H (by simp)
            · as_aux_lemma =>
              rw [if_neg c11] at H
              have c11b0 : decide (x31_1 < (l0.length : Int)) = false := decide_eq_false c11
              clear c11
              have H' := Aside0.mk H
              clear H
              obtain ⟨Ao25, co25, eo25⟩ := Kd.S_slice HO_5.out
              subst eo25
              go_wp2
              go_loopg [56] k1 (fun kq v56 w' => ∃ (x56_2 : Int), v56 = .int .i64 x56_2 ∧ Aside0 (colophonlaw08_RunsSides.l1 kq a1 t476 x7_1 x8_1 t476 (t476.length : Int) x56_2 = some r) ∧ Aside0 (kq ≤ k1) ∧ Aside0 (Kd.S k36 36 w' w.heap.size (fun _ => True) (.slice Ao25 t476.length co25) t476) ∧ Aside0 (Kd.S k36 36 w' w.heap.size (fun _ => True) (.slice Ao25 t476.length co25) t476) ∧ Aside0 (Below w.heap.size w w'))
              case atStart => exact ⟨(0), (by first | rfl | (simp; done) | (simp [*]; done)), H', ⟨Nat.le_refl _⟩, ⟨by (with_reducible repeat (first | apply Kd.S_alloc | apply Kd.S_drewN | apply Kd.S_drew)); exact HO_5.out⟩, ⟨by (with_reducible repeat (first | apply Kd.S_alloc | apply Kd.S_drewN | apply Kd.S_drew)); exact HO_5.out⟩, ⟨by repeat (first | (with_reducible first | exact HB.out | apply below_alloc | apply pw_below_drewN | apply below_drew1) | exact HB.out)⟩⟩
              case round =>
                clear H'
                try clear c1
                try clear c2
                try clear p2
                try clear c4
                try clear p4
                try clear q4
                try clear hx4
                try clear c5
                try clear c5b0
                try clear c5b1
                try clear p6
                try clear c8
                try clear c8b0
                try clear c8b1
                try clear c9
                try clear c11
                try clear c11b0
                try clear c12
                try clear c12b0
                try clear c13
                try clear c13b0
                try clear c14
                try clear c15
                try clear c15b0
                try clear c17
                try clear c18
                try clear c18b0
                try clear c18b1
                try clear c19
                try clear c20
                try clear c22
                try clear c24
                try clear hx480_0
                try clear p2
                try clear p480
                try clear q480
                obtain ⟨x56_2, rfl, HA, HK2, HO_5, HO_54, HB⟩ := hrel
                cases gk with
                | zero => exact absurd HA.out (by simp [colophonlaw08_RunsSides.l1])
                | succ k2 =>
                  have H := HA.out
                  clear HA
                  simp only [colophonlaw08_RunsSides.l1] at H
                  by_cases c26 : x56_2 < (t476.length : Int)
                  · as_aux_lemma =>
                    rw [if_pos c26] at H
                    have c26b0 : decide (x56_2 < (t476.length : Int)) = true := decide_eq_true c26
                    clear c26
                    by_cases c27 : 0 ≤ x56_2
                    · as_aux_lemma =>
                      rw [if_pos c27] at H
                      have c27b0 : decide (0 ≤ x56_2) = true := decide_eq_true c27
                      clear c27
                      by_cases c28 : x56_2 < (t476.length : Int)
                      · as_aux_lemma =>
                        rw [if_pos c28] at H
                        have c28b0 : decide (x56_2 < (t476.length : Int)) = true := decide_eq_true c28
                        clear c28
                        by_cases c29 : ((rd_T36 t476 x56_2).f2) = 1
                        · as_aux_lemma =>
                          rw [if_pos c29] at H
                          have c29b0 : (((rd_T36 t476 x56_2).f2) == 1) = true := beq_iff_eq.mpr c29
                          have c29b1 : (((rd_T36 t476 x56_2).f2) != 1) = false := bne_eq_false_iff_eq.mpr c29
                          clear c29
                          by_cases c30 : ((rd_T36 t476 x56_2).f3) = 1
                          · rw [if_pos c30] at H
                            have c30b0 : (((rd_T36 t476 x56_2).f3) == 1) = true := beq_iff_eq.mpr c30
                            have c30b1 : (((rd_T36 t476 x56_2).f3) != 1) = false := bne_eq_false_iff_eq.mpr c30
                            clear c30
                            by_cases c31 : ((rd_T36 t476 x56_2).f1) < a1
                            · rw [if_pos c31] at H
                              have c31b0 : decide (((rd_T36 t476 x56_2).f1) < a1) = true := decide_eq_true c31
                              clear c31
                              obtain rfl := Option.some.inj H
                              have p485 : 0 ≤ (x56_2 : Int) := of_decide_eq_true (by first | (with_reducible assumption) | assumption)
                              have q485 : x56_2 < (t476.length : Int) := of_decide_eq_true (by first | (with_reducible assumption) | assumption)
                              obtain ⟨ad485, A485_0, c485_0, e485, hx485_0, hx485_1, hx485_2, hx485_3, hl485_0, hi485_0⟩ := at_T36 (Kd.S_reads' HO_54.out).2.2 x56_2 p485 q485
                              cases e485
                              obtain ⟨ce485, hce485, hMe485, hcc485⟩ := Kd.S_get HO_54.out z36 x56_2 p485 (by first | exact q485 | exact of_decide_eq_true (by first | (with_reducible assumption) | assumption) | (have e_ := (Kd.S_reads' HO_54.out).1; omega))
                              obtain ⟨ve485_0, rfl, ge485_0⟩ := k36_openM hMe485
                              have hv485_0 := hcc485 0 _ rfl
                              rw [Nat.add_zero] at hv485_0
                              replace hv485_0 := Option.some.inj (hv485_0.symm.trans hx485_0)
                              rw [hv485_0] at ge485_0
                              have HL485_0 := Aside0.mk (show Kd.R (Kd.int .i64) 3 _ _ _ _ ((rd_T36 t476 x56_2).f0) from ge485_0)
                              clear hv485_0 ge485_0
                              clear hcc485 hce485
                              have HR485_0 := Aside0.mk hi485_0
                              have HC485_0 := Aside0.mk hl485_0
                              clear hi485_0 hl485_0
                              replace p485 := eq_true p485
                              replace q485 := eq_true q485
                              go_wp2_with (first | ((with_reducible refine gate_dst (N := 12) rfl ?_); (try (refine gate_guard (by rfl) ?_; dsimp only)); refine box_event ?hg (N := 12) ?hd (cs := #[.slice none 0 0, .int .i64 0, .int .i64 0, .int .i64 0]) (t := 36) ?hr ?_; (case hd => rfl); (case hg => rfl); (case hr => first | (go_simp; done) | (go_simp; rfl)); intro gb486 hg w32 hbox hb; have n0_ := Aside0.mk (Kd.S_below (Kd.S_elderB (by (with_reducible repeat (first | apply Kd.S_alloc | apply Kd.S_drewN | apply Kd.S_drew)); exact HO_5.out) gb486 (Nat.le_of_eq hg.symm)) hb); have n1_ := Aside0.mk (Kd.S_below (Kd.S_elderB (by (with_reducible repeat (first | apply Kd.S_alloc | apply Kd.S_drewN | apply Kd.S_drew)); exact HO_54.out) gb486 (Nat.le_of_eq hg.symm)) hb); have n2_ := Aside0.mk (Kd.R_below (by (with_reducible repeat (first | apply Kd.R_alloc | apply Kd.R_drewN | apply Kd.R_drew)); exact HL485_0.out) hb); have n3_ := Aside0.mk (Kd.C_below (by repeat (first | (with_reducible exact HR485_0.out) | (with_reducible refine Kd.C_alloc ?_ _) | (with_reducible refine Kd.C_drewN ?_ _) | (with_reducible refine Kd.C_drew ?_) | exact HR485_0.out)) hb); have n4_ := Aside0.mk (below_step (by repeat (first | (with_reducible first | exact HB.out | apply below_alloc | apply pw_below_drewN | apply below_drew1) | exact HB.out)) hb); have n5_ := Aside0.mk (hbox); have n6_ := Aside0.mk ((by rw [hg]; exact (below_size (by repeat (first | (with_reducible first | exact HB.out | apply below_alloc | apply pw_below_drewN | apply below_drew1) | exact HB.out))) : w.heap.size ≤ gb486)); have n7_ := Aside0.mk ((by rw [hg]; exact (below_size (by repeat (first | (with_reducible first | exact HB.out | apply below_alloc | apply pw_below_drewN | apply below_drew1) | exact HB.out))) : w.heap.size ≤ gb486)); clear HO_5; clear HO_54; clear HL485_0; clear HR485_0; clear HB; have HO_5 := n0_; have HO_54 := n1_; have HL485_0 := n2_; have HR485_0 := n3_; have HB := n4_; have BK486 := n5_; have GW486 := n6_; have GE486 := n7_; clear n0_ n1_ n2_ n3_ n4_ n5_ n6_ n7_; clear hb hbox hg; have hcz33_0 : w32.cell? ⟨gb486, 0, none⟩ = some (.slice none 0 0) := (blk_cell BK486.out 0).trans rfl; have hcz33_1 : w32.cell? ⟨gb486, 1, none⟩ = some (.int .i64 0) := (blk_cell BK486.out 1).trans rfl; have hcz33_2 : w32.cell? ⟨gb486, 2, none⟩ = some (.int .i64 0) := (blk_cell BK486.out 2).trans rfl; have hcz33_3 : w32.cell? ⟨gb486, 3, none⟩ = some (.int .i64 0) := (blk_cell BK486.out 3).trans rfl; have hfz33_0 := blk_frozen BK486.out 0; have hfz33_1 := blk_frozen BK486.out 1; have hfz33_2 := blk_frozen BK486.out 2; have hfz33_3 := blk_frozen BK486.out 3))
                              go_ret
                              exact ⟨by first | rfl | (simp [errW_none, errW_some] <;> rfl) | (simp [*, errW_none, errW_some] <;> rfl), by repeat (first | (with_reducible first | exact HB.out | apply below_alloc | apply pw_below_drewN | apply below_drew1 | refine below_set ?_ GE486.out) | exact HB.out)⟩
                            · rw [if_neg c31] at H
                              have c31b0 : decide (((rd_T36 t476 x56_2).f1) < a1) = false := decide_eq_false c31
                              clear c31
                              have H' := Aside0.mk H
                              clear H
                              have p485 : 0 ≤ (x56_2 : Int) := of_decide_eq_true (by first | (with_reducible assumption) | assumption)
                              have q485 : x56_2 < (t476.length : Int) := of_decide_eq_true (by first | (with_reducible assumption) | assumption)
                              obtain ⟨ad485, A485_0, c485_0, e485, hx485_0, hx485_1, hx485_2, hx485_3, hl485_0, hi485_0⟩ := at_T36 (Kd.S_reads' HO_54.out).2.2 x56_2 p485 q485
                              cases e485
                              obtain ⟨ce485, hce485, hMe485, hcc485⟩ := Kd.S_get HO_54.out z36 x56_2 p485 (by first | exact q485 | exact of_decide_eq_true (by first | (with_reducible assumption) | assumption) | (have e_ := (Kd.S_reads' HO_54.out).1; omega))
                              obtain ⟨ve485_0, rfl, ge485_0⟩ := k36_openM hMe485
                              have hv485_0 := hcc485 0 _ rfl
                              rw [Nat.add_zero] at hv485_0
                              replace hv485_0 := Option.some.inj (hv485_0.symm.trans hx485_0)
                              rw [hv485_0] at ge485_0
                              have HL485_0 := Aside0.mk (show Kd.R (Kd.int .i64) 3 _ _ _ _ ((rd_T36 t476 x56_2).f0) from ge485_0)
                              clear hv485_0 ge485_0
                              clear hcc485 hce485
                              have HR485_0 := Aside0.mk hi485_0
                              have HC485_0 := Aside0.mk hl485_0
                              clear hi485_0 hl485_0
                              replace p485 := eq_true p485
                              replace q485 := eq_true q485
                              go_wp2_with (first | ((with_reducible refine gate_dst (N := 12) rfl ?_); (try (refine gate_guard (by rfl) ?_; dsimp only)); refine box_event ?hg (N := 12) ?hd (cs := #[.slice none 0 0, .int .i64 0, .int .i64 0, .int .i64 0]) (t := 36) ?hr ?_; (case hd => rfl); (case hg => rfl); (case hr => first | (go_simp; done) | (go_simp; rfl)); intro gb486 hg w34 hbox hb; have n0_ := Aside0.mk (Kd.S_below (Kd.S_elderB (by (with_reducible repeat (first | apply Kd.S_alloc | apply Kd.S_drewN | apply Kd.S_drew)); exact HO_5.out) gb486 (Nat.le_of_eq hg.symm)) hb); have n1_ := Aside0.mk (Kd.S_below (Kd.S_elderB (by (with_reducible repeat (first | apply Kd.S_alloc | apply Kd.S_drewN | apply Kd.S_drew)); exact HO_54.out) gb486 (Nat.le_of_eq hg.symm)) hb); have n2_ := Aside0.mk (Kd.R_below (by (with_reducible repeat (first | apply Kd.R_alloc | apply Kd.R_drewN | apply Kd.R_drew)); exact HL485_0.out) hb); have n3_ := Aside0.mk (Kd.C_below (by repeat (first | (with_reducible exact HR485_0.out) | (with_reducible refine Kd.C_alloc ?_ _) | (with_reducible refine Kd.C_drewN ?_ _) | (with_reducible refine Kd.C_drew ?_) | exact HR485_0.out)) hb); have n4_ := Aside0.mk (below_step (by repeat (first | (with_reducible first | exact HB.out | apply below_alloc | apply pw_below_drewN | apply below_drew1) | exact HB.out)) hb); have n5_ := Aside0.mk (hbox); have n6_ := Aside0.mk ((by rw [hg]; exact (below_size (by repeat (first | (with_reducible first | exact HB.out | apply below_alloc | apply pw_below_drewN | apply below_drew1) | exact HB.out))) : w.heap.size ≤ gb486)); have n7_ := Aside0.mk ((by rw [hg]; exact (below_size (by repeat (first | (with_reducible first | exact HB.out | apply below_alloc | apply pw_below_drewN | apply below_drew1) | exact HB.out))) : w.heap.size ≤ gb486)); clear HO_5; clear HO_54; clear HL485_0; clear HR485_0; clear HB; have HO_5 := n0_; have HO_54 := n1_; have HL485_0 := n2_; have HR485_0 := n3_; have HB := n4_; have BK486 := n5_; have GW486 := n6_; have GE486 := n7_; clear n0_ n1_ n2_ n3_ n4_ n5_ n6_ n7_; clear hb hbox hg; have hcz35_0 : w34.cell? ⟨gb486, 0, none⟩ = some (.slice none 0 0) := (blk_cell BK486.out 0).trans rfl; have hcz35_1 : w34.cell? ⟨gb486, 1, none⟩ = some (.int .i64 0) := (blk_cell BK486.out 1).trans rfl; have hcz35_2 : w34.cell? ⟨gb486, 2, none⟩ = some (.int .i64 0) := (blk_cell BK486.out 2).trans rfl; have hcz35_3 : w34.cell? ⟨gb486, 3, none⟩ = some (.int .i64 0) := (blk_cell BK486.out 3).trans rfl; have hfz35_0 := blk_frozen BK486.out 0; have hfz35_1 := blk_frozen BK486.out 1; have hfz35_2 := blk_frozen BK486.out 2; have hfz35_3 := blk_frozen BK486.out 3))
                              go_roundg k2
                              case measure => have := HK1.out; have := HK2.out; omega
                              case rel => exact ⟨(wrap64 (x56_2 + 1)), (by first | rfl | (simp; done) | (simp [*]; done)), H', ⟨by have := HK1.out; have := HK2.out; omega⟩, ⟨by (with_reducible repeat (first | apply Kd.S_alloc | apply Kd.S_drewN | apply Kd.S_drew)); exact Kd.S_mono (Kd.S_far (p := ⟨gb486, 3, none⟩) (Kd.S_far (p := ⟨gb486, 2, none⟩) (Kd.S_far (p := ⟨gb486, 1, none⟩) (Kd.S_far (p := ⟨gb486, 0, none⟩) (Kd.S_mono HO_5.out (fun k_ hk => (⟨hk, hk.2⟩ : _ ∧ k_ ≠ gb486))) (fun _ hk => hk.2) (.slice A485_0 ((rd_T36 t476 x56_2).f0).length c485_0)) (fun _ hk => hk.2) (.int .i64 ((rd_T36 t476 x56_2).f1))) (fun _ hk => hk.2) (.int .i64 ((rd_T36 t476 x56_2).f2))) (fun _ hk => hk.2) (.int .i64 ((rd_T36 t476 x56_2).f3))) (fun _ hk => trivial)⟩, ⟨by (with_reducible repeat (first | apply Kd.S_alloc | apply Kd.S_drewN | apply Kd.S_drew)); exact Kd.S_mono (Kd.S_far (p := ⟨gb486, 3, none⟩) (Kd.S_far (p := ⟨gb486, 2, none⟩) (Kd.S_far (p := ⟨gb486, 1, none⟩) (Kd.S_far (p := ⟨gb486, 0, none⟩) (Kd.S_mono HO_54.out (fun k_ hk => (⟨hk, hk.2⟩ : _ ∧ k_ ≠ gb486))) (fun _ hk => hk.2) (.slice A485_0 ((rd_T36 t476 x56_2).f0).length c485_0)) (fun _ hk => hk.2) (.int .i64 ((rd_T36 t476 x56_2).f1))) (fun _ hk => hk.2) (.int .i64 ((rd_T36 t476 x56_2).f2))) (fun _ hk => hk.2) (.int .i64 ((rd_T36 t476 x56_2).f3))) (fun _ hk => trivial)⟩, ⟨by repeat (first | (with_reducible first | exact HB.out | apply below_alloc | apply pw_below_drewN | apply below_drew1 | refine below_set ?_ GE486.out) | exact HB.out)⟩⟩
                          · as_aux_lemma =>
                            rw [if_neg c30] at H
                            have c30b0 : (((rd_T36 t476 x56_2).f3) == 1) = false := beq_eq_false_iff_ne.mpr c30
                            have c30b1 : (((rd_T36 t476 x56_2).f3) != 1) = true := bne_iff_ne.mpr c30
                            by_cases c36 : ((rd_T36 t476 x56_2).f3) = 2
                            · rw [if_pos c36] at H
                              have c36b0 : (((rd_T36 t476 x56_2).f3) == 2) = true := beq_iff_eq.mpr c36
                              have c36b1 : (((rd_T36 t476 x56_2).f3) != 2) = false := bne_eq_false_iff_eq.mpr c36
                              clear c36
                              by_cases c37 : ((rd_T36 t476 x56_2).f1) < a1
                              · rw [if_pos c37] at H
                                have c37b0 : decide (((rd_T36 t476 x56_2).f1) < a1) = true := decide_eq_true c37
                                clear c37
                                obtain rfl := Option.some.inj H
                                have p485 : 0 ≤ (x56_2 : Int) := of_decide_eq_true (by first | (with_reducible assumption) | assumption)
                                have q485 : x56_2 < (t476.length : Int) := of_decide_eq_true (by first | (with_reducible assumption) | assumption)
                                obtain ⟨ad485, A485_0, c485_0, e485, hx485_0, hx485_1, hx485_2, hx485_3, hl485_0, hi485_0⟩ := at_T36 (Kd.S_reads' HO_54.out).2.2 x56_2 p485 q485
                                cases e485
                                obtain ⟨ce485, hce485, hMe485, hcc485⟩ := Kd.S_get HO_54.out z36 x56_2 p485 (by first | exact q485 | exact of_decide_eq_true (by first | (with_reducible assumption) | assumption) | (have e_ := (Kd.S_reads' HO_54.out).1; omega))
                                obtain ⟨ve485_0, rfl, ge485_0⟩ := k36_openM hMe485
                                have hv485_0 := hcc485 0 _ rfl
                                rw [Nat.add_zero] at hv485_0
                                replace hv485_0 := Option.some.inj (hv485_0.symm.trans hx485_0)
                                rw [hv485_0] at ge485_0
                                have HL485_0 := Aside0.mk (show Kd.R (Kd.int .i64) 3 _ _ _ _ ((rd_T36 t476 x56_2).f0) from ge485_0)
                                clear hv485_0 ge485_0
                                clear hcc485 hce485
                                have HR485_0 := Aside0.mk hi485_0
                                have HC485_0 := Aside0.mk hl485_0
                                clear hi485_0 hl485_0
                                replace p485 := eq_true p485
                                replace q485 := eq_true q485
                                go_wp2_with (first | ((with_reducible refine gate_dst (N := 12) rfl ?_); (try (refine gate_guard (by rfl) ?_; dsimp only)); refine box_event ?hg (N := 12) ?hd (cs := #[.slice none 0 0, .int .i64 0, .int .i64 0, .int .i64 0]) (t := 36) ?hr ?_; (case hd => rfl); (case hg => rfl); (case hr => first | (go_simp; done) | (go_simp; rfl)); intro gb486 hg w38 hbox hb; have n0_ := Aside0.mk (Kd.S_below (Kd.S_elderB (by (with_reducible repeat (first | apply Kd.S_alloc | apply Kd.S_drewN | apply Kd.S_drew)); exact HO_5.out) gb486 (Nat.le_of_eq hg.symm)) hb); have n1_ := Aside0.mk (Kd.S_below (Kd.S_elderB (by (with_reducible repeat (first | apply Kd.S_alloc | apply Kd.S_drewN | apply Kd.S_drew)); exact HO_54.out) gb486 (Nat.le_of_eq hg.symm)) hb); have n2_ := Aside0.mk (Kd.R_below (by (with_reducible repeat (first | apply Kd.R_alloc | apply Kd.R_drewN | apply Kd.R_drew)); exact HL485_0.out) hb); have n3_ := Aside0.mk (Kd.C_below (by repeat (first | (with_reducible exact HR485_0.out) | (with_reducible refine Kd.C_alloc ?_ _) | (with_reducible refine Kd.C_drewN ?_ _) | (with_reducible refine Kd.C_drew ?_) | exact HR485_0.out)) hb); have n4_ := Aside0.mk (below_step (by repeat (first | (with_reducible first | exact HB.out | apply below_alloc | apply pw_below_drewN | apply below_drew1) | exact HB.out)) hb); have n5_ := Aside0.mk (hbox); have n6_ := Aside0.mk ((by rw [hg]; exact (below_size (by repeat (first | (with_reducible first | exact HB.out | apply below_alloc | apply pw_below_drewN | apply below_drew1) | exact HB.out))) : w.heap.size ≤ gb486)); have n7_ := Aside0.mk ((by rw [hg]; exact (below_size (by repeat (first | (with_reducible first | exact HB.out | apply below_alloc | apply pw_below_drewN | apply below_drew1) | exact HB.out))) : w.heap.size ≤ gb486)); clear HO_5; clear HO_54; clear HL485_0; clear HR485_0; clear HB; have HO_5 := n0_; have HO_54 := n1_; have HL485_0 := n2_; have HR485_0 := n3_; have HB := n4_; have BK486 := n5_; have GW486 := n6_; have GE486 := n7_; clear n0_ n1_ n2_ n3_ n4_ n5_ n6_ n7_; clear hb hbox hg; have hcz39_0 : w38.cell? ⟨gb486, 0, none⟩ = some (.slice none 0 0) := (blk_cell BK486.out 0).trans rfl; have hcz39_1 : w38.cell? ⟨gb486, 1, none⟩ = some (.int .i64 0) := (blk_cell BK486.out 1).trans rfl; have hcz39_2 : w38.cell? ⟨gb486, 2, none⟩ = some (.int .i64 0) := (blk_cell BK486.out 2).trans rfl; have hcz39_3 : w38.cell? ⟨gb486, 3, none⟩ = some (.int .i64 0) := (blk_cell BK486.out 3).trans rfl; have hfz39_0 := blk_frozen BK486.out 0; have hfz39_1 := blk_frozen BK486.out 1; have hfz39_2 := blk_frozen BK486.out 2; have hfz39_3 := blk_frozen BK486.out 3))
                                go_ret
                                exact ⟨by first | rfl | (simp [errW_none, errW_some] <;> rfl) | (simp [*, errW_none, errW_some] <;> rfl), by repeat (first | (with_reducible first | exact HB.out | apply below_alloc | apply pw_below_drewN | apply below_drew1 | refine below_set ?_ GE486.out) | exact HB.out)⟩
                              · rw [if_neg c37] at H
                                have c37b0 : decide (((rd_T36 t476 x56_2).f1) < a1) = false := decide_eq_false c37
                                clear c37
                                have H' := Aside0.mk H
                                clear H
                                have p485 : 0 ≤ (x56_2 : Int) := of_decide_eq_true (by first | (with_reducible assumption) | assumption)
                                have q485 : x56_2 < (t476.length : Int) := of_decide_eq_true (by first | (with_reducible assumption) | assumption)
                                obtain ⟨ad485, A485_0, c485_0, e485, hx485_0, hx485_1, hx485_2, hx485_3, hl485_0, hi485_0⟩ := at_T36 (Kd.S_reads' HO_54.out).2.2 x56_2 p485 q485
                                cases e485
                                obtain ⟨ce485, hce485, hMe485, hcc485⟩ := Kd.S_get HO_54.out z36 x56_2 p485 (by first | exact q485 | exact of_decide_eq_true (by first | (with_reducible assumption) | assumption) | (have e_ := (Kd.S_reads' HO_54.out).1; omega))
                                obtain ⟨ve485_0, rfl, ge485_0⟩ := k36_openM hMe485
                                have hv485_0 := hcc485 0 _ rfl
                                rw [Nat.add_zero] at hv485_0
                                replace hv485_0 := Option.some.inj (hv485_0.symm.trans hx485_0)
                                rw [hv485_0] at ge485_0
                                have HL485_0 := Aside0.mk (show Kd.R (Kd.int .i64) 3 _ _ _ _ ((rd_T36 t476 x56_2).f0) from ge485_0)
                                clear hv485_0 ge485_0
                                clear hcc485 hce485
                                have HR485_0 := Aside0.mk hi485_0
                                have HC485_0 := Aside0.mk hl485_0
                                clear hi485_0 hl485_0
                                replace p485 := eq_true p485
                                replace q485 := eq_true q485
                                go_wp2_with (first | ((with_reducible refine gate_dst (N := 12) rfl ?_); (try (refine gate_guard (by rfl) ?_; dsimp only)); refine box_event ?hg (N := 12) ?hd (cs := #[.slice none 0 0, .int .i64 0, .int .i64 0, .int .i64 0]) (t := 36) ?hr ?_; (case hd => rfl); (case hg => rfl); (case hr => first | (go_simp; done) | (go_simp; rfl)); intro gb486 hg w40 hbox hb; have n0_ := Aside0.mk (Kd.S_below (Kd.S_elderB (by (with_reducible repeat (first | apply Kd.S_alloc | apply Kd.S_drewN | apply Kd.S_drew)); exact HO_5.out) gb486 (Nat.le_of_eq hg.symm)) hb); have n1_ := Aside0.mk (Kd.S_below (Kd.S_elderB (by (with_reducible repeat (first | apply Kd.S_alloc | apply Kd.S_drewN | apply Kd.S_drew)); exact HO_54.out) gb486 (Nat.le_of_eq hg.symm)) hb); have n2_ := Aside0.mk (Kd.R_below (by (with_reducible repeat (first | apply Kd.R_alloc | apply Kd.R_drewN | apply Kd.R_drew)); exact HL485_0.out) hb); have n3_ := Aside0.mk (Kd.C_below (by repeat (first | (with_reducible exact HR485_0.out) | (with_reducible refine Kd.C_alloc ?_ _) | (with_reducible refine Kd.C_drewN ?_ _) | (with_reducible refine Kd.C_drew ?_) | exact HR485_0.out)) hb); have n4_ := Aside0.mk (below_step (by repeat (first | (with_reducible first | exact HB.out | apply below_alloc | apply pw_below_drewN | apply below_drew1) | exact HB.out)) hb); have n5_ := Aside0.mk (hbox); have n6_ := Aside0.mk ((by rw [hg]; exact (below_size (by repeat (first | (with_reducible first | exact HB.out | apply below_alloc | apply pw_below_drewN | apply below_drew1) | exact HB.out))) : w.heap.size ≤ gb486)); have n7_ := Aside0.mk ((by rw [hg]; exact (below_size (by repeat (first | (with_reducible first | exact HB.out | apply below_alloc | apply pw_below_drewN | apply below_drew1) | exact HB.out))) : w.heap.size ≤ gb486)); clear HO_5; clear HO_54; clear HL485_0; clear HR485_0; clear HB; have HO_5 := n0_; have HO_54 := n1_; have HL485_0 := n2_; have HR485_0 := n3_; have HB := n4_; have BK486 := n5_; have GW486 := n6_; have GE486 := n7_; clear n0_ n1_ n2_ n3_ n4_ n5_ n6_ n7_; clear hb hbox hg; have hcz41_0 : w40.cell? ⟨gb486, 0, none⟩ = some (.slice none 0 0) := (blk_cell BK486.out 0).trans rfl; have hcz41_1 : w40.cell? ⟨gb486, 1, none⟩ = some (.int .i64 0) := (blk_cell BK486.out 1).trans rfl; have hcz41_2 : w40.cell? ⟨gb486, 2, none⟩ = some (.int .i64 0) := (blk_cell BK486.out 2).trans rfl; have hcz41_3 : w40.cell? ⟨gb486, 3, none⟩ = some (.int .i64 0) := (blk_cell BK486.out 3).trans rfl; have hfz41_0 := blk_frozen BK486.out 0; have hfz41_1 := blk_frozen BK486.out 1; have hfz41_2 := blk_frozen BK486.out 2; have hfz41_3 := blk_frozen BK486.out 3))
                                go_roundg k2
                                case measure => have := HK1.out; have := HK2.out; omega
                                case rel => exact ⟨(wrap64 (x56_2 + 1)), (by first | rfl | (simp; done) | (simp [*]; done)), H', ⟨by have := HK1.out; have := HK2.out; omega⟩, ⟨by (with_reducible repeat (first | apply Kd.S_alloc | apply Kd.S_drewN | apply Kd.S_drew)); exact Kd.S_mono (Kd.S_far (p := ⟨gb486, 3, none⟩) (Kd.S_far (p := ⟨gb486, 2, none⟩) (Kd.S_far (p := ⟨gb486, 1, none⟩) (Kd.S_far (p := ⟨gb486, 0, none⟩) (Kd.S_mono HO_5.out (fun k_ hk => (⟨hk, hk.2⟩ : _ ∧ k_ ≠ gb486))) (fun _ hk => hk.2) (.slice A485_0 ((rd_T36 t476 x56_2).f0).length c485_0)) (fun _ hk => hk.2) (.int .i64 ((rd_T36 t476 x56_2).f1))) (fun _ hk => hk.2) (.int .i64 ((rd_T36 t476 x56_2).f2))) (fun _ hk => hk.2) (.int .i64 ((rd_T36 t476 x56_2).f3))) (fun _ hk => trivial)⟩, ⟨by (with_reducible repeat (first | apply Kd.S_alloc | apply Kd.S_drewN | apply Kd.S_drew)); exact Kd.S_mono (Kd.S_far (p := ⟨gb486, 3, none⟩) (Kd.S_far (p := ⟨gb486, 2, none⟩) (Kd.S_far (p := ⟨gb486, 1, none⟩) (Kd.S_far (p := ⟨gb486, 0, none⟩) (Kd.S_mono HO_54.out (fun k_ hk => (⟨hk, hk.2⟩ : _ ∧ k_ ≠ gb486))) (fun _ hk => hk.2) (.slice A485_0 ((rd_T36 t476 x56_2).f0).length c485_0)) (fun _ hk => hk.2) (.int .i64 ((rd_T36 t476 x56_2).f1))) (fun _ hk => hk.2) (.int .i64 ((rd_T36 t476 x56_2).f2))) (fun _ hk => hk.2) (.int .i64 ((rd_T36 t476 x56_2).f3))) (fun _ hk => trivial)⟩, ⟨by repeat (first | (with_reducible first | exact HB.out | apply below_alloc | apply pw_below_drewN | apply below_drew1 | refine below_set ?_ GE486.out) | exact HB.out)⟩⟩
                            · rw [if_neg c36] at H
                              have c36b0 : (((rd_T36 t476 x56_2).f3) == 2) = false := beq_eq_false_iff_ne.mpr c36
                              have c36b1 : (((rd_T36 t476 x56_2).f3) != 2) = true := bne_iff_ne.mpr c36
                              obtain rfl := Option.some.inj H
                              have p485 : 0 ≤ (x56_2 : Int) := of_decide_eq_true (by first | (with_reducible assumption) | assumption)
                              have q485 : x56_2 < (t476.length : Int) := of_decide_eq_true (by first | (with_reducible assumption) | assumption)
                              obtain ⟨ad485, A485_0, c485_0, e485, hx485_0, hx485_1, hx485_2, hx485_3, hl485_0, hi485_0⟩ := at_T36 (Kd.S_reads' HO_54.out).2.2 x56_2 p485 q485
                              cases e485
                              obtain ⟨ce485, hce485, hMe485, hcc485⟩ := Kd.S_get HO_54.out z36 x56_2 p485 (by first | exact q485 | exact of_decide_eq_true (by first | (with_reducible assumption) | assumption) | (have e_ := (Kd.S_reads' HO_54.out).1; omega))
                              obtain ⟨ve485_0, rfl, ge485_0⟩ := k36_openM hMe485
                              have hv485_0 := hcc485 0 _ rfl
                              rw [Nat.add_zero] at hv485_0
                              replace hv485_0 := Option.some.inj (hv485_0.symm.trans hx485_0)
                              rw [hv485_0] at ge485_0
                              have HL485_0 := Aside0.mk (show Kd.R (Kd.int .i64) 3 _ _ _ _ ((rd_T36 t476 x56_2).f0) from ge485_0)
                              clear hv485_0 ge485_0
                              clear hcc485 hce485
                              have HR485_0 := Aside0.mk hi485_0
                              have HC485_0 := Aside0.mk hl485_0
                              clear hi485_0 hl485_0
                              replace p485 := eq_true p485
                              replace q485 := eq_true q485
                              go_wp2_with (first | ((with_reducible refine gate_dst (N := 12) rfl ?_); (try (refine gate_guard (by rfl) ?_; dsimp only)); refine box_event ?hg (N := 12) ?hd (cs := #[.slice none 0 0, .int .i64 0, .int .i64 0, .int .i64 0]) (t := 36) ?hr ?_; (case hd => rfl); (case hg => rfl); (case hr => first | (go_simp; done) | (go_simp; rfl)); intro gb486 hg w42 hbox hb; have n0_ := Aside0.mk (Kd.S_below (Kd.S_elderB (by (with_reducible repeat (first | apply Kd.S_alloc | apply Kd.S_drewN | apply Kd.S_drew)); exact HO_5.out) gb486 (Nat.le_of_eq hg.symm)) hb); have n1_ := Aside0.mk (Kd.S_below (Kd.S_elderB (by (with_reducible repeat (first | apply Kd.S_alloc | apply Kd.S_drewN | apply Kd.S_drew)); exact HO_54.out) gb486 (Nat.le_of_eq hg.symm)) hb); have n2_ := Aside0.mk (Kd.R_below (by (with_reducible repeat (first | apply Kd.R_alloc | apply Kd.R_drewN | apply Kd.R_drew)); exact HL485_0.out) hb); have n3_ := Aside0.mk (Kd.C_below (by repeat (first | (with_reducible exact HR485_0.out) | (with_reducible refine Kd.C_alloc ?_ _) | (with_reducible refine Kd.C_drewN ?_ _) | (with_reducible refine Kd.C_drew ?_) | exact HR485_0.out)) hb); have n4_ := Aside0.mk (below_step (by repeat (first | (with_reducible first | exact HB.out | apply below_alloc | apply pw_below_drewN | apply below_drew1) | exact HB.out)) hb); have n5_ := Aside0.mk (hbox); have n6_ := Aside0.mk ((by rw [hg]; exact (below_size (by repeat (first | (with_reducible first | exact HB.out | apply below_alloc | apply pw_below_drewN | apply below_drew1) | exact HB.out))) : w.heap.size ≤ gb486)); have n7_ := Aside0.mk ((by rw [hg]; exact (below_size (by repeat (first | (with_reducible first | exact HB.out | apply below_alloc | apply pw_below_drewN | apply below_drew1) | exact HB.out))) : w.heap.size ≤ gb486)); clear HO_5; clear HO_54; clear HL485_0; clear HR485_0; clear HB; have HO_5 := n0_; have HO_54 := n1_; have HL485_0 := n2_; have HR485_0 := n3_; have HB := n4_; have BK486 := n5_; have GW486 := n6_; have GE486 := n7_; clear n0_ n1_ n2_ n3_ n4_ n5_ n6_ n7_; clear hb hbox hg; have hcz43_0 : w42.cell? ⟨gb486, 0, none⟩ = some (.slice none 0 0) := (blk_cell BK486.out 0).trans rfl; have hcz43_1 : w42.cell? ⟨gb486, 1, none⟩ = some (.int .i64 0) := (blk_cell BK486.out 1).trans rfl; have hcz43_2 : w42.cell? ⟨gb486, 2, none⟩ = some (.int .i64 0) := (blk_cell BK486.out 2).trans rfl; have hcz43_3 : w42.cell? ⟨gb486, 3, none⟩ = some (.int .i64 0) := (blk_cell BK486.out 3).trans rfl; have hfz43_0 := blk_frozen BK486.out 0; have hfz43_1 := blk_frozen BK486.out 1; have hfz43_2 := blk_frozen BK486.out 2; have hfz43_3 := blk_frozen BK486.out 3))
                              go_ret
                              exact ⟨by first | rfl | (simp [errW_none, errW_some] <;> rfl) | (simp [*, errW_none, errW_some] <;> rfl), by repeat (first | (with_reducible first | exact HB.out | apply below_alloc | apply pw_below_drewN | apply below_drew1 | refine below_set ?_ GE486.out) | exact HB.out)⟩
                        · as_aux_lemma =>
                          rw [if_neg c29] at H
                          have c29b0 : (((rd_T36 t476 x56_2).f2) == 1) = false := beq_eq_false_iff_ne.mpr c29
                          have c29b1 : (((rd_T36 t476 x56_2).f2) != 1) = true := bne_iff_ne.mpr c29
                          by_cases c44 : ((rd_T36 t476 x56_2).f2) = 2
                          · as_aux_lemma =>
                            rw [if_pos c44] at H
                            have c44b0 : (((rd_T36 t476 x56_2).f2) == 2) = true := beq_iff_eq.mpr c44
                            have c44b1 : (((rd_T36 t476 x56_2).f2) != 2) = false := bne_eq_false_iff_eq.mpr c44
                            clear c44
                            by_cases c45 : ((rd_T36 t476 x56_2).f3) = 1
                            · rw [if_pos c45] at H
                              have c45b0 : (((rd_T36 t476 x56_2).f3) == 1) = true := beq_iff_eq.mpr c45
                              have c45b1 : (((rd_T36 t476 x56_2).f3) != 1) = false := bne_eq_false_iff_eq.mpr c45
                              clear c45
                              by_cases c46 : ((rd_T36 t476 x56_2).f1) < a1
                              · rw [if_pos c46] at H
                                have c46b0 : decide (((rd_T36 t476 x56_2).f1) < a1) = true := decide_eq_true c46
                                clear c46
                                obtain rfl := Option.some.inj H
                                have p485 : 0 ≤ (x56_2 : Int) := of_decide_eq_true (by first | (with_reducible assumption) | assumption)
                                have q485 : x56_2 < (t476.length : Int) := of_decide_eq_true (by first | (with_reducible assumption) | assumption)
                                obtain ⟨ad485, A485_0, c485_0, e485, hx485_0, hx485_1, hx485_2, hx485_3, hl485_0, hi485_0⟩ := at_T36 (Kd.S_reads' HO_54.out).2.2 x56_2 p485 q485
                                cases e485
                                obtain ⟨ce485, hce485, hMe485, hcc485⟩ := Kd.S_get HO_54.out z36 x56_2 p485 (by first | exact q485 | exact of_decide_eq_true (by first | (with_reducible assumption) | assumption) | (have e_ := (Kd.S_reads' HO_54.out).1; omega))
                                obtain ⟨ve485_0, rfl, ge485_0⟩ := k36_openM hMe485
                                have hv485_0 := hcc485 0 _ rfl
                                rw [Nat.add_zero] at hv485_0
                                replace hv485_0 := Option.some.inj (hv485_0.symm.trans hx485_0)
                                rw [hv485_0] at ge485_0
                                have HL485_0 := Aside0.mk (show Kd.R (Kd.int .i64) 3 _ _ _ _ ((rd_T36 t476 x56_2).f0) from ge485_0)
                                clear hv485_0 ge485_0
                                clear hcc485 hce485
                                have HR485_0 := Aside0.mk hi485_0
                                have HC485_0 := Aside0.mk hl485_0
                                clear hi485_0 hl485_0
                                replace p485 := eq_true p485
                                replace q485 := eq_true q485
                                go_wp2_with (first | ((with_reducible refine gate_dst (N := 12) rfl ?_); (try (refine gate_guard (by rfl) ?_; dsimp only)); refine box_event ?hg (N := 12) ?hd (cs := #[.slice none 0 0, .int .i64 0, .int .i64 0, .int .i64 0]) (t := 36) ?hr ?_; (case hd => rfl); (case hg => rfl); (case hr => first | (go_simp; done) | (go_simp; rfl)); intro gb486 hg w47 hbox hb; have n0_ := Aside0.mk (Kd.S_below (Kd.S_elderB (by (with_reducible repeat (first | apply Kd.S_alloc | apply Kd.S_drewN | apply Kd.S_drew)); exact HO_5.out) gb486 (Nat.le_of_eq hg.symm)) hb); have n1_ := Aside0.mk (Kd.S_below (Kd.S_elderB (by (with_reducible repeat (first | apply Kd.S_alloc | apply Kd.S_drewN | apply Kd.S_drew)); exact HO_54.out) gb486 (Nat.le_of_eq hg.symm)) hb); have n2_ := Aside0.mk (Kd.R_below (by (with_reducible repeat (first | apply Kd.R_alloc | apply Kd.R_drewN | apply Kd.R_drew)); exact HL485_0.out) hb); have n3_ := Aside0.mk (Kd.C_below (by repeat (first | (with_reducible exact HR485_0.out) | (with_reducible refine Kd.C_alloc ?_ _) | (with_reducible refine Kd.C_drewN ?_ _) | (with_reducible refine Kd.C_drew ?_) | exact HR485_0.out)) hb); have n4_ := Aside0.mk (below_step (by repeat (first | (with_reducible first | exact HB.out | apply below_alloc | apply pw_below_drewN | apply below_drew1) | exact HB.out)) hb); have n5_ := Aside0.mk (hbox); have n6_ := Aside0.mk ((by rw [hg]; exact (below_size (by repeat (first | (with_reducible first | exact HB.out | apply below_alloc | apply pw_below_drewN | apply below_drew1) | exact HB.out))) : w.heap.size ≤ gb486)); have n7_ := Aside0.mk ((by rw [hg]; exact (below_size (by repeat (first | (with_reducible first | exact HB.out | apply below_alloc | apply pw_below_drewN | apply below_drew1) | exact HB.out))) : w.heap.size ≤ gb486)); clear HO_5; clear HO_54; clear HL485_0; clear HR485_0; clear HB; have HO_5 := n0_; have HO_54 := n1_; have HL485_0 := n2_; have HR485_0 := n3_; have HB := n4_; have BK486 := n5_; have GW486 := n6_; have GE486 := n7_; clear n0_ n1_ n2_ n3_ n4_ n5_ n6_ n7_; clear hb hbox hg; have hcz48_0 : w47.cell? ⟨gb486, 0, none⟩ = some (.slice none 0 0) := (blk_cell BK486.out 0).trans rfl; have hcz48_1 : w47.cell? ⟨gb486, 1, none⟩ = some (.int .i64 0) := (blk_cell BK486.out 1).trans rfl; have hcz48_2 : w47.cell? ⟨gb486, 2, none⟩ = some (.int .i64 0) := (blk_cell BK486.out 2).trans rfl; have hcz48_3 : w47.cell? ⟨gb486, 3, none⟩ = some (.int .i64 0) := (blk_cell BK486.out 3).trans rfl; have hfz48_0 := blk_frozen BK486.out 0; have hfz48_1 := blk_frozen BK486.out 1; have hfz48_2 := blk_frozen BK486.out 2; have hfz48_3 := blk_frozen BK486.out 3))
                                go_ret
                                exact ⟨by first | rfl | (simp [errW_none, errW_some] <;> rfl) | (simp [*, errW_none, errW_some] <;> rfl), by repeat (first | (with_reducible first | exact HB.out | apply below_alloc | apply pw_below_drewN | apply below_drew1 | refine below_set ?_ GE486.out) | exact HB.out)⟩
                              · rw [if_neg c46] at H
                                have c46b0 : decide (((rd_T36 t476 x56_2).f1) < a1) = false := decide_eq_false c46
                                clear c46
                                have H' := Aside0.mk H
                                clear H
                                have p485 : 0 ≤ (x56_2 : Int) := of_decide_eq_true (by first | (with_reducible assumption) | assumption)
                                have q485 : x56_2 < (t476.length : Int) := of_decide_eq_true (by first | (with_reducible assumption) | assumption)
                                obtain ⟨ad485, A485_0, c485_0, e485, hx485_0, hx485_1, hx485_2, hx485_3, hl485_0, hi485_0⟩ := at_T36 (Kd.S_reads' HO_54.out).2.2 x56_2 p485 q485
                                cases e485
                                obtain ⟨ce485, hce485, hMe485, hcc485⟩ := Kd.S_get HO_54.out z36 x56_2 p485 (by first | exact q485 | exact of_decide_eq_true (by first | (with_reducible assumption) | assumption) | (have e_ := (Kd.S_reads' HO_54.out).1; omega))
                                obtain ⟨ve485_0, rfl, ge485_0⟩ := k36_openM hMe485
                                have hv485_0 := hcc485 0 _ rfl
                                rw [Nat.add_zero] at hv485_0
                                replace hv485_0 := Option.some.inj (hv485_0.symm.trans hx485_0)
                                rw [hv485_0] at ge485_0
                                have HL485_0 := Aside0.mk (show Kd.R (Kd.int .i64) 3 _ _ _ _ ((rd_T36 t476 x56_2).f0) from ge485_0)
                                clear hv485_0 ge485_0
                                clear hcc485 hce485
                                have HR485_0 := Aside0.mk hi485_0
                                have HC485_0 := Aside0.mk hl485_0
                                clear hi485_0 hl485_0
                                replace p485 := eq_true p485
                                replace q485 := eq_true q485
                                go_wp2_with (first | ((with_reducible refine gate_dst (N := 12) rfl ?_); (try (refine gate_guard (by rfl) ?_; dsimp only)); refine box_event ?hg (N := 12) ?hd (cs := #[.slice none 0 0, .int .i64 0, .int .i64 0, .int .i64 0]) (t := 36) ?hr ?_; (case hd => rfl); (case hg => rfl); (case hr => first | (go_simp; done) | (go_simp; rfl)); intro gb486 hg w49 hbox hb; have n0_ := Aside0.mk (Kd.S_below (Kd.S_elderB (by (with_reducible repeat (first | apply Kd.S_alloc | apply Kd.S_drewN | apply Kd.S_drew)); exact HO_5.out) gb486 (Nat.le_of_eq hg.symm)) hb); have n1_ := Aside0.mk (Kd.S_below (Kd.S_elderB (by (with_reducible repeat (first | apply Kd.S_alloc | apply Kd.S_drewN | apply Kd.S_drew)); exact HO_54.out) gb486 (Nat.le_of_eq hg.symm)) hb); have n2_ := Aside0.mk (Kd.R_below (by (with_reducible repeat (first | apply Kd.R_alloc | apply Kd.R_drewN | apply Kd.R_drew)); exact HL485_0.out) hb); have n3_ := Aside0.mk (Kd.C_below (by repeat (first | (with_reducible exact HR485_0.out) | (with_reducible refine Kd.C_alloc ?_ _) | (with_reducible refine Kd.C_drewN ?_ _) | (with_reducible refine Kd.C_drew ?_) | exact HR485_0.out)) hb); have n4_ := Aside0.mk (below_step (by repeat (first | (with_reducible first | exact HB.out | apply below_alloc | apply pw_below_drewN | apply below_drew1) | exact HB.out)) hb); have n5_ := Aside0.mk (hbox); have n6_ := Aside0.mk ((by rw [hg]; exact (below_size (by repeat (first | (with_reducible first | exact HB.out | apply below_alloc | apply pw_below_drewN | apply below_drew1) | exact HB.out))) : w.heap.size ≤ gb486)); have n7_ := Aside0.mk ((by rw [hg]; exact (below_size (by repeat (first | (with_reducible first | exact HB.out | apply below_alloc | apply pw_below_drewN | apply below_drew1) | exact HB.out))) : w.heap.size ≤ gb486)); clear HO_5; clear HO_54; clear HL485_0; clear HR485_0; clear HB; have HO_5 := n0_; have HO_54 := n1_; have HL485_0 := n2_; have HR485_0 := n3_; have HB := n4_; have BK486 := n5_; have GW486 := n6_; have GE486 := n7_; clear n0_ n1_ n2_ n3_ n4_ n5_ n6_ n7_; clear hb hbox hg; have hcz50_0 : w49.cell? ⟨gb486, 0, none⟩ = some (.slice none 0 0) := (blk_cell BK486.out 0).trans rfl; have hcz50_1 : w49.cell? ⟨gb486, 1, none⟩ = some (.int .i64 0) := (blk_cell BK486.out 1).trans rfl; have hcz50_2 : w49.cell? ⟨gb486, 2, none⟩ = some (.int .i64 0) := (blk_cell BK486.out 2).trans rfl; have hcz50_3 : w49.cell? ⟨gb486, 3, none⟩ = some (.int .i64 0) := (blk_cell BK486.out 3).trans rfl; have hfz50_0 := blk_frozen BK486.out 0; have hfz50_1 := blk_frozen BK486.out 1; have hfz50_2 := blk_frozen BK486.out 2; have hfz50_3 := blk_frozen BK486.out 3))
                                go_roundg k2
                                case measure => have := HK1.out; have := HK2.out; omega
                                case rel => exact ⟨(wrap64 (x56_2 + 1)), (by first | rfl | (simp; done) | (simp [*]; done)), H', ⟨by have := HK1.out; have := HK2.out; omega⟩, ⟨by (with_reducible repeat (first | apply Kd.S_alloc | apply Kd.S_drewN | apply Kd.S_drew)); exact Kd.S_mono (Kd.S_far (p := ⟨gb486, 3, none⟩) (Kd.S_far (p := ⟨gb486, 2, none⟩) (Kd.S_far (p := ⟨gb486, 1, none⟩) (Kd.S_far (p := ⟨gb486, 0, none⟩) (Kd.S_mono HO_5.out (fun k_ hk => (⟨hk, hk.2⟩ : _ ∧ k_ ≠ gb486))) (fun _ hk => hk.2) (.slice A485_0 ((rd_T36 t476 x56_2).f0).length c485_0)) (fun _ hk => hk.2) (.int .i64 ((rd_T36 t476 x56_2).f1))) (fun _ hk => hk.2) (.int .i64 ((rd_T36 t476 x56_2).f2))) (fun _ hk => hk.2) (.int .i64 ((rd_T36 t476 x56_2).f3))) (fun _ hk => trivial)⟩, ⟨by (with_reducible repeat (first | apply Kd.S_alloc | apply Kd.S_drewN | apply Kd.S_drew)); exact Kd.S_mono (Kd.S_far (p := ⟨gb486, 3, none⟩) (Kd.S_far (p := ⟨gb486, 2, none⟩) (Kd.S_far (p := ⟨gb486, 1, none⟩) (Kd.S_far (p := ⟨gb486, 0, none⟩) (Kd.S_mono HO_54.out (fun k_ hk => (⟨hk, hk.2⟩ : _ ∧ k_ ≠ gb486))) (fun _ hk => hk.2) (.slice A485_0 ((rd_T36 t476 x56_2).f0).length c485_0)) (fun _ hk => hk.2) (.int .i64 ((rd_T36 t476 x56_2).f1))) (fun _ hk => hk.2) (.int .i64 ((rd_T36 t476 x56_2).f2))) (fun _ hk => hk.2) (.int .i64 ((rd_T36 t476 x56_2).f3))) (fun _ hk => trivial)⟩, ⟨by repeat (first | (with_reducible first | exact HB.out | apply below_alloc | apply pw_below_drewN | apply below_drew1 | refine below_set ?_ GE486.out) | exact HB.out)⟩⟩
                            · as_aux_lemma =>
                              rw [if_neg c45] at H
                              have c45b0 : (((rd_T36 t476 x56_2).f3) == 1) = false := beq_eq_false_iff_ne.mpr c45
                              have c45b1 : (((rd_T36 t476 x56_2).f3) != 1) = true := bne_iff_ne.mpr c45
                              by_cases c51 : ((rd_T36 t476 x56_2).f3) = 2
                              · rw [if_pos c51] at H
                                have c51b0 : (((rd_T36 t476 x56_2).f3) == 2) = true := beq_iff_eq.mpr c51
                                have c51b1 : (((rd_T36 t476 x56_2).f3) != 2) = false := bne_eq_false_iff_eq.mpr c51
                                clear c51
                                by_cases c52 : ((rd_T36 t476 x56_2).f1) < a1
                                · rw [if_pos c52] at H
                                  have c52b0 : decide (((rd_T36 t476 x56_2).f1) < a1) = true := decide_eq_true c52
                                  clear c52
                                  obtain rfl := Option.some.inj H
                                  have p485 : 0 ≤ (x56_2 : Int) := of_decide_eq_true (by first | (with_reducible assumption) | assumption)
                                  have q485 : x56_2 < (t476.length : Int) := of_decide_eq_true (by first | (with_reducible assumption) | assumption)
                                  obtain ⟨ad485, A485_0, c485_0, e485, hx485_0, hx485_1, hx485_2, hx485_3, hl485_0, hi485_0⟩ := at_T36 (Kd.S_reads' HO_54.out).2.2 x56_2 p485 q485
                                  cases e485
                                  obtain ⟨ce485, hce485, hMe485, hcc485⟩ := Kd.S_get HO_54.out z36 x56_2 p485 (by first | exact q485 | exact of_decide_eq_true (by first | (with_reducible assumption) | assumption) | (have e_ := (Kd.S_reads' HO_54.out).1; omega))
                                  obtain ⟨ve485_0, rfl, ge485_0⟩ := k36_openM hMe485
                                  have hv485_0 := hcc485 0 _ rfl
                                  rw [Nat.add_zero] at hv485_0
                                  replace hv485_0 := Option.some.inj (hv485_0.symm.trans hx485_0)
                                  rw [hv485_0] at ge485_0
                                  have HL485_0 := Aside0.mk (show Kd.R (Kd.int .i64) 3 _ _ _ _ ((rd_T36 t476 x56_2).f0) from ge485_0)
                                  clear hv485_0 ge485_0
                                  clear hcc485 hce485
                                  have HR485_0 := Aside0.mk hi485_0
                                  have HC485_0 := Aside0.mk hl485_0
                                  clear hi485_0 hl485_0
                                  replace p485 := eq_true p485
                                  replace q485 := eq_true q485
                                  go_wp2_with (first | ((with_reducible refine gate_dst (N := 12) rfl ?_); (try (refine gate_guard (by rfl) ?_; dsimp only)); refine box_event ?hg (N := 12) ?hd (cs := #[.slice none 0 0, .int .i64 0, .int .i64 0, .int .i64 0]) (t := 36) ?hr ?_; (case hd => rfl); (case hg => rfl); (case hr => first | (go_simp; done) | (go_simp; rfl)); intro gb486 hg w53 hbox hb; have n0_ := Aside0.mk (Kd.S_below (Kd.S_elderB (by (with_reducible repeat (first | apply Kd.S_alloc | apply Kd.S_drewN | apply Kd.S_drew)); exact HO_5.out) gb486 (Nat.le_of_eq hg.symm)) hb); have n1_ := Aside0.mk (Kd.S_below (Kd.S_elderB (by (with_reducible repeat (first | apply Kd.S_alloc | apply Kd.S_drewN | apply Kd.S_drew)); exact HO_54.out) gb486 (Nat.le_of_eq hg.symm)) hb); have n2_ := Aside0.mk (Kd.R_below (by (with_reducible repeat (first | apply Kd.R_alloc | apply Kd.R_drewN | apply Kd.R_drew)); exact HL485_0.out) hb); have n3_ := Aside0.mk (Kd.C_below (by repeat (first | (with_reducible exact HR485_0.out) | (with_reducible refine Kd.C_alloc ?_ _) | (with_reducible refine Kd.C_drewN ?_ _) | (with_reducible refine Kd.C_drew ?_) | exact HR485_0.out)) hb); have n4_ := Aside0.mk (below_step (by repeat (first | (with_reducible first | exact HB.out | apply below_alloc | apply pw_below_drewN | apply below_drew1) | exact HB.out)) hb); have n5_ := Aside0.mk (hbox); have n6_ := Aside0.mk ((by rw [hg]; exact (below_size (by repeat (first | (with_reducible first | exact HB.out | apply below_alloc | apply pw_below_drewN | apply below_drew1) | exact HB.out))) : w.heap.size ≤ gb486)); have n7_ := Aside0.mk ((by rw [hg]; exact (below_size (by repeat (first | (with_reducible first | exact HB.out | apply below_alloc | apply pw_below_drewN | apply below_drew1) | exact HB.out))) : w.heap.size ≤ gb486)); clear HO_5; clear HO_54; clear HL485_0; clear HR485_0; clear HB; have HO_5 := n0_; have HO_54 := n1_; have HL485_0 := n2_; have HR485_0 := n3_; have HB := n4_; have BK486 := n5_; have GW486 := n6_; have GE486 := n7_; clear n0_ n1_ n2_ n3_ n4_ n5_ n6_ n7_; clear hb hbox hg; have hcz54_0 : w53.cell? ⟨gb486, 0, none⟩ = some (.slice none 0 0) := (blk_cell BK486.out 0).trans rfl; have hcz54_1 : w53.cell? ⟨gb486, 1, none⟩ = some (.int .i64 0) := (blk_cell BK486.out 1).trans rfl; have hcz54_2 : w53.cell? ⟨gb486, 2, none⟩ = some (.int .i64 0) := (blk_cell BK486.out 2).trans rfl; have hcz54_3 : w53.cell? ⟨gb486, 3, none⟩ = some (.int .i64 0) := (blk_cell BK486.out 3).trans rfl; have hfz54_0 := blk_frozen BK486.out 0; have hfz54_1 := blk_frozen BK486.out 1; have hfz54_2 := blk_frozen BK486.out 2; have hfz54_3 := blk_frozen BK486.out 3))
                                  go_ret
                                  exact ⟨by first | rfl | (simp [errW_none, errW_some] <;> rfl) | (simp [*, errW_none, errW_some] <;> rfl), by repeat (first | (with_reducible first | exact HB.out | apply below_alloc | apply pw_below_drewN | apply below_drew1 | refine below_set ?_ GE486.out) | exact HB.out)⟩
                                · rw [if_neg c52] at H
                                  have c52b0 : decide (((rd_T36 t476 x56_2).f1) < a1) = false := decide_eq_false c52
                                  clear c52
                                  have H' := Aside0.mk H
                                  clear H
                                  have p485 : 0 ≤ (x56_2 : Int) := of_decide_eq_true (by first | (with_reducible assumption) | assumption)
                                  have q485 : x56_2 < (t476.length : Int) := of_decide_eq_true (by first | (with_reducible assumption) | assumption)
                                  obtain ⟨ad485, A485_0, c485_0, e485, hx485_0, hx485_1, hx485_2, hx485_3, hl485_0, hi485_0⟩ := at_T36 (Kd.S_reads' HO_54.out).2.2 x56_2 p485 q485
                                  cases e485
                                  obtain ⟨ce485, hce485, hMe485, hcc485⟩ := Kd.S_get HO_54.out z36 x56_2 p485 (by first | exact q485 | exact of_decide_eq_true (by first | (with_reducible assumption) | assumption) | (have e_ := (Kd.S_reads' HO_54.out).1; omega))
                                  obtain ⟨ve485_0, rfl, ge485_0⟩ := k36_openM hMe485
                                  have hv485_0 := hcc485 0 _ rfl
                                  rw [Nat.add_zero] at hv485_0
                                  replace hv485_0 := Option.some.inj (hv485_0.symm.trans hx485_0)
                                  rw [hv485_0] at ge485_0
                                  have HL485_0 := Aside0.mk (show Kd.R (Kd.int .i64) 3 _ _ _ _ ((rd_T36 t476 x56_2).f0) from ge485_0)
                                  clear hv485_0 ge485_0
                                  clear hcc485 hce485
                                  have HR485_0 := Aside0.mk hi485_0
                                  have HC485_0 := Aside0.mk hl485_0
                                  clear hi485_0 hl485_0
                                  replace p485 := eq_true p485
                                  replace q485 := eq_true q485
                                  go_wp2_with (first | ((with_reducible refine gate_dst (N := 12) rfl ?_); (try (refine gate_guard (by rfl) ?_; dsimp only)); refine box_event ?hg (N := 12) ?hd (cs := #[.slice none 0 0, .int .i64 0, .int .i64 0, .int .i64 0]) (t := 36) ?hr ?_; (case hd => rfl); (case hg => rfl); (case hr => first | (go_simp; done) | (go_simp; rfl)); intro gb486 hg w55 hbox hb; have n0_ := Aside0.mk (Kd.S_below (Kd.S_elderB (by (with_reducible repeat (first | apply Kd.S_alloc | apply Kd.S_drewN | apply Kd.S_drew)); exact HO_5.out) gb486 (Nat.le_of_eq hg.symm)) hb); have n1_ := Aside0.mk (Kd.S_below (Kd.S_elderB (by (with_reducible repeat (first | apply Kd.S_alloc | apply Kd.S_drewN | apply Kd.S_drew)); exact HO_54.out) gb486 (Nat.le_of_eq hg.symm)) hb); have n2_ := Aside0.mk (Kd.R_below (by (with_reducible repeat (first | apply Kd.R_alloc | apply Kd.R_drewN | apply Kd.R_drew)); exact HL485_0.out) hb); have n3_ := Aside0.mk (Kd.C_below (by repeat (first | (with_reducible exact HR485_0.out) | (with_reducible refine Kd.C_alloc ?_ _) | (with_reducible refine Kd.C_drewN ?_ _) | (with_reducible refine Kd.C_drew ?_) | exact HR485_0.out)) hb); have n4_ := Aside0.mk (below_step (by repeat (first | (with_reducible first | exact HB.out | apply below_alloc | apply pw_below_drewN | apply below_drew1) | exact HB.out)) hb); have n5_ := Aside0.mk (hbox); have n6_ := Aside0.mk ((by rw [hg]; exact (below_size (by repeat (first | (with_reducible first | exact HB.out | apply below_alloc | apply pw_below_drewN | apply below_drew1) | exact HB.out))) : w.heap.size ≤ gb486)); have n7_ := Aside0.mk ((by rw [hg]; exact (below_size (by repeat (first | (with_reducible first | exact HB.out | apply below_alloc | apply pw_below_drewN | apply below_drew1) | exact HB.out))) : w.heap.size ≤ gb486)); clear HO_5; clear HO_54; clear HL485_0; clear HR485_0; clear HB; have HO_5 := n0_; have HO_54 := n1_; have HL485_0 := n2_; have HR485_0 := n3_; have HB := n4_; have BK486 := n5_; have GW486 := n6_; have GE486 := n7_; clear n0_ n1_ n2_ n3_ n4_ n5_ n6_ n7_; clear hb hbox hg; have hcz56_0 : w55.cell? ⟨gb486, 0, none⟩ = some (.slice none 0 0) := (blk_cell BK486.out 0).trans rfl; have hcz56_1 : w55.cell? ⟨gb486, 1, none⟩ = some (.int .i64 0) := (blk_cell BK486.out 1).trans rfl; have hcz56_2 : w55.cell? ⟨gb486, 2, none⟩ = some (.int .i64 0) := (blk_cell BK486.out 2).trans rfl; have hcz56_3 : w55.cell? ⟨gb486, 3, none⟩ = some (.int .i64 0) := (blk_cell BK486.out 3).trans rfl; have hfz56_0 := blk_frozen BK486.out 0; have hfz56_1 := blk_frozen BK486.out 1; have hfz56_2 := blk_frozen BK486.out 2; have hfz56_3 := blk_frozen BK486.out 3))
                                  go_roundg k2
                                  case measure => have := HK1.out; have := HK2.out; omega
                                  case rel => exact ⟨(wrap64 (x56_2 + 1)), (by first | rfl | (simp; done) | (simp [*]; done)), H', ⟨by have := HK1.out; have := HK2.out; omega⟩, ⟨by (with_reducible repeat (first | apply Kd.S_alloc | apply Kd.S_drewN | apply Kd.S_drew)); exact Kd.S_mono (Kd.S_far (p := ⟨gb486, 3, none⟩) (Kd.S_far (p := ⟨gb486, 2, none⟩) (Kd.S_far (p := ⟨gb486, 1, none⟩) (Kd.S_far (p := ⟨gb486, 0, none⟩) (Kd.S_mono HO_5.out (fun k_ hk => (⟨hk, hk.2⟩ : _ ∧ k_ ≠ gb486))) (fun _ hk => hk.2) (.slice A485_0 ((rd_T36 t476 x56_2).f0).length c485_0)) (fun _ hk => hk.2) (.int .i64 ((rd_T36 t476 x56_2).f1))) (fun _ hk => hk.2) (.int .i64 ((rd_T36 t476 x56_2).f2))) (fun _ hk => hk.2) (.int .i64 ((rd_T36 t476 x56_2).f3))) (fun _ hk => trivial)⟩, ⟨by (with_reducible repeat (first | apply Kd.S_alloc | apply Kd.S_drewN | apply Kd.S_drew)); exact Kd.S_mono (Kd.S_far (p := ⟨gb486, 3, none⟩) (Kd.S_far (p := ⟨gb486, 2, none⟩) (Kd.S_far (p := ⟨gb486, 1, none⟩) (Kd.S_far (p := ⟨gb486, 0, none⟩) (Kd.S_mono HO_54.out (fun k_ hk => (⟨hk, hk.2⟩ : _ ∧ k_ ≠ gb486))) (fun _ hk => hk.2) (.slice A485_0 ((rd_T36 t476 x56_2).f0).length c485_0)) (fun _ hk => hk.2) (.int .i64 ((rd_T36 t476 x56_2).f1))) (fun _ hk => hk.2) (.int .i64 ((rd_T36 t476 x56_2).f2))) (fun _ hk => hk.2) (.int .i64 ((rd_T36 t476 x56_2).f3))) (fun _ hk => trivial)⟩, ⟨by repeat (first | (with_reducible first | exact HB.out | apply below_alloc | apply pw_below_drewN | apply below_drew1 | refine below_set ?_ GE486.out) | exact HB.out)⟩⟩
                              · rw [if_neg c51] at H
                                have c51b0 : (((rd_T36 t476 x56_2).f3) == 2) = false := beq_eq_false_iff_ne.mpr c51
                                have c51b1 : (((rd_T36 t476 x56_2).f3) != 2) = true := bne_iff_ne.mpr c51
                                obtain rfl := Option.some.inj H
                                have p485 : 0 ≤ (x56_2 : Int) := of_decide_eq_true (by first | (with_reducible assumption) | assumption)
                                have q485 : x56_2 < (t476.length : Int) := of_decide_eq_true (by first | (with_reducible assumption) | assumption)
                                obtain ⟨ad485, A485_0, c485_0, e485, hx485_0, hx485_1, hx485_2, hx485_3, hl485_0, hi485_0⟩ := at_T36 (Kd.S_reads' HO_54.out).2.2 x56_2 p485 q485
                                cases e485
                                obtain ⟨ce485, hce485, hMe485, hcc485⟩ := Kd.S_get HO_54.out z36 x56_2 p485 (by first | exact q485 | exact of_decide_eq_true (by first | (with_reducible assumption) | assumption) | (have e_ := (Kd.S_reads' HO_54.out).1; omega))
                                obtain ⟨ve485_0, rfl, ge485_0⟩ := k36_openM hMe485
                                have hv485_0 := hcc485 0 _ rfl
                                rw [Nat.add_zero] at hv485_0
                                replace hv485_0 := Option.some.inj (hv485_0.symm.trans hx485_0)
                                rw [hv485_0] at ge485_0
                                have HL485_0 := Aside0.mk (show Kd.R (Kd.int .i64) 3 _ _ _ _ ((rd_T36 t476 x56_2).f0) from ge485_0)
                                clear hv485_0 ge485_0
                                clear hcc485 hce485
                                have HR485_0 := Aside0.mk hi485_0
                                have HC485_0 := Aside0.mk hl485_0
                                clear hi485_0 hl485_0
                                replace p485 := eq_true p485
                                replace q485 := eq_true q485
                                go_wp2_with (first | ((with_reducible refine gate_dst (N := 12) rfl ?_); (try (refine gate_guard (by rfl) ?_; dsimp only)); refine box_event ?hg (N := 12) ?hd (cs := #[.slice none 0 0, .int .i64 0, .int .i64 0, .int .i64 0]) (t := 36) ?hr ?_; (case hd => rfl); (case hg => rfl); (case hr => first | (go_simp; done) | (go_simp; rfl)); intro gb486 hg w57 hbox hb; have n0_ := Aside0.mk (Kd.S_below (Kd.S_elderB (by (with_reducible repeat (first | apply Kd.S_alloc | apply Kd.S_drewN | apply Kd.S_drew)); exact HO_5.out) gb486 (Nat.le_of_eq hg.symm)) hb); have n1_ := Aside0.mk (Kd.S_below (Kd.S_elderB (by (with_reducible repeat (first | apply Kd.S_alloc | apply Kd.S_drewN | apply Kd.S_drew)); exact HO_54.out) gb486 (Nat.le_of_eq hg.symm)) hb); have n2_ := Aside0.mk (Kd.R_below (by (with_reducible repeat (first | apply Kd.R_alloc | apply Kd.R_drewN | apply Kd.R_drew)); exact HL485_0.out) hb); have n3_ := Aside0.mk (Kd.C_below (by repeat (first | (with_reducible exact HR485_0.out) | (with_reducible refine Kd.C_alloc ?_ _) | (with_reducible refine Kd.C_drewN ?_ _) | (with_reducible refine Kd.C_drew ?_) | exact HR485_0.out)) hb); have n4_ := Aside0.mk (below_step (by repeat (first | (with_reducible first | exact HB.out | apply below_alloc | apply pw_below_drewN | apply below_drew1) | exact HB.out)) hb); have n5_ := Aside0.mk (hbox); have n6_ := Aside0.mk ((by rw [hg]; exact (below_size (by repeat (first | (with_reducible first | exact HB.out | apply below_alloc | apply pw_below_drewN | apply below_drew1) | exact HB.out))) : w.heap.size ≤ gb486)); have n7_ := Aside0.mk ((by rw [hg]; exact (below_size (by repeat (first | (with_reducible first | exact HB.out | apply below_alloc | apply pw_below_drewN | apply below_drew1) | exact HB.out))) : w.heap.size ≤ gb486)); clear HO_5; clear HO_54; clear HL485_0; clear HR485_0; clear HB; have HO_5 := n0_; have HO_54 := n1_; have HL485_0 := n2_; have HR485_0 := n3_; have HB := n4_; have BK486 := n5_; have GW486 := n6_; have GE486 := n7_; clear n0_ n1_ n2_ n3_ n4_ n5_ n6_ n7_; clear hb hbox hg; have hcz58_0 : w57.cell? ⟨gb486, 0, none⟩ = some (.slice none 0 0) := (blk_cell BK486.out 0).trans rfl; have hcz58_1 : w57.cell? ⟨gb486, 1, none⟩ = some (.int .i64 0) := (blk_cell BK486.out 1).trans rfl; have hcz58_2 : w57.cell? ⟨gb486, 2, none⟩ = some (.int .i64 0) := (blk_cell BK486.out 2).trans rfl; have hcz58_3 : w57.cell? ⟨gb486, 3, none⟩ = some (.int .i64 0) := (blk_cell BK486.out 3).trans rfl; have hfz58_0 := blk_frozen BK486.out 0; have hfz58_1 := blk_frozen BK486.out 1; have hfz58_2 := blk_frozen BK486.out 2; have hfz58_3 := blk_frozen BK486.out 3))
                                go_ret
                                exact ⟨by first | rfl | (simp [errW_none, errW_some] <;> rfl) | (simp [*, errW_none, errW_some] <;> rfl), by repeat (first | (with_reducible first | exact HB.out | apply below_alloc | apply pw_below_drewN | apply below_drew1 | refine below_set ?_ GE486.out) | exact HB.out)⟩
                          · rw [if_neg c44] at H
                            have c44b0 : (((rd_T36 t476 x56_2).f2) == 2) = false := beq_eq_false_iff_ne.mpr c44
                            have c44b1 : (((rd_T36 t476 x56_2).f2) != 2) = true := bne_iff_ne.mpr c44
                            obtain rfl := Option.some.inj H
                            have p485 : 0 ≤ (x56_2 : Int) := of_decide_eq_true (by first | (with_reducible assumption) | assumption)
                            have q485 : x56_2 < (t476.length : Int) := of_decide_eq_true (by first | (with_reducible assumption) | assumption)
                            obtain ⟨ad485, A485_0, c485_0, e485, hx485_0, hx485_1, hx485_2, hx485_3, hl485_0, hi485_0⟩ := at_T36 (Kd.S_reads' HO_54.out).2.2 x56_2 p485 q485
                            cases e485
                            obtain ⟨ce485, hce485, hMe485, hcc485⟩ := Kd.S_get HO_54.out z36 x56_2 p485 (by first | exact q485 | exact of_decide_eq_true (by first | (with_reducible assumption) | assumption) | (have e_ := (Kd.S_reads' HO_54.out).1; omega))
                            obtain ⟨ve485_0, rfl, ge485_0⟩ := k36_openM hMe485
                            have hv485_0 := hcc485 0 _ rfl
                            rw [Nat.add_zero] at hv485_0
                            replace hv485_0 := Option.some.inj (hv485_0.symm.trans hx485_0)
                            rw [hv485_0] at ge485_0
                            have HL485_0 := Aside0.mk (show Kd.R (Kd.int .i64) 3 _ _ _ _ ((rd_T36 t476 x56_2).f0) from ge485_0)
                            clear hv485_0 ge485_0
                            clear hcc485 hce485
                            have HR485_0 := Aside0.mk hi485_0
                            have HC485_0 := Aside0.mk hl485_0
                            clear hi485_0 hl485_0
                            replace p485 := eq_true p485
                            replace q485 := eq_true q485
                            go_wp2_with (first | ((with_reducible refine gate_dst (N := 12) rfl ?_); (try (refine gate_guard (by rfl) ?_; dsimp only)); refine box_event ?hg (N := 12) ?hd (cs := #[.slice none 0 0, .int .i64 0, .int .i64 0, .int .i64 0]) (t := 36) ?hr ?_; (case hd => rfl); (case hg => rfl); (case hr => first | (go_simp; done) | (go_simp; rfl)); intro gb486 hg w59 hbox hb; have n0_ := Aside0.mk (Kd.S_below (Kd.S_elderB (by (with_reducible repeat (first | apply Kd.S_alloc | apply Kd.S_drewN | apply Kd.S_drew)); exact HO_5.out) gb486 (Nat.le_of_eq hg.symm)) hb); have n1_ := Aside0.mk (Kd.S_below (Kd.S_elderB (by (with_reducible repeat (first | apply Kd.S_alloc | apply Kd.S_drewN | apply Kd.S_drew)); exact HO_54.out) gb486 (Nat.le_of_eq hg.symm)) hb); have n2_ := Aside0.mk (Kd.R_below (by (with_reducible repeat (first | apply Kd.R_alloc | apply Kd.R_drewN | apply Kd.R_drew)); exact HL485_0.out) hb); have n3_ := Aside0.mk (Kd.C_below (by repeat (first | (with_reducible exact HR485_0.out) | (with_reducible refine Kd.C_alloc ?_ _) | (with_reducible refine Kd.C_drewN ?_ _) | (with_reducible refine Kd.C_drew ?_) | exact HR485_0.out)) hb); have n4_ := Aside0.mk (below_step (by repeat (first | (with_reducible first | exact HB.out | apply below_alloc | apply pw_below_drewN | apply below_drew1) | exact HB.out)) hb); have n5_ := Aside0.mk (hbox); have n6_ := Aside0.mk ((by rw [hg]; exact (below_size (by repeat (first | (with_reducible first | exact HB.out | apply below_alloc | apply pw_below_drewN | apply below_drew1) | exact HB.out))) : w.heap.size ≤ gb486)); have n7_ := Aside0.mk ((by rw [hg]; exact (below_size (by repeat (first | (with_reducible first | exact HB.out | apply below_alloc | apply pw_below_drewN | apply below_drew1) | exact HB.out))) : w.heap.size ≤ gb486)); clear HO_5; clear HO_54; clear HL485_0; clear HR485_0; clear HB; have HO_5 := n0_; have HO_54 := n1_; have HL485_0 := n2_; have HR485_0 := n3_; have HB := n4_; have BK486 := n5_; have GW486 := n6_; have GE486 := n7_; clear n0_ n1_ n2_ n3_ n4_ n5_ n6_ n7_; clear hb hbox hg; have hcz60_0 : w59.cell? ⟨gb486, 0, none⟩ = some (.slice none 0 0) := (blk_cell BK486.out 0).trans rfl; have hcz60_1 : w59.cell? ⟨gb486, 1, none⟩ = some (.int .i64 0) := (blk_cell BK486.out 1).trans rfl; have hcz60_2 : w59.cell? ⟨gb486, 2, none⟩ = some (.int .i64 0) := (blk_cell BK486.out 2).trans rfl; have hcz60_3 : w59.cell? ⟨gb486, 3, none⟩ = some (.int .i64 0) := (blk_cell BK486.out 3).trans rfl; have hfz60_0 := blk_frozen BK486.out 0; have hfz60_1 := blk_frozen BK486.out 1; have hfz60_2 := blk_frozen BK486.out 2; have hfz60_3 := blk_frozen BK486.out 3))
                            go_ret
                            exact ⟨by first | rfl | (simp [errW_none, errW_some] <;> rfl) | (simp [*, errW_none, errW_some] <;> rfl), by repeat (first | (with_reducible first | exact HB.out | apply below_alloc | apply pw_below_drewN | apply below_drew1 | refine below_set ?_ GE486.out) | exact HB.out)⟩
                      · rw [if_neg c28] at H
                        exact absurd H (by simp)
                    · rw [if_neg c27] at H
                      exact absurd H (by simp)
                  · as_aux_lemma =>
                    rw [if_neg c26] at H
                    have c26b0 : decide (x56_2 < (t476.length : Int)) = false := decide_eq_false c26
                    clear c26
                    by_cases c61 : x7_1 = true
                    · as_aux_lemma =>
                      subst c61
                      have H1 : (if x8_1 = 0 then (some ((t476.length : Int) == 0)) else (if (t476.length : Int) = 1 then (if 0 < (t476.length : Int) then (if (((rd_T36 t476 0).f0).length : Int) = x8_1 then (if ((rd_T36 t476 0).f1) = a1 then (if ((rd_T36 t476 0).f2) = (wrap64 (1 + a1)) then (some (((rd_T36 t476 0).f3) == (wrap64 (1 + a1)))) else (some false)) else (some false)) else (some false)) else (none)) else (some false))) = some r := by rw [if_pos rfl] at H; exact H
                      clear H
                      have H := H1
                      clear H1
                      by_cases c62 : x8_1 = 0
                      · rw [if_pos c62] at H
                        have c62b0 : (x8_1 == 0) = true := beq_iff_eq.mpr c62
                        have c62b1 : (x8_1 != 0) = false := bne_eq_false_iff_eq.mpr c62
                        clear c62
                        obtain rfl := Option.some.inj H
                        go_wp2
                        go_ret
                        exact ⟨by first | rfl | (simp [errW_none, errW_some] <;> rfl) | (simp [*, errW_none, errW_some] <;> rfl), by repeat (first | (with_reducible first | exact HB.out | apply below_alloc | apply pw_below_drewN | apply below_drew1) | exact HB.out)⟩
                      · as_aux_lemma =>
                        rw [if_neg c62] at H
                        have c62b0 : (x8_1 == 0) = false := beq_eq_false_iff_ne.mpr c62
                        have c62b1 : (x8_1 != 0) = true := bne_iff_ne.mpr c62
                        by_cases c63 : (t476.length : Int) = 1
                        · as_aux_lemma =>
                          rw [if_pos c63] at H
                          have c63b0 : ((t476.length : Int) == 1) = true := beq_iff_eq.mpr c63
                          have c63b1 : ((t476.length : Int) != 1) = false := bne_eq_false_iff_eq.mpr c63
                          clear c63
                          by_cases c64 : 0 < (t476.length : Int)
                          · as_aux_lemma =>
                            rw [if_pos c64] at H
                            have c64b0 : decide (0 < (t476.length : Int)) = true := decide_eq_true c64
                            have c64b1 : decide (0 < t476.length) = true := decide_eq_true (by omega)
                            clear c64
                            by_cases c65 : (((rd_T36 t476 0).f0).length : Int) = x8_1
                            · as_aux_lemma =>
                              rw [if_pos c65] at H
                              have c65b0 : ((((rd_T36 t476 0).f0).length : Int) == x8_1) = true := beq_iff_eq.mpr c65
                              have c65b1 : ((((rd_T36 t476 0).f0).length : Int) != x8_1) = false := bne_eq_false_iff_eq.mpr c65
                              clear c65
                              by_cases c66 : ((rd_T36 t476 0).f1) = a1
                              · as_aux_lemma =>
                                rw [if_pos c66] at H
                                have c66b0 : (((rd_T36 t476 0).f1) == a1) = true := beq_iff_eq.mpr c66
                                have c66b1 : (((rd_T36 t476 0).f1) != a1) = false := bne_eq_false_iff_eq.mpr c66
                                clear c66
                                by_cases c67 : ((rd_T36 t476 0).f2) = (wrap64 (1 + a1))
                                · as_aux_lemma =>
                                  rw [if_pos c67] at H
                                  have c67b0 : (((rd_T36 t476 0).f2) == (wrap64 (1 + a1))) = true := beq_iff_eq.mpr c67
                                  have c67b1 : (((rd_T36 t476 0).f2) != (wrap64 (1 + a1))) = false := bne_eq_false_iff_eq.mpr c67
                                  clear c67
                                  obtain rfl := Option.some.inj H
                                  have p487 : 0 ≤ (0 : Int) := (by omega)
                                  have q487 : 0 < (t476.length : Int) := of_decide_eq_true (by first | (with_reducible assumption) | assumption)
                                  obtain ⟨ad487, A487_0, c487_0, e487, hx487_0, hx487_1, hx487_2, hx487_3, hl487_0, hi487_0⟩ := at_T36 (Kd.S_reads' HO_5.out).2.2 0 p487 q487
                                  cases e487
                                  obtain ⟨ce487, hce487, hMe487, hcc487⟩ := Kd.S_get HO_5.out z36 0 p487 (by first | exact q487 | exact of_decide_eq_true (by first | (with_reducible assumption) | assumption) | (have e_ := (Kd.S_reads' HO_5.out).1; omega))
                                  obtain ⟨ve487_0, rfl, ge487_0⟩ := k36_openM hMe487
                                  have hv487_0 := hcc487 0 _ rfl
                                  rw [Nat.add_zero] at hv487_0
                                  replace hv487_0 := Option.some.inj (hv487_0.symm.trans hx487_0)
                                  rw [hv487_0] at ge487_0
                                  have HL487_0 := Aside0.mk (show Kd.R (Kd.int .i64) 3 _ _ _ _ ((rd_T36 t476 0).f0) from ge487_0)
                                  clear hv487_0 ge487_0
                                  clear hcc487 hce487
                                  have qi487 : (0 < t476.length) = True := eq_true (by omega)
                                  (try rw [show ((0 : Int)).toNat = 0 from rfl] at hx487_0)
                                  (try rw [show 0 * 4 = 0 from rfl] at hx487_0)
                                  (try rw [Addr.add_zero'] at hx487_0)
                                  (try rw [show ((0 : Int)).toNat = 0 from rfl] at hx487_1)
                                  (try rw [show 0 * 4 = 0 from rfl] at hx487_1)
                                  (try rw [Addr.add_zero'] at hx487_1)
                                  (try rw [show ((0 : Int)).toNat = 0 from rfl] at hx487_2)
                                  (try rw [show 0 * 4 = 0 from rfl] at hx487_2)
                                  (try rw [Addr.add_zero'] at hx487_2)
                                  (try rw [show ((0 : Int)).toNat = 0 from rfl] at hx487_3)
                                  (try rw [show 0 * 4 = 0 from rfl] at hx487_3)
                                  (try rw [Addr.add_zero'] at hx487_3)
                                  have HR487_0 := Aside0.mk hi487_0
                                  have HC487_0 := Aside0.mk hl487_0
                                  clear hi487_0 hl487_0
                                  replace p487 := eq_true p487
                                  replace q487 := eq_true q487
                                  have p488 : 0 ≤ (0 : Int) := (by omega)
                                  have q488 : 0 < (t476.length : Int) := of_decide_eq_true (by first | (with_reducible assumption) | assumption)
                                  obtain ⟨ad488, A488_0, c488_0, e488, hx488_0, hx488_1, hx488_2, hx488_3, hl488_0, hi488_0⟩ := at_T36 (Kd.S_reads' HO_5.out).2.2 0 p488 q488
                                  obtain rfl : ad487 = ad488 := (by injection e488)
                                  obtain ⟨ce488, hce488, hMe488, hcc488⟩ := Kd.S_get HO_5.out z36 0 p488 (by first | exact q488 | exact of_decide_eq_true (by first | (with_reducible assumption) | assumption) | (have e_ := (Kd.S_reads' HO_5.out).1; omega))
                                  obtain ⟨ve488_0, rfl, ge488_0⟩ := k36_openM hMe488
                                  have hv488_0 := hcc488 0 _ rfl
                                  rw [Nat.add_zero] at hv488_0
                                  replace hv488_0 := Option.some.inj (hv488_0.symm.trans hx488_0)
                                  rw [hv488_0] at ge488_0
                                  have HL488_0 := Aside0.mk (show Kd.R (Kd.int .i64) 3 _ _ _ _ ((rd_T36 t476 0).f0) from ge488_0)
                                  clear hv488_0 ge488_0
                                  clear hcc488 hce488
                                  have qi488 : (0 < t476.length) = True := eq_true (by omega)
                                  (try rw [show ((0 : Int)).toNat = 0 from rfl] at hx488_0)
                                  (try rw [show 0 * 4 = 0 from rfl] at hx488_0)
                                  (try rw [Addr.add_zero'] at hx488_0)
                                  (try rw [show ((0 : Int)).toNat = 0 from rfl] at hx488_1)
                                  (try rw [show 0 * 4 = 0 from rfl] at hx488_1)
                                  (try rw [Addr.add_zero'] at hx488_1)
                                  (try rw [show ((0 : Int)).toNat = 0 from rfl] at hx488_2)
                                  (try rw [show 0 * 4 = 0 from rfl] at hx488_2)
                                  (try rw [Addr.add_zero'] at hx488_2)
                                  (try rw [show ((0 : Int)).toNat = 0 from rfl] at hx488_3)
                                  (try rw [show 0 * 4 = 0 from rfl] at hx488_3)
                                  (try rw [Addr.add_zero'] at hx488_3)
                                  have HR488_0 := Aside0.mk hi488_0
                                  have HC488_0 := Aside0.mk hl488_0
                                  clear hi488_0 hl488_0
                                  replace p488 := eq_true p488
                                  replace q488 := eq_true q488
                                  have ea_ := Option.some.inj (hx487_0.symm.trans hx488_0)
                                  injection ea_ with ea_ en_ ec_
                                  subst ea_
                                  subst ec_
                                  clear en_
                                  have p489 : 0 ≤ (0 : Int) := (by omega)
                                  have q489 : 0 < (t476.length : Int) := of_decide_eq_true (by first | (with_reducible assumption) | assumption)
                                  obtain ⟨ad489, A489_0, c489_0, e489, hx489_0, hx489_1, hx489_2, hx489_3, hl489_0, hi489_0⟩ := at_T36 (Kd.S_reads' HO_5.out).2.2 0 p489 q489
                                  obtain rfl : ad487 = ad489 := (by injection e489)
                                  obtain ⟨ce489, hce489, hMe489, hcc489⟩ := Kd.S_get HO_5.out z36 0 p489 (by first | exact q489 | exact of_decide_eq_true (by first | (with_reducible assumption) | assumption) | (have e_ := (Kd.S_reads' HO_5.out).1; omega))
                                  obtain ⟨ve489_0, rfl, ge489_0⟩ := k36_openM hMe489
                                  have hv489_0 := hcc489 0 _ rfl
                                  rw [Nat.add_zero] at hv489_0
                                  replace hv489_0 := Option.some.inj (hv489_0.symm.trans hx489_0)
                                  rw [hv489_0] at ge489_0
                                  have HL489_0 := Aside0.mk (show Kd.R (Kd.int .i64) 3 _ _ _ _ ((rd_T36 t476 0).f0) from ge489_0)
                                  clear hv489_0 ge489_0
                                  clear hcc489 hce489
                                  have qi489 : (0 < t476.length) = True := eq_true (by omega)
                                  (try rw [show ((0 : Int)).toNat = 0 from rfl] at hx489_0)
                                  (try rw [show 0 * 4 = 0 from rfl] at hx489_0)
                                  (try rw [Addr.add_zero'] at hx489_0)
                                  (try rw [show ((0 : Int)).toNat = 0 from rfl] at hx489_1)
                                  (try rw [show 0 * 4 = 0 from rfl] at hx489_1)
                                  (try rw [Addr.add_zero'] at hx489_1)
                                  (try rw [show ((0 : Int)).toNat = 0 from rfl] at hx489_2)
                                  (try rw [show 0 * 4 = 0 from rfl] at hx489_2)
                                  (try rw [Addr.add_zero'] at hx489_2)
                                  (try rw [show ((0 : Int)).toNat = 0 from rfl] at hx489_3)
                                  (try rw [show 0 * 4 = 0 from rfl] at hx489_3)
                                  (try rw [Addr.add_zero'] at hx489_3)
                                  have HR489_0 := Aside0.mk hi489_0
                                  have HC489_0 := Aside0.mk hl489_0
                                  clear hi489_0 hl489_0
                                  replace p489 := eq_true p489
                                  replace q489 := eq_true q489
                                  have ea_ := Option.some.inj (hx487_0.symm.trans hx489_0)
                                  injection ea_ with ea_ en_ ec_
                                  subst ea_
                                  subst ec_
                                  clear en_
                                  have p490 : 0 ≤ (0 : Int) := (by omega)
                                  have q490 : 0 < (t476.length : Int) := of_decide_eq_true (by first | (with_reducible assumption) | assumption)
                                  obtain ⟨ad490, A490_0, c490_0, e490, hx490_0, hx490_1, hx490_2, hx490_3, hl490_0, hi490_0⟩ := at_T36 (Kd.S_reads' HO_5.out).2.2 0 p490 q490
                                  obtain rfl : ad487 = ad490 := (by injection e490)
                                  obtain ⟨ce490, hce490, hMe490, hcc490⟩ := Kd.S_get HO_5.out z36 0 p490 (by first | exact q490 | exact of_decide_eq_true (by first | (with_reducible assumption) | assumption) | (have e_ := (Kd.S_reads' HO_5.out).1; omega))
                                  obtain ⟨ve490_0, rfl, ge490_0⟩ := k36_openM hMe490
                                  have hv490_0 := hcc490 0 _ rfl
                                  rw [Nat.add_zero] at hv490_0
                                  replace hv490_0 := Option.some.inj (hv490_0.symm.trans hx490_0)
                                  rw [hv490_0] at ge490_0
                                  have HL490_0 := Aside0.mk (show Kd.R (Kd.int .i64) 3 _ _ _ _ ((rd_T36 t476 0).f0) from ge490_0)
                                  clear hv490_0 ge490_0
                                  clear hcc490 hce490
                                  have qi490 : (0 < t476.length) = True := eq_true (by omega)
                                  (try rw [show ((0 : Int)).toNat = 0 from rfl] at hx490_0)
                                  (try rw [show 0 * 4 = 0 from rfl] at hx490_0)
                                  (try rw [Addr.add_zero'] at hx490_0)
                                  (try rw [show ((0 : Int)).toNat = 0 from rfl] at hx490_1)
                                  (try rw [show 0 * 4 = 0 from rfl] at hx490_1)
                                  (try rw [Addr.add_zero'] at hx490_1)
                                  (try rw [show ((0 : Int)).toNat = 0 from rfl] at hx490_2)
                                  (try rw [show 0 * 4 = 0 from rfl] at hx490_2)
                                  (try rw [Addr.add_zero'] at hx490_2)
                                  (try rw [show ((0 : Int)).toNat = 0 from rfl] at hx490_3)
                                  (try rw [show 0 * 4 = 0 from rfl] at hx490_3)
                                  (try rw [Addr.add_zero'] at hx490_3)
                                  have HR490_0 := Aside0.mk hi490_0
                                  have HC490_0 := Aside0.mk hl490_0
                                  clear hi490_0 hl490_0
                                  replace p490 := eq_true p490
                                  replace q490 := eq_true q490
                                  have ea_ := Option.some.inj (hx487_0.symm.trans hx490_0)
                                  injection ea_ with ea_ en_ ec_
                                  subst ea_
                                  subst ec_
                                  clear en_
                                  go_wp2
                                  go_ret
                                  exact ⟨by first | rfl | (simp [errW_none, errW_some] <;> rfl) | (simp [*, errW_none, errW_some] <;> rfl), by repeat (first | (with_reducible first | exact HB.out | apply below_alloc | apply pw_below_drewN | apply below_drew1) | exact HB.out)⟩
                                · rw [if_neg c67] at H
                                  have c67b0 : (((rd_T36 t476 0).f2) == (wrap64 (1 + a1))) = false := beq_eq_false_iff_ne.mpr c67
                                  have c67b1 : (((rd_T36 t476 0).f2) != (wrap64 (1 + a1))) = true := bne_iff_ne.mpr c67
                                  obtain rfl := Option.some.inj H
                                  have p487 : 0 ≤ (0 : Int) := (by omega)
                                  have q487 : 0 < (t476.length : Int) := of_decide_eq_true (by first | (with_reducible assumption) | assumption)
                                  obtain ⟨ad487, A487_0, c487_0, e487, hx487_0, hx487_1, hx487_2, hx487_3, hl487_0, hi487_0⟩ := at_T36 (Kd.S_reads' HO_5.out).2.2 0 p487 q487
                                  cases e487
                                  obtain ⟨ce487, hce487, hMe487, hcc487⟩ := Kd.S_get HO_5.out z36 0 p487 (by first | exact q487 | exact of_decide_eq_true (by first | (with_reducible assumption) | assumption) | (have e_ := (Kd.S_reads' HO_5.out).1; omega))
                                  obtain ⟨ve487_0, rfl, ge487_0⟩ := k36_openM hMe487
                                  have hv487_0 := hcc487 0 _ rfl
                                  rw [Nat.add_zero] at hv487_0
                                  replace hv487_0 := Option.some.inj (hv487_0.symm.trans hx487_0)
                                  rw [hv487_0] at ge487_0
                                  have HL487_0 := Aside0.mk (show Kd.R (Kd.int .i64) 3 _ _ _ _ ((rd_T36 t476 0).f0) from ge487_0)
                                  clear hv487_0 ge487_0
                                  clear hcc487 hce487
                                  have qi487 : (0 < t476.length) = True := eq_true (by omega)
                                  (try rw [show ((0 : Int)).toNat = 0 from rfl] at hx487_0)
                                  (try rw [show 0 * 4 = 0 from rfl] at hx487_0)
                                  (try rw [Addr.add_zero'] at hx487_0)
                                  (try rw [show ((0 : Int)).toNat = 0 from rfl] at hx487_1)
                                  (try rw [show 0 * 4 = 0 from rfl] at hx487_1)
                                  (try rw [Addr.add_zero'] at hx487_1)
                                  (try rw [show ((0 : Int)).toNat = 0 from rfl] at hx487_2)
                                  (try rw [show 0 * 4 = 0 from rfl] at hx487_2)
                                  (try rw [Addr.add_zero'] at hx487_2)
                                  (try rw [show ((0 : Int)).toNat = 0 from rfl] at hx487_3)
                                  (try rw [show 0 * 4 = 0 from rfl] at hx487_3)
                                  (try rw [Addr.add_zero'] at hx487_3)
                                  have HR487_0 := Aside0.mk hi487_0
                                  have HC487_0 := Aside0.mk hl487_0
                                  clear hi487_0 hl487_0
                                  replace p487 := eq_true p487
                                  replace q487 := eq_true q487
                                  have p488 : 0 ≤ (0 : Int) := (by omega)
                                  have q488 : 0 < (t476.length : Int) := of_decide_eq_true (by first | (with_reducible assumption) | assumption)
                                  obtain ⟨ad488, A488_0, c488_0, e488, hx488_0, hx488_1, hx488_2, hx488_3, hl488_0, hi488_0⟩ := at_T36 (Kd.S_reads' HO_5.out).2.2 0 p488 q488
                                  obtain rfl : ad487 = ad488 := (by injection e488)
                                  obtain ⟨ce488, hce488, hMe488, hcc488⟩ := Kd.S_get HO_5.out z36 0 p488 (by first | exact q488 | exact of_decide_eq_true (by first | (with_reducible assumption) | assumption) | (have e_ := (Kd.S_reads' HO_5.out).1; omega))
                                  obtain ⟨ve488_0, rfl, ge488_0⟩ := k36_openM hMe488
                                  have hv488_0 := hcc488 0 _ rfl
                                  rw [Nat.add_zero] at hv488_0
                                  replace hv488_0 := Option.some.inj (hv488_0.symm.trans hx488_0)
                                  rw [hv488_0] at ge488_0
                                  have HL488_0 := Aside0.mk (show Kd.R (Kd.int .i64) 3 _ _ _ _ ((rd_T36 t476 0).f0) from ge488_0)
                                  clear hv488_0 ge488_0
                                  clear hcc488 hce488
                                  have qi488 : (0 < t476.length) = True := eq_true (by omega)
                                  (try rw [show ((0 : Int)).toNat = 0 from rfl] at hx488_0)
                                  (try rw [show 0 * 4 = 0 from rfl] at hx488_0)
                                  (try rw [Addr.add_zero'] at hx488_0)
                                  (try rw [show ((0 : Int)).toNat = 0 from rfl] at hx488_1)
                                  (try rw [show 0 * 4 = 0 from rfl] at hx488_1)
                                  (try rw [Addr.add_zero'] at hx488_1)
                                  (try rw [show ((0 : Int)).toNat = 0 from rfl] at hx488_2)
                                  (try rw [show 0 * 4 = 0 from rfl] at hx488_2)
                                  (try rw [Addr.add_zero'] at hx488_2)
                                  (try rw [show ((0 : Int)).toNat = 0 from rfl] at hx488_3)
                                  (try rw [show 0 * 4 = 0 from rfl] at hx488_3)
                                  (try rw [Addr.add_zero'] at hx488_3)
                                  have HR488_0 := Aside0.mk hi488_0
                                  have HC488_0 := Aside0.mk hl488_0
                                  clear hi488_0 hl488_0
                                  replace p488 := eq_true p488
                                  replace q488 := eq_true q488
                                  have ea_ := Option.some.inj (hx487_0.symm.trans hx488_0)
                                  injection ea_ with ea_ en_ ec_
                                  subst ea_
                                  subst ec_
                                  clear en_
                                  have p489 : 0 ≤ (0 : Int) := (by omega)
                                  have q489 : 0 < (t476.length : Int) := of_decide_eq_true (by first | (with_reducible assumption) | assumption)
                                  obtain ⟨ad489, A489_0, c489_0, e489, hx489_0, hx489_1, hx489_2, hx489_3, hl489_0, hi489_0⟩ := at_T36 (Kd.S_reads' HO_5.out).2.2 0 p489 q489
                                  obtain rfl : ad487 = ad489 := (by injection e489)
                                  obtain ⟨ce489, hce489, hMe489, hcc489⟩ := Kd.S_get HO_5.out z36 0 p489 (by first | exact q489 | exact of_decide_eq_true (by first | (with_reducible assumption) | assumption) | (have e_ := (Kd.S_reads' HO_5.out).1; omega))
                                  obtain ⟨ve489_0, rfl, ge489_0⟩ := k36_openM hMe489
                                  have hv489_0 := hcc489 0 _ rfl
                                  rw [Nat.add_zero] at hv489_0
                                  replace hv489_0 := Option.some.inj (hv489_0.symm.trans hx489_0)
                                  rw [hv489_0] at ge489_0
                                  have HL489_0 := Aside0.mk (show Kd.R (Kd.int .i64) 3 _ _ _ _ ((rd_T36 t476 0).f0) from ge489_0)
                                  clear hv489_0 ge489_0
                                  clear hcc489 hce489
                                  have qi489 : (0 < t476.length) = True := eq_true (by omega)
                                  (try rw [show ((0 : Int)).toNat = 0 from rfl] at hx489_0)
                                  (try rw [show 0 * 4 = 0 from rfl] at hx489_0)
                                  (try rw [Addr.add_zero'] at hx489_0)
                                  (try rw [show ((0 : Int)).toNat = 0 from rfl] at hx489_1)
                                  (try rw [show 0 * 4 = 0 from rfl] at hx489_1)
                                  (try rw [Addr.add_zero'] at hx489_1)
                                  (try rw [show ((0 : Int)).toNat = 0 from rfl] at hx489_2)
                                  (try rw [show 0 * 4 = 0 from rfl] at hx489_2)
                                  (try rw [Addr.add_zero'] at hx489_2)
                                  (try rw [show ((0 : Int)).toNat = 0 from rfl] at hx489_3)
                                  (try rw [show 0 * 4 = 0 from rfl] at hx489_3)
                                  (try rw [Addr.add_zero'] at hx489_3)
                                  have HR489_0 := Aside0.mk hi489_0
                                  have HC489_0 := Aside0.mk hl489_0
                                  clear hi489_0 hl489_0
                                  replace p489 := eq_true p489
                                  replace q489 := eq_true q489
                                  have ea_ := Option.some.inj (hx487_0.symm.trans hx489_0)
                                  injection ea_ with ea_ en_ ec_
                                  subst ea_
                                  subst ec_
                                  clear en_
                                  go_wp2
                                  go_ret
                                  exact ⟨by first | rfl | (simp [errW_none, errW_some] <;> rfl) | (simp [*, errW_none, errW_some] <;> rfl), by repeat (first | (with_reducible first | exact HB.out | apply below_alloc | apply pw_below_drewN | apply below_drew1) | exact HB.out)⟩
                              · rw [if_neg c66] at H
                                have c66b0 : (((rd_T36 t476 0).f1) == a1) = false := beq_eq_false_iff_ne.mpr c66
                                have c66b1 : (((rd_T36 t476 0).f1) != a1) = true := bne_iff_ne.mpr c66
                                obtain rfl := Option.some.inj H
                                have p487 : 0 ≤ (0 : Int) := (by omega)
                                have q487 : 0 < (t476.length : Int) := of_decide_eq_true (by first | (with_reducible assumption) | assumption)
                                obtain ⟨ad487, A487_0, c487_0, e487, hx487_0, hx487_1, hx487_2, hx487_3, hl487_0, hi487_0⟩ := at_T36 (Kd.S_reads' HO_5.out).2.2 0 p487 q487
                                cases e487
                                obtain ⟨ce487, hce487, hMe487, hcc487⟩ := Kd.S_get HO_5.out z36 0 p487 (by first | exact q487 | exact of_decide_eq_true (by first | (with_reducible assumption) | assumption) | (have e_ := (Kd.S_reads' HO_5.out).1; omega))
                                obtain ⟨ve487_0, rfl, ge487_0⟩ := k36_openM hMe487
                                have hv487_0 := hcc487 0 _ rfl
                                rw [Nat.add_zero] at hv487_0
                                replace hv487_0 := Option.some.inj (hv487_0.symm.trans hx487_0)
                                rw [hv487_0] at ge487_0
                                have HL487_0 := Aside0.mk (show Kd.R (Kd.int .i64) 3 _ _ _ _ ((rd_T36 t476 0).f0) from ge487_0)
                                clear hv487_0 ge487_0
                                clear hcc487 hce487
                                have qi487 : (0 < t476.length) = True := eq_true (by omega)
                                (try rw [show ((0 : Int)).toNat = 0 from rfl] at hx487_0)
                                (try rw [show 0 * 4 = 0 from rfl] at hx487_0)
                                (try rw [Addr.add_zero'] at hx487_0)
                                (try rw [show ((0 : Int)).toNat = 0 from rfl] at hx487_1)
                                (try rw [show 0 * 4 = 0 from rfl] at hx487_1)
                                (try rw [Addr.add_zero'] at hx487_1)
                                (try rw [show ((0 : Int)).toNat = 0 from rfl] at hx487_2)
                                (try rw [show 0 * 4 = 0 from rfl] at hx487_2)
                                (try rw [Addr.add_zero'] at hx487_2)
                                (try rw [show ((0 : Int)).toNat = 0 from rfl] at hx487_3)
                                (try rw [show 0 * 4 = 0 from rfl] at hx487_3)
                                (try rw [Addr.add_zero'] at hx487_3)
                                have HR487_0 := Aside0.mk hi487_0
                                have HC487_0 := Aside0.mk hl487_0
                                clear hi487_0 hl487_0
                                replace p487 := eq_true p487
                                replace q487 := eq_true q487
                                have p488 : 0 ≤ (0 : Int) := (by omega)
                                have q488 : 0 < (t476.length : Int) := of_decide_eq_true (by first | (with_reducible assumption) | assumption)
                                obtain ⟨ad488, A488_0, c488_0, e488, hx488_0, hx488_1, hx488_2, hx488_3, hl488_0, hi488_0⟩ := at_T36 (Kd.S_reads' HO_5.out).2.2 0 p488 q488
                                obtain rfl : ad487 = ad488 := (by injection e488)
                                obtain ⟨ce488, hce488, hMe488, hcc488⟩ := Kd.S_get HO_5.out z36 0 p488 (by first | exact q488 | exact of_decide_eq_true (by first | (with_reducible assumption) | assumption) | (have e_ := (Kd.S_reads' HO_5.out).1; omega))
                                obtain ⟨ve488_0, rfl, ge488_0⟩ := k36_openM hMe488
                                have hv488_0 := hcc488 0 _ rfl
                                rw [Nat.add_zero] at hv488_0
                                replace hv488_0 := Option.some.inj (hv488_0.symm.trans hx488_0)
                                rw [hv488_0] at ge488_0
                                have HL488_0 := Aside0.mk (show Kd.R (Kd.int .i64) 3 _ _ _ _ ((rd_T36 t476 0).f0) from ge488_0)
                                clear hv488_0 ge488_0
                                clear hcc488 hce488
                                have qi488 : (0 < t476.length) = True := eq_true (by omega)
                                (try rw [show ((0 : Int)).toNat = 0 from rfl] at hx488_0)
                                (try rw [show 0 * 4 = 0 from rfl] at hx488_0)
                                (try rw [Addr.add_zero'] at hx488_0)
                                (try rw [show ((0 : Int)).toNat = 0 from rfl] at hx488_1)
                                (try rw [show 0 * 4 = 0 from rfl] at hx488_1)
                                (try rw [Addr.add_zero'] at hx488_1)
                                (try rw [show ((0 : Int)).toNat = 0 from rfl] at hx488_2)
                                (try rw [show 0 * 4 = 0 from rfl] at hx488_2)
                                (try rw [Addr.add_zero'] at hx488_2)
                                (try rw [show ((0 : Int)).toNat = 0 from rfl] at hx488_3)
                                (try rw [show 0 * 4 = 0 from rfl] at hx488_3)
                                (try rw [Addr.add_zero'] at hx488_3)
                                have HR488_0 := Aside0.mk hi488_0
                                have HC488_0 := Aside0.mk hl488_0
                                clear hi488_0 hl488_0
                                replace p488 := eq_true p488
                                replace q488 := eq_true q488
                                have ea_ := Option.some.inj (hx487_0.symm.trans hx488_0)
                                injection ea_ with ea_ en_ ec_
                                subst ea_
                                subst ec_
                                clear en_
                                go_wp2
                                go_ret
                                exact ⟨by first | rfl | (simp [errW_none, errW_some] <;> rfl) | (simp [*, errW_none, errW_some] <;> rfl), by repeat (first | (with_reducible first | exact HB.out | apply below_alloc | apply pw_below_drewN | apply below_drew1) | exact HB.out)⟩
                            · rw [if_neg c65] at H
                              have c65b0 : ((((rd_T36 t476 0).f0).length : Int) == x8_1) = false := beq_eq_false_iff_ne.mpr c65
                              have c65b1 : ((((rd_T36 t476 0).f0).length : Int) != x8_1) = true := bne_iff_ne.mpr c65
                              obtain rfl := Option.some.inj H
                              have p487 : 0 ≤ (0 : Int) := (by omega)
                              have q487 : 0 < (t476.length : Int) := of_decide_eq_true (by first | (with_reducible assumption) | assumption)
                              obtain ⟨ad487, A487_0, c487_0, e487, hx487_0, hx487_1, hx487_2, hx487_3, hl487_0, hi487_0⟩ := at_T36 (Kd.S_reads' HO_5.out).2.2 0 p487 q487
                              cases e487
                              obtain ⟨ce487, hce487, hMe487, hcc487⟩ := Kd.S_get HO_5.out z36 0 p487 (by first | exact q487 | exact of_decide_eq_true (by first | (with_reducible assumption) | assumption) | (have e_ := (Kd.S_reads' HO_5.out).1; omega))
                              obtain ⟨ve487_0, rfl, ge487_0⟩ := k36_openM hMe487
                              have hv487_0 := hcc487 0 _ rfl
                              rw [Nat.add_zero] at hv487_0
                              replace hv487_0 := Option.some.inj (hv487_0.symm.trans hx487_0)
                              rw [hv487_0] at ge487_0
                              have HL487_0 := Aside0.mk (show Kd.R (Kd.int .i64) 3 _ _ _ _ ((rd_T36 t476 0).f0) from ge487_0)
                              clear hv487_0 ge487_0
                              clear hcc487 hce487
                              have qi487 : (0 < t476.length) = True := eq_true (by omega)
                              (try rw [show ((0 : Int)).toNat = 0 from rfl] at hx487_0)
                              (try rw [show 0 * 4 = 0 from rfl] at hx487_0)
                              (try rw [Addr.add_zero'] at hx487_0)
                              (try rw [show ((0 : Int)).toNat = 0 from rfl] at hx487_1)
                              (try rw [show 0 * 4 = 0 from rfl] at hx487_1)
                              (try rw [Addr.add_zero'] at hx487_1)
                              (try rw [show ((0 : Int)).toNat = 0 from rfl] at hx487_2)
                              (try rw [show 0 * 4 = 0 from rfl] at hx487_2)
                              (try rw [Addr.add_zero'] at hx487_2)
                              (try rw [show ((0 : Int)).toNat = 0 from rfl] at hx487_3)
                              (try rw [show 0 * 4 = 0 from rfl] at hx487_3)
                              (try rw [Addr.add_zero'] at hx487_3)
                              have HR487_0 := Aside0.mk hi487_0
                              have HC487_0 := Aside0.mk hl487_0
                              clear hi487_0 hl487_0
                              replace p487 := eq_true p487
                              replace q487 := eq_true q487
                              go_wp2
                              go_ret
                              exact ⟨by first | rfl | (simp [errW_none, errW_some] <;> rfl) | (simp [*, errW_none, errW_some] <;> rfl), by repeat (first | (with_reducible first | exact HB.out | apply below_alloc | apply pw_below_drewN | apply below_drew1) | exact HB.out)⟩
                          · rw [if_neg c64] at H
                            exact absurd H (by simp)
                        · rw [if_neg c63] at H
                          have c63b0 : ((t476.length : Int) == 1) = false := beq_eq_false_iff_ne.mpr c63
                          have c63b1 : ((t476.length : Int) != 1) = true := bne_iff_ne.mpr c63
                          obtain rfl := Option.some.inj H
                          go_wp2
                          go_ret
                          exact ⟨by first | rfl | (simp [errW_none, errW_some] <;> rfl) | (simp [*, errW_none, errW_some] <;> rfl), by repeat (first | (with_reducible first | exact HB.out | apply below_alloc | apply pw_below_drewN | apply below_drew1) | exact HB.out)⟩
                    · replace c61 := Bool.eq_false_iff.mpr c61
                      subst c61
                      have H1 : (some true) = some r := by rw [if_neg (show ¬ (false = true) by decide)] at H; exact H
                      clear H
                      have H := H1
                      clear H1
                      obtain rfl := Option.some.inj H
                      go_wp2
                      go_ret
                      exact ⟨by first | rfl | (simp [errW_none, errW_some] <;> rfl) | (simp [*, errW_none, errW_some] <;> rfl), by repeat (first | (with_reducible first | exact HB.out | apply below_alloc | apply pw_below_drewN | apply below_drew1) | exact HB.out)⟩
      · rw [if_neg c8] at H
        have c8b0 : (t477 == 0) = false := beq_eq_false_iff_ne.mpr c8
        have c8b1 : (t477 != 0) = true := bne_iff_ne.mpr c8
        obtain rfl := Option.some.inj H
        go_enter Try.func8, Try.ntmps8
        go_wp2_with (first | ((with_reducible refine gate_callee (f := 9) rfl ?_); refine goesL_ (some 13) rfl rfl Try.func9 (by kernel_rfl) rfl #[] rfl (by (try simp only [List.map_toArray, List.map_cons, List.map_nil]); first | done | rfl | (simp only [List.length_drop, List.length_take]; rfl)) ?_; (with_reducible refine (colophonlaw08_works.calls  true _ A3.out).mono ?_); rintro e w68 ⟨rfl, hb⟩; refine ⟨_, rfl, ?_⟩; have n0_ := Aside0.mk (below_step (by repeat (first | (with_reducible first | exact HB.out | apply below_alloc | apply pw_below_drewN | apply below_drew1) | exact HB.out)) hb); clear HB; have HB := n0_; clear n0_; (try clear hb); (try clear hb2); (try clear hk); (try clear hi)) | ((with_reducible refine gate_callee (f := 14) rfl ?_); refine goesL_ (some 21) rfl rfl Try.func14 (by kernel_rfl) rfl #[.slice A0 l0.length c0, .int .i64 a1] rfl (by (try simp only [List.map_toArray, List.map_cons, List.map_nil]); first | done | rfl | (simp only [List.length_drop, List.length_take]; rfl)) ?_; (with_reducible refine (runs_Sequences.calls _ _ l0 a1 t476 t477 _ ?side1 ?side2 A7.out).mono ?_); (case side1 => repeat (first | exact (Kd.C_below HR0.out HB.out) | (with_reducible refine Kd.C_alloc ?_ _) | (with_reducible refine Kd.C_drewN ?_ _) | (with_reducible refine Kd.C_drew ?_))); (case side2 => exact HC0.out); rintro e w69 ⟨v478, rfl, ho0, hb⟩; refine ⟨_, rfl, ?_⟩; have n0_ := Aside0.mk (Kd.S_lower ho0 (below_size (by repeat (first | (with_reducible first | exact HB.out | apply below_alloc | apply pw_below_drewN | apply below_drew1) | exact HB.out)))); have n1_ := Aside0.mk (below_step (by repeat (first | (with_reducible first | exact HB.out | apply below_alloc | apply pw_below_drewN | apply below_drew1) | exact HB.out)) hb); clear HB; have HO479 := n0_; have HB := n1_; clear n0_ n1_; (try clear hb); (try clear hb2); (try clear hk); (try clear hi); (try clear ho0); obtain ⟨Ao70, co70, eo70⟩ := Kd.S_slice HO479.out; subst eo70))
        go_ret
        exact ⟨by first | rfl | (simp [errW_none, errW_some] <;> rfl) | (simp [*, errW_none, errW_some] <;> rfl), by repeat (first | (with_reducible first | exact HB.out | apply below_alloc | apply pw_below_drewN | apply below_drew1) | exact HB.out)⟩
  · replace c4 := Bool.eq_false_iff.mpr c4
    subst c4
    have H1 : (some false) = some r := by rw [if_neg (show ¬ (false = true) by decide)] at H; exact H
    clear H
    have H := H1
    clear H1
    obtain rfl := Option.some.inj H
    go_enter Try.func8, Try.ntmps8
    go_wp2_with (first | ((with_reducible refine gate_callee (f := 9) rfl ?_); refine goesL_ (some 13) rfl rfl Try.func9 (by kernel_rfl) rfl #[] rfl (by (try simp only [List.map_toArray, List.map_cons, List.map_nil]); first | done | rfl | (simp only [List.length_drop, List.length_take]; rfl)) ?_; (with_reducible refine (colophonlaw08_works.calls  false _ A3.out).mono ?_); rintro e w71 ⟨rfl, hb⟩; refine ⟨_, rfl, ?_⟩; have n0_ := Aside0.mk (below_step (by repeat (first | (with_reducible first | exact HB.out | apply below_alloc | apply pw_below_drewN | apply below_drew1) | exact HB.out)) hb); clear HB; have HB := n0_; clear n0_; (try clear hb); (try clear hb2); (try clear hk); (try clear hi)))
    go_ret
    exact ⟨by first | rfl | (simp [errW_none, errW_some] <;> rfl) | (simp [*, errW_none, errW_some] <;> rfl), by repeat (first | (with_reducible first | exact HB.out | apply below_alloc | apply pw_below_drewN | apply below_drew1) | exact HB.out)⟩

/-- THE ONE PURE STATEMENT of colophonlaw08_RunsSides: yours. -/
def colophonlaw08_RunsSides.Pure : Prop := ∀ (l0 : List Int) (a1 : Int), l0.length ≤ maxLen → l0.length * 8 ≤ 140737488351232 → (∀ x ∈ l0, (Lit.int .i64 x).wf = true) → (Lit.int .i64 a1).wf = true → ∃ k, colophonlaw08_RunsSides.f k l0 a1 = some true
theorem colophonlaw08_RunsSides.walk (P : colophonlaw08_RunsSides.Pure) (a0 : Option Addr) (len0 cap0 : Nat) (z0 : List Int) (a1 : Int) (w : World) (w0 : (a0 = none ∧ len0 = 0 ∧ cap0 = 0 ∧ z0 = []) ∨ ∃ x, a0 = some x ∧ len0 ≤ cap0 ∧ cap0 ≤ maxLen ∧ z0.length = cap0 ∧ (∀ i, i < z0.length → w.cell? (x.add i) = some (.int .i64 (z0.getD i 0))) ∧ ∀ n ∈ z0, (Lit.int .i64 n).wf = true) (y0 : len0 * 8 ≤ 140737488351232) (w1 : (Lit.int .i64 a1).wf = true) :
    Calls Try.prog 8 #[.slice a0 len0 cap0, .int .i64 a1] w fun e w' => e = .returned (.bool true) ∧ Below w.heap.size w w' := by
  obtain ⟨l0, rfl, hr0, hm0, hw0, hc0⟩ := ReadsInt.ofRowC w0
  obtain ⟨k, h⟩ := P l0 a1 hm0 y0 hw0 w1
  refine (colophonlaw08_RunsSides.calls k _ _ l0 a1 true w (Kd.C_of_reads (d := (0 : Int)) (h1 := fun _ => rfl) hr0) hc0 h).mono ?_
  rintro e w' ⟨rfl, hd⟩
  exact ⟨rfl, hd⟩

end Go.Proofs.Yteldofimjklckaa.X
