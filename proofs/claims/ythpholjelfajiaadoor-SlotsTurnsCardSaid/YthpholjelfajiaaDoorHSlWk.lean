/- Chapter 21: works. By hand. -/
import Derived.Test.YthpholjelfajiaaDoorHSlSd
namespace Go.Proofs.YthpholjelfajiaaDoor.G
open Go.RowKit Go.Shelf Go.Proofs.YthpholjelfajiaaDoor.X Go.Proofs.YthpholjelfajiaaDoor.E Go.Proofs.YthpholjelfajiaaDoor.C Go.Proofs.YthpholjelfajiaaDoor.T Go.Proofs.YthpholjelfajiaaDoorW.PrintWords Go.Proofs.YthpholjelfajiaaDoorW.PrintLast Go.Proofs.YthpholjelfajiaaDoorW.PrintMore Go.Proofs.YthpholjelfajiaaDoor.Dsk Go.Proofs.YthpholjelfajiaaDoor.Sl
set_option linter.unusedVariables false
set_option linter.unusedSimpArgs false
set_option maxHeartbeats 8000000 in
set_option maxRecDepth 100000 in
theorem works_s (w : World) (hT : Tab w) : Calls Tryd.prog 12 #[] w fun e w' => e = .returned (.bool true) ∧ Below w.heap.size w w' := by
  have HT := Aside0.mk hT
  clear hT
  go_enter Tryd.func12, Tryd.ntmps12
  go_wp2_with (first | (go_at_call 13; refine (opened_s 3 w w HT.out (Below.refl _ _) (by decide) (by decide)).mono ?_; rintro e w1 ⟨gd, g, F, H, v0, v1, rfl, hS, hb⟩; refine of_halt ?_))
  unfold G.Halt
  have HS1 := Aside0.mk hS
  clear hS hb
  go_wp2_with (first | (go_at_call 9; refine (HS1.out.which_c).mono ?_; rintro e w2 ⟨rfl, hb2⟩; refine of_halt ?_))
  unfold G.Halt
  rw [show which slot0 slot0 = -1 from rfl]
  have HS2 := Aside0.mk (HS1.out.below hb2)
  clear hb2
  have info5 : (Tryd.prog.info? 5).map (fun i => (i.zero, i.size, i.bytes)) = some (some (.int .u8 0), 1, 1) := by kernel_rfl
  obtain ⟨w3, hw3⟩ : ∃ w3, w2.alloc (.cells (madeCells #[.int .u8 0] 60) 5) = w3 := ⟨_, rfl⟩
  have hmk : (Instr.makeSlice 22 (.int .i64 60) (.int .i64 60)).run Tryd.prog w2 = .ok (.slice (some ⟨w2.heap.size, 0, none⟩) 60 60) (w2.alloc (.cells (madeCells #[.int .u8 0] 60) 5)) := print_make (P := Tryd.prog) 22 5 .u8 1 Tryd.underlying22 info5 (by decide) 60 (by decide) w2
  have hrow : (Kd.int .u8).R 5 w3 w2.heap.size (fun k => k = w2.heap.size) (.slice (some ⟨w2.heap.size, 0, none⟩) (zeros 60).length 60) (zeros 60) := by
    rw [← hw3]
    exact Kd.R_of_own (h1 := fun _ => rfl) (ok := fun k => k = w2.heap.size) (own_made w2 w2.heap.size 5 .u8 60 (Nat.le_refl _) (by decide)) (fun k hk => by simp [Value.ownBlock] at hk; omega)
  rw [hw3] at hmk
  have hb3 : Below w2.heap.size w2 w3 := by rw [← hw3]; exact below_alloc (Below.refl _ _) _
  have HS3 := Aside0.mk (HS2.out.below hb3)
  have HROW := Aside0.mk hrow
  have HNF := Aside0.mk (show ∀ k, k = w2.heap.size → ¬ (F k ∨ H k) from fun k hk hz => hz.elim (fun z => by have := HS2.out.dk.2 k z; omega) (fun z => by have := HS2.out.sl.lt k z; omega))
  clear info5 hw3 hrow hb3
  have hc3 := SlD.save_c HS3.out HT.out ⟨by decide, by decide, by decide, by decide⟩ (some ⟨w2.heap.size, 0, none⟩) 60 (zeros 60) (fun V hV => row_kp HROW.out hV HNF.out) (by decide) 1 (by decide) (by decide) rfl (by decide)
  rw [show saveK slot0 slot0 = 0 from rfl] at hc3
  have HC3 := Aside0.mk hc3
  clear hc3
  go_wp2_with (first | (go_at_call 10; refine (HC3.out).mono ?_; rintro e w4 ⟨rfl, F4, H4, u0, u1, d4, hS4, hd4, hk4, _⟩; refine of_halt ?_))
  unfold G.Halt
  have HS4 := Aside0.mk (show SlD F4 H4 w gd g 1 3 d4 (true, 1, zeros 60) slot0 u0 u1 w4 from hS4)
  have HD4 := Aside0.mk hd4
  clear hS4 hd4 hk4 hmk
  go_wp2_with (first | (go_at_call 34; refine (Steps_c F4 gd d4 w4 HS4.out.dk).mono ?_; rintro e w5 ⟨rfl, hw5⟩; refine of_halt ?_))
  unfold G.Halt
  obtain rfl := hw5.symm
  rw [show (d4.steps : Int) = 5 from by rw [HD4.out.steps]; rfl]
  go_wp2_with (first | (go_at_call 9; refine (HS4.out.which_c).mono ?_; rintro e w6 ⟨rfl, hb6⟩; refine of_halt ?_))
  unfold G.Halt
  rw [show which (true, 1, zeros 60) slot0 = 0 from rfl]
  have HS6 := Aside0.mk (HS4.out.below hb6)
  clear hb6
  have HRM := Aside0.mk (show Room d4 10000 from ⟨by rw [HD4.out.steps]; decide, by rw [HD4.out.left]; decide, by rw [HD4.out.waits]; decide, by rw [HD4.out.len]; decide⟩)
  have HCA := Aside0.mk (HS6.out.save_no HT.out HRM.out none 0 [] (fun V hV => Kd.C_nil _ _) (by decide) 1 (.inl (by decide)))
  go_wp2_with (first | (go_at_call 10; refine (HCA.out).mono ?_; rintro e w7 ⟨rfl, hb7⟩; refine of_halt ?_))
  unfold G.Halt
  have HS7 := Aside0.mk (HS6.out.below hb7)
  clear hb7
  have hc8 := HS7.out.save_c HT.out HRM.out none 0 [] (fun V hV => Kd.C_nil _ _) (by decide) 2 (by decide) (by decide) HD4.out.left (by rw [HD4.out.len]; decide)
  rw [show saveK (true, 1, zeros 60) slot0 = 1 from rfl] at hc8
  have HC8 := Aside0.mk hc8
  clear hc8
  go_wp2_with (first | (go_at_call 10; refine (HC8.out).mono ?_; rintro e w8 ⟨rfl, F8, H8, x0, x1, d8, hS8, hd8, hk8, _⟩; refine of_halt ?_))
  unfold G.Halt
  have HS8 := Aside0.mk (show SlD F8 H8 w gd g 1 3 d8 (true, 1, zeros 60) (true, 2, []) x0 x1 w8 from hS8)
  clear hS8 hd8 hk8
  go_wp2_with (first | (go_at_call 9; refine (HS8.out.which_c).mono ?_; rintro e w9 ⟨rfl, hb9⟩; refine of_halt ?_))
  unfold G.Halt
  rw [show which (true, 1, zeros 60) (true, 2, []) = 1 from by decide]
  have HS9 := Aside0.mk (HS8.out.below hb9)
  clear hb9
  go_wp2_with (first | (go_at_call 8; refine (HS9.out.latest_c).mono ?_; rintro e w10 ⟨v10, rfl, hR10, hb10⟩; refine of_halt ?_))
  unfold G.Halt
  rw [show lastE (true, 1, zeros 60) (true, 2, []) = 2 from by decide, show (decide (0 ≤ which (true, 1, zeros 60) (true, 2, []))) = true from by decide]
  rw [show lastB (true, 1, zeros 60) (true, 2, []) = [] from by decide] at hR10
  obtain ⟨A10, c10, rfl⟩ := Kd.R_slice hR10
  have HF := Aside0.mk (HS9.out.fr_.then_below hb10)
  clear hR10 hb10
  go_wp2
  go_ret
  exact ⟨rfl, HF.out.below⟩
end Go.Proofs.YthpholjelfajiaaDoor.G
