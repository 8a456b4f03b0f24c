/- slots.headed by hand. -/
import Derived.Test.YthpholjelfajiaaDoorChkM
import Derived.Test.YthpholjelfajiaaDoorX1
import Derived.Test.YthpholjelfajiaaDoorSlotH
namespace Go.Proofs.YthpholjelfajiaaDoor.X
open Go.RowKit Go.Proofs.YthpholjelfajiaaDoor.Sl Go.Proofs.YthpholjelfajiaaDoorW.PrintWords Go.Proofs.YthpholjelfajiaaDoorW.PrintLast Go.Proofs.YthpholjelfajiaaDoorW.PrintMore Go.Proofs.YthpholjelfajiaaDoor.G Go.Proofs.YthpholjelfajiaaDoor.T
set_option linter.unusedVariables false
set_option linter.unusedSimpArgs false
set_option maxHeartbeats 8000000 in
set_option maxRecDepth 100000 in
theorem headed_c (k e s : Int) (w : World) (hT : Tab w) :
    Calls Tryd.prog 31 #[.int .i64 k, .int .i64 e, .int .i64 s] w fun e' w' => ∃ v0_ : Value, e' = .returned v0_ ∧ Kd.R (Kd.int .u8) 5 w' w.heap.size (fun _ => True) v0_ (headB k e s) ∧ Below w.heap.size w w' := by
  have HT := Aside0.mk hT
  clear hT
  go_enter Tryd.func31, Tryd.ntmps31
  go_wp2_with (first | (go_at_call 49; refine (slots_four.calls e (b4 e) w rfl).mono ?_; rintro e w1 ⟨v1, rfl, hR1, hb1⟩; refine of_halt ?_))
  unfold G.Halt
  go_wp2_with (first | (at_builtin; refine of_halt ?_))
  unfold G.Halt
  refine print_append_str (w0 := w) w.heap.size rfl (.tmp 9) _ 22 9 5 rfl Tryd.underlying22 Tryd.underlying9 info5 v1 (b4 e) (⟨#[99, 108, 112, 104]⟩ : ByteArray) rfl rfl (Kd.own_of_R hR1) hb1 hb1.size (by rw [b4_length]; decide) ?_
  intro v2 w2 ho2 hb2 hg2
  have hR2 := Kd.R_of_own (h1 := fun _ => rfl) (ok := fun _ => True) ho2 (fun _ _ => trivial)
  rw [show bytesOf (⟨#[99, 108, 112, 104]⟩ : ByteArray) = [99, 108, 112, 104] by decide] at hR2
  have H2 := Aside0.mk (And.intro hR2 hb2)
  clear hR1 hb1 ho2 hg2 hR2 hb2
  go_wp2_with (first | (at_builtin; refine of_halt ?_))
  unfold G.Halt
  refine Kd.R_append (Kd.int .u8) (w0 := w) w.heap.size rfl (.tmp 11) (.tmp 14) 22 5 (.int .u8 0) 1 rfl Tryd.underlying22 info5 rfl (by decide) (by omega) v2 (b4 e ++ [99, 108, 112, 104]) (k % 256) [.int .u8 (k % 256)] (fun _ => True) (fun _ => False) rfl rfl rfl (fun _ hk => hk.elim) (fun _ _ => trivial) H2.out.1 H2.out.2 H2.out.2.size (by simp [b4]) ?_
  intro v3 w3 hR3 hb3 hg3 hat3
  have H3 := Aside0.mk (And.intro hR3 hb3)
  clear H2 hR3 hb3 hg3 hat3
  go_wp2_with (first | (go_at_call 49; refine (slots_four.calls s (b4 s) w3 rfl).mono ?_; rintro e w4 ⟨v4, rfl, hR4, hb4⟩; refine of_halt ?_))
  unfold G.Halt
  obtain ⟨A4, c4, rfl⟩ := Kd.R_slice hR4
  have hR3' := Kd.R_below H3.out.1 hb4
  have H4 := Aside0.mk (And.intro hR3' (And.intro (Kd.R_reads' hR4).2.2 (H3.out.2.trans (hb4.mono H3.out.2.size))))
  clear hR4 hb4 hR3' H3
  go_wp2_with (first | (at_builtin; refine of_halt ?_))
  unfold G.Halt
  refine Kd.R_append_rows (Kd.int .u8) (Rr := (Kd.int .u8).K w4) (w0 := w) w.heap.size rfl (.tmp 15) (.tmp 17) 22 5 (.int .u8 0) 1 rfl Tryd.underlying22 info5 rfl (by decide) (by omega) v3 _ (b4 s) A4 (b4 s).length c4 (fun _ => True) (fun _ => False) rfl rfl H4.out.1 H4.out.2.1 (fun x cs h => h) (fun _ hk => hk.elim) (fun _ _ => trivial) H4.out.2.2 H4.out.2.2.size (by simp [b4]) ?_
  intro v5 w5 hR5 hb5 hg5 hat5
  have H5 := Aside0.mk (And.intro hR5 hb5)
  clear hR5 hb5 hg5 hat5 H4
  go_wp2_with (first | (at_builtin; refine of_halt ?_))
  unfold G.Halt
  refine Kd.R_append_zeros (Kd.int .u8) (w0 := w) w.heap.size rfl (.tmp 19) (.const (.int .i64 43)) 22 3 5 (.int .u8 0) 1 rfl Tryd.underlying22 Tryd.underlying3 info5 rfl (by decide) (by omega) v5 _ 0 (43 : Int) (fun _ => True) rfl rfl rfl (fun _ _ => trivial) H5.out.1 (by omega) H5.out.2 H5.out.2.size (by simp [b4]) ?_
  intro v6 w6 hR6 hb6 hg6 hat6
  have hR6' : Kd.R (Kd.int .u8) 5 w6 w.heap.size (fun _ => True) v6 (headP k e s) := hR6
  obtain ⟨A6, c6, rfl⟩ := Kd.R_slice hR6'
  have H6 := Aside0.mk (And.intro hR6' hb6)
  clear hR6 hb6 hg6 hat6 hR6' H5
  go_wp2_with (first | (go_at_call 47; refine (sums_Seal.calls A6 c6 (headP k e s) (headP k e s ++ bytes4 (crc (headP k e s))) w6 (Kd.C_below HT.out H6.out.2) (Kd.R_reads' H6.out.1).2.2 (Kd.R_reads' H6.out.1).2.1 (Seal_f _ (by rw [headP_length]; omega))).mono ?_; rintro e w7 ⟨v7, rfl, hR7, hb7⟩; refine of_halt ?_))
  unfold G.Halt
  have H7 := Aside0.mk (And.intro (Kd.R_lower hR7 H6.out.2.size) (H6.out.2.trans (hb7.mono H6.out.2.size)))
  clear hR7 hb7
  go_wp2_with (first | (go_at_call 49; refine (slots_four.calls e (b4 e) w7 rfl).mono ?_; rintro e w8 ⟨v8, rfl, hR8, hb8⟩; refine of_halt ?_))
  unfold G.Halt
  obtain ⟨A8, c8, rfl⟩ := Kd.R_slice hR8
  have H8 := Aside0.mk (And.intro (Kd.R_below H7.out.1 hb8) (And.intro (Kd.R_reads' hR8).2.2 (H7.out.2.trans (hb8.mono H7.out.2.size))))
  clear hR8 hb8
  go_wp2_with (first | (at_builtin; refine of_halt ?_))
  unfold G.Halt
  refine Kd.R_append_rows (Kd.int .u8) (Rr := (Kd.int .u8).K w8) (w0 := w) w.heap.size rfl (.tmp 22) (.tmp 24) 22 5 (.int .u8 0) 1 rfl Tryd.underlying22 info5 rfl (by decide) (by omega) v7 _ (b4 e) A8 (b4 e).length c8 (fun _ => True) (fun _ => False) rfl rfl H8.out.1 H8.out.2.1 (fun x cs h => h) (fun _ hk => hk.elim) (fun _ _ => trivial) H8.out.2.2 H8.out.2.2.size (by simp [b4, headP_length, bytes4]) ?_
  intro v9 w9 hR9 hb9 hg9 hat9
  have H9 := Aside0.mk (And.intro hR9 hb9)
  clear hR9 hb9 hg9 hat9
  go_wp2
  go_ret
  exact ⟨v9, rfl, H9.out.1, H9.out.2⟩
end Go.Proofs.YthpholjelfajiaaDoor.X
