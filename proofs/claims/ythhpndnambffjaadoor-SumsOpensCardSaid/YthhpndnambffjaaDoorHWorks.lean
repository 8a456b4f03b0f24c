/- The chapter's examples, by hand: 'works' is true. -/
import Derived.Test.YthhpndnambffjaaDoorHSeal
import Derived.Lib.SlBytesConst
namespace Go.Proofs.YthhpndnambffjaaDoor.G
open Go.RowKit Go.Proofs.YthhpndnambffjaaDoorW.PrintWords Go.Proofs.YthhpndnambffjaaDoorW.PrintLast Go.Proofs.YthhpndnambffjaaDoorW.PrintMore
set_option linter.unusedVariables false
set_option linter.unusedSimpArgs false

def digits : List Int := [49, 50, 51, 52, 53, 54, 55, 56, 57]
theorem crc_digits : sums_Crc.f digits = some 3421780262 := by decide +kernel
theorem seal_digits : sums_Seal.f digits = some [49, 50, 51, 52, 53, 54, 55, 56, 57, 38, 57, 244, 203] := by decide +kernel
def colophonlaw02_works.f : Option Bool := some true

/-- The key of nothing. -/
theorem Key_nil (w : World) : Calls Tryd.prog 19 #[.slice none 0 0] w fun e w' => e = .returned (.int .u64 14695981039346656037) ∧ Drawn0 w w' := by
  go_enter Tryd.func19, Tryd.ntmps19
  go_wp2
  go_loopg [3, 10] 1 (fun kq v3 v10 w' => v3 = .int .u64 14695981039346656037 ∧ v10 = .int .i64 0 ∧ Drawn0 w w')
  case atStart => exact ⟨rfl, rfl, Drawn0.refl _⟩
  case round =>
    obtain ⟨rfl, rfl, ⟨m, rfl⟩⟩ := hrel
    go_wp2
    go_ret
    exact ⟨rfl, ⟨m, rfl⟩⟩
set_option maxHeartbeats 8000000 in
set_option maxRecDepth 100000 in
theorem colophonlaw02_works.calls (r : Bool) (w : World) (hT : Tab w) (h : colophonlaw02_works.f = some r) :
    Calls Tryd.prog 17 #[] w fun e w' => e = .returned (.bool r) ∧ Below w.heap.size w w' := by
  obtain rfl := Option.some.inj h
  have hcv : ∀ W : World, (convert 22 22 (.slice (some ⟨W.heap.size, 0, none⟩) 9 9)).run Tryd.prog (W.alloc (.cells #[.int .u8 49, .int .u8 50, .int .u8 51, .int .u8 52, .int .u8 53, .int .u8 54, .int .u8 55, .int .u8 56, .int .u8 57] 5)) = .ok (.slice (some ⟨W.heap.size, 0, none⟩) 9 9) (W.alloc (.cells #[.int .u8 49, .int .u8 50, .int .u8 51, .int .u8 52, .int .u8 53, .int .u8 54, .int .u8 55, .int .u8 56, .int .u8 57] 5 (9, 10))) :=
    fun W => Lib.run_convert_bytes_const W 22 5 _ 9 9 Tryd.underlying22 Tryd.underlying5
  have hcv2 : ∀ (W : World) (m : Nat), (convert 22 22 (.slice (some ⟨W.heap.size, 0, none⟩) 9 9)).run Tryd.prog ((W.drewN m).alloc (.cells #[.int .u8 49, .int .u8 50, .int .u8 51, .int .u8 52, .int .u8 53, .int .u8 54, .int .u8 55, .int .u8 56, .int .u8 57] 5)) = .ok (.slice (some ⟨W.heap.size, 0, none⟩) 9 9) ((W.drewN m).alloc (.cells #[.int .u8 49, .int .u8 50, .int .u8 51, .int .u8 52, .int .u8 53, .int .u8 54, .int .u8 55, .int .u8 56, .int .u8 57] 5 (9, 10))) := fun W m => hcv (W.drewN m)
  go_enter Tryd.func17, Tryd.ntmps17
  go_wp2_with (first | ((with_reducible refine gate_callee (f := 11) rfl ?_); refine of_halt ?_))
  unfold Halt
  have hb1 := heap_alloc_new w (Obj.cells #[.int .u8 49, .int .u8 50, .int .u8 51, .int .u8 52, .int .u8 53, .int .u8 54, .int .u8 55, .int .u8 56, .int .u8 57] 5 (9, 10))
  have HB1 : Below w.heap.size w (w.alloc (Obj.cells #[.int .u8 49, .int .u8 50, .int .u8 51, .int .u8 52, .int .u8 53, .int .u8 54, .int .u8 55, .int .u8 56, .int .u8 57] 5 (9, 10))) := (Below.refl _ _).alloc (Nat.le_refl _) _
  have HC1 : Kd.C (Kd.int .u8) (w.alloc (Obj.cells #[.int .u8 49, .int .u8 50, .int .u8 51, .int .u8 52, .int .u8 53, .int .u8 54, .int .u8 55, .int .u8 56, .int .u8 57] 5 (9, 10))) (some ⟨w.heap.size, 0, none⟩) 9 digits := C_block digits hb1 rfl (by decide)
  have HT1 : Tab (w.alloc (Obj.cells #[.int .u8 49, .int .u8 50, .int .u8 51, .int .u8 52, .int .u8 53, .int .u8 54, .int .u8 55, .int .u8 56, .int .u8 57] 5 (9, 10))) := Kd.C_alloc hT _
  clear hb1
  generalize w.alloc (Obj.cells #[.int .u8 49, .int .u8 50, .int .u8 51, .int .u8 52, .int .u8 53, .int .u8 54, .int .u8 55, .int .u8 56, .int .u8 57] 5 (9, 10)) = W1 at *
  have CC1 := sums_Crc.calls (some ⟨w.heap.size, 0, none⟩) 9 digits 3421780262 W1 HT1 HC1 (Nat.le_refl _) crc_digits
  have K1 := Aside0.mk HB1
  have K2 := Aside0.mk HT1
  clear HB1 HT1 HC1 hT
  go_wp2_with (first | ((with_reducible refine gate_callee (f := 11) rfl ?_); refine goesL_ (some 3) rfl rfl Tryd.func11 (by kernel_rfl) rfl #[.slice (some ⟨w.heap.size, 0, none⟩) 9 9] rfl (by (try simp only [List.map_toArray, List.map_cons, List.map_nil]); first | done | rfl) ?_; refine (CC1).mono ?_; rintro e W2 ⟨rfl, ⟨nd, hnd⟩⟩; refine ⟨_, rfl, ?_⟩) | (go_at_call 13; refine of_halt ?_))
  unfold Halt
  have hb2 := heap_alloc_new (W1.drewN nd) (Obj.cells #[.int .u8 49, .int .u8 50, .int .u8 51, .int .u8 52, .int .u8 53, .int .u8 54, .int .u8 55, .int .u8 56, .int .u8 57] 5 (9, 10))
  have HC2 : Kd.C (Kd.int .u8) ((W1.drewN nd).alloc (Obj.cells #[.int .u8 49, .int .u8 50, .int .u8 51, .int .u8 52, .int .u8 53, .int .u8 54, .int .u8 55, .int .u8 56, .int .u8 57] 5 (9, 10))) (some ⟨W1.heap.size, 0, none⟩) 9 digits := C_block digits hb2 rfl (by decide)
  have HB2 := Below.alloc (pw_below_drewN K1.out nd) K1.out.size (Obj.cells #[.int .u8 49, .int .u8 50, .int .u8 51, .int .u8 52, .int .u8 53, .int .u8 54, .int .u8 55, .int .u8 56, .int .u8 57] 5 (9, 10))
  have HT2 : Tab ((W1.drewN nd).alloc (Obj.cells #[.int .u8 49, .int .u8 50, .int .u8 51, .int .u8 52, .int .u8 53, .int .u8 54, .int .u8 55, .int .u8 56, .int .u8 57] 5 (9, 10))) := Kd.C_alloc (Kd.C_drewN K2.out nd) _
  clear hb2
  generalize (W1.drewN nd).alloc (Obj.cells #[.int .u8 49, .int .u8 50, .int .u8 51, .int .u8 52, .int .u8 53, .int .u8 54, .int .u8 55, .int .u8 56, .int .u8 57] 5 (9, 10)) = W2 at *
  have CC2 := sums_Seal.calls (some ⟨W1.heap.size, 0, none⟩) 9 digits _ W2 HT2 HC2 (Nat.le_refl _) seal_digits
  have K3 := Aside0.mk HB2
  clear HB2 HT2 HC2
  refine CC2.mono ?_
  rintro e W3 ⟨v3, rfl, ho3, hb3⟩
  obtain ⟨A3, c3, rfl, hc3, hr3⟩ := Kd.R_reads ho3
  have hst : strOfNums [49, 50, 51, 52, 53, 54, 55, 56, 57, 38, 57, 244, 203] = { data := #[49, 50, 51, 52, 53, 54, 55, 56, 57, 38, 57, 244, 203] } := by decide +kernel
  have hsv : (convert 22 9 (.slice A3 13 c3)).run Tryd.prog W3 = .ok (.string { data := #[49, 50, 51, 52, 53, 54, 55, 56, 57, 38, 57, 244, 203] }) W3 := by
    rw [← hst]
    exact Kd.C_string (P := Tryd.prog) (src := 22) (dst := 9) Tryd.underlying22 Tryd.underlying5 Tryd.underlying9 (c := c3) hr3
  have K4 := Aside0.mk (below_then K3.out K3.out.size hb3)
  clear ho3 hb3 hr3
  go_wp2_with (first | (go_at_call 19; refine (Key_nil _).mono ?_; rintro e W4 ⟨rfl, ⟨nd2, rfl⟩⟩))
  go_ret
  exact ⟨rfl, pw_below_drewN K4.out nd2⟩
end Go.Proofs.YthhpndnambffjaaDoor.G
