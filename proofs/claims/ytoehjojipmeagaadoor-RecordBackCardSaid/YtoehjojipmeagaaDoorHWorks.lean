/- The chapter's examples, by hand: 'works' is true. -/
import Derived.Test.YtoehjojipmeagaaDoorX2
import Derived.Test.YtoehjojipmeagaaDoorHRec
import Derived.Lib.SlBytesConst
namespace Go.Proofs.YtoehjojipmeagaaDoor.X
open Go.RowKit Go.Proofs.YtoehjojipmeagaaDoorW.PrintWords Go.Proofs.YtoehjojipmeagaaDoorW.PrintLast Go.Proofs.YtoehjojipmeagaaDoorW.PrintMore Go.Proofs.YtoehjojipmeagaaDoor.G
set_option linter.unusedVariables false
set_option linter.unusedSimpArgs false

def hello : List Int := [104, 101, 108, 108, 111]
def helloRec : List Int := [0, 5, 0, 0, 0, 1, 0, 0, 0, 2, 104, 101, 108, 108, 111] ++ bytes4 (not32 ([0, 5, 0, 0, 0, 1, 0, 0, 0, 2, 104, 101, 108, 108, 111].foldl more1 (not32 0)))
theorem hello_bytes : record_Bytes.f 1 2 hello = some (helloRec, 0) := by decide +kernel
theorem hello_read : record_Read.f 5 helloRec 1 2 = some (hello, 19, 0) := by decide +kernel
theorem hello_stale : record_Read.f 5 helloRec 1 3 = some ([], 0, 180) := by decide +kernel
theorem size5 : record_Size.f 5 = some 19 := by decide +kernel
theorem hello_len : helloRec.length = 19 := by decide +kernel
def colophonlaw18_works.f : Option Bool := some true
set_option maxHeartbeats 8000000 in
set_option maxRecDepth 100000 in
theorem colophonlaw18_works.calls (r : Bool) (w : World) (hT : Tab w) (h : colophonlaw18_works.f = some r) :
    Calls Tryd.prog 15 #[] w fun e w' => e = .returned (.bool r) ∧ Below w.heap.size w w' := by
  obtain rfl := Option.some.inj h
  have hcv : (convert 22 22 (.slice (some ⟨w.heap.size, 0, none⟩) 5 5)).run Tryd.prog (w.alloc (.cells #[.int .u8 104, .int .u8 101, .int .u8 108, .int .u8 108, .int .u8 111] 5)) = .ok (.slice (some ⟨w.heap.size, 0, none⟩) 5 5) (w.alloc (.cells #[.int .u8 104, .int .u8 101, .int .u8 108, .int .u8 108, .int .u8 111] 5 (5, 6))) :=
    Lib.run_convert_bytes_const w 22 5 _ 5 5 Tryd.underlying22 Tryd.underlying5
  have HT := Aside0.mk hT
  clear hT h
  go_enter Tryd.func15, Tryd.ntmps15
  go_wp2_with (first | (go_at_call 11; refine of_halt ?_))
  unfold G.Halt
  have hb1 := heap_alloc_new w (Obj.cells #[.int .u8 104, .int .u8 101, .int .u8 108, .int .u8 108, .int .u8 111] 5 (5, 6))
  have HB1 := below_alloc (Below.refl w.heap.size w) (Obj.cells #[.int .u8 104, .int .u8 101, .int .u8 108, .int .u8 108, .int .u8 111] 5 (5, 6))
  generalize w.alloc (Obj.cells #[.int .u8 104, .int .u8 101, .int .u8 108, .int .u8 108, .int .u8 111] 5 (5, 6)) = W1 at *
  have CC1 := record_Bytes.calls 1 2 (some ⟨w.heap.size, 0, none⟩) 5 hello helloRec 0 W1 (Kd.C_below HT.out HB1) (C_block hello hb1 rfl (by decide)) (Nat.le_refl _) hello_bytes
  have K1 := Aside0.mk HB1
  clear HB1 hb1 hcv
  refine CC1.mono ?_
  rintro e W2 ⟨v1, rfl, ho1, hb2⟩
  obtain ⟨A1, c1, rfl, hc1, hC1⟩ := Kd.R_reads ho1
  have K2 := Aside0.mk (below_step K1.out hb2)
  have KC := Aside0.mk hC1
  have KL := Aside0.mk hc1
  have R1 := Aside0.mk (record_Read.calls 5 A1 c1 helloRec 1 2 hello 19 0 W2 (Kd.C_below HT.out K2.out) hC1 hc1 hello_read)
  rw [hello_len] at R1 KC KL ⊢
  clear CC1 ho1 hb2 hC1 hc1
  go_wp2_with (first | (go_at_call 16; refine R1.out.mono ?_; rintro e W3 ⟨v3, rfl, ho3, hb3⟩; refine of_halt ?_))
  unfold G.Halt
  have K3 := Aside0.mk (below_step K2.out hb3)
  have R2 := Aside0.mk (record_Read.calls 5 A1 c1 helloRec 1 3 [] 0 180 W3 (Kd.C_below HT.out K3.out) (by rw [hello_len]; exact Kd.C_below KC.out hb3) (by rw [hello_len]; exact KL.out) hello_stale)
  rw [hello_len] at R2
  obtain ⟨A3, c3, rfl, hc3, hC3⟩ := Kd.Q_reads ho3
  have KC3 := Aside0.mk (show Kd.C (Kd.int .u8) W3 A3 5 hello from hC3)
  rw [show hello.length = 5 from rfl]
  clear ho3 hb3 R1 hc3 hC3
  go_wp2_with (first | (go_at_call 16; refine R2.out.mono ?_; rintro e W4 ⟨v4, rfl, ho4, hb4⟩; refine of_halt ?_))
  unfold G.Halt
  obtain ⟨A4, c4, rfl, hc4, hC4⟩ := Kd.Q_reads ho4
  have K4 := Aside0.mk (below_step K3.out hb4)
  have hst : strOfNums hello = { data := #[104, 101, 108, 108, 111] } := by decide +kernel
  have hsv : ∀ n, (convert 22 9 (.slice A3 5 c3)).run Tryd.prog (W4.drewN n) = .ok (.string { data := #[104, 101, 108, 108, 111] }) (W4.drewN n) := by
    intro n
    rw [← hst]
    exact Kd.C_string (P := Tryd.prog) (src := 22) (dst := 9) Tryd.underlying22 Tryd.underlying5 Tryd.underlying9 (c := c3) (Kd.C_drewN (Kd.C_below KC3.out hb4) n)
  have hsv0 : (convert 22 9 (.slice A3 5 c3)).run Tryd.prog W4 = .ok (.string { data := #[104, 101, 108, 108, 111] }) W4 := hsv 0
  clear ho4 hb4 hc4 hC4 R2
  go_wp2_with (first | (go_at_call 13; refine (record_Size.calls 5 19 _ size5).mono ?_; rintro e W5 ⟨rfl, ⟨nd2, rfl⟩⟩))
  go_ret
  exact ⟨rfl, pw_below_drewN K4.out nd2⟩
end Go.Proofs.YtoehjojipmeagaaDoor.X
