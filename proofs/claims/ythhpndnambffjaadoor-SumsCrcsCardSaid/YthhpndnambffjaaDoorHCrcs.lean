/- The law SumsCrcs, walked by hand (its literal's block is marked). -/
import Derived.Test.YthhpndnambffjaaDoorX1
import Derived.Test.YthhpndnambffjaaDoorHWorks
namespace Go.Proofs.YthhpndnambffjaaDoor.X
open Go.RowKit Go.Proofs.YthhpndnambffjaaDoorW.PrintWords Go.Proofs.YthhpndnambffjaaDoorW.PrintLast Go.Proofs.YthhpndnambffjaaDoorW.PrintMore Go.Proofs.YthhpndnambffjaaDoor.G
set_option linter.unusedVariables false
set_option linter.unusedSimpArgs false

/-- The pure statement: the program's sum is the document's. -/
def colophonlaw02_SumsCrcs.Pure : Prop := ∀ (l0 : List Int), l0.length * 1 ≤ 140737488351232 → (∀ x ∈ l0, (Lit.int .u8 x).wf = true) → ∃ k r, sums_Crc.f l0 = some r ∧ colophonref02_Crc.f k l0 = some r
set_option maxHeartbeats 8000000 in
set_option maxRecDepth 100000 in
theorem colophonlaw02_SumsCrcs.walk (P : colophonlaw02_SumsCrcs.Pure) (a0 : Option Addr) (len0 cap0 : Nat) (z0 : List Int) (w : World) (hT : Tab w) (w0 : (a0 = none ∧ len0 = 0 ∧ cap0 = 0 ∧ z0 = []) ∨ ∃ x, a0 = some x ∧ len0 ≤ cap0 ∧ cap0 ≤ maxLen ∧ z0.length = cap0 ∧ (∀ i, i < z0.length → w.cell? (x.add i) = some (.int .u8 (z0.getD i 0))) ∧ ∀ n ∈ z0, (Lit.int .u8 n).wf = true) (y0 : len0 * 1 ≤ 140737488351232) :
    Calls Tryd.prog 3 #[.slice a0 len0 cap0] w fun e w' => e = .returned (.bool true) ∧ Below w.heap.size w w' := by
  obtain ⟨l0, rfl, hr0, hm0, hw0, hc0⟩ := ReadsInt.ofRowC w0
  obtain ⟨k, s, hA, hB⟩ := P l0 y0 hw0
  have HR := Kd.C_of_reads (d := (0 : Int)) (h1 := fun _ => rfl) hr0
  have HR0 := Aside0.mk (show Kd.C (Kd.int .u8) w a0 l0.length l0 from HR)
  have HT := Aside0.mk hT
  have C1 := Aside0.mk (fun W h1 h2 => sums_Crc.calls a0 cap0 l0 s W h1 h2 hc0 hA)
  have C2 := Aside0.mk (fun W h2 => colophonref02_Crc.calls k a0 cap0 l0 s W h2 hc0 hB)
  have hnm : colophonlaw02_names.f = some true := rfl
  have C0 := Aside0.mk (fun W => colophonlaw02_names.calls true W hnm)
  clear HR hr0 hT hA hB hnm w0 P
  go_enter Tryd.func3, Tryd.ntmps3
  go_wp2_with (first | ((with_reducible refine gate_callee (f := 10) rfl ?_); refine goesL_ (some 3) rfl rfl Tryd.func10 (by kernel_rfl) rfl #[] rfl (by (try simp only [List.map_toArray, List.map_cons, List.map_nil]); first | done | rfl) ?_; refine (C0.out w).mono ?_; rintro e w' ⟨rfl, ⟨nd, rfl⟩⟩; refine ⟨_, rfl, ?_⟩) | (go_at_call 11; refine (C1.out _ (Kd.C_drewN HT.out _) (Kd.C_drewN HR0.out _)).mono ?_; rintro e w' ⟨rfl, ⟨nd1, rfl⟩⟩) | (go_at_call 12; refine (C2.out _ (Kd.C_drewN HR0.out _)).mono ?_; rintro e w' ⟨rfl, ⟨nd2, rfl⟩⟩) | ((with_reducible refine gate_dst (N := 12) rfl ?_); refine of_halt ?_))
  unfold G.Halt
  have hcv2 : ∀ (m : Nat), (convert 22 22 (.slice (some ⟨w.heap.size, 0, none⟩) 9 9)).run Tryd.prog ((w.drewN m).alloc (.cells #[.int .u8 49, .int .u8 50, .int .u8 51, .int .u8 52, .int .u8 53, .int .u8 54, .int .u8 55, .int .u8 56, .int .u8 57] 5)) = .ok (.slice (some ⟨w.heap.size, 0, none⟩) 9 9) ((w.drewN m).alloc (Obj.cells #[.int .u8 49, .int .u8 50, .int .u8 51, .int .u8 52, .int .u8 53, .int .u8 54, .int .u8 55, .int .u8 56, .int .u8 57] 5 (9, 10))) := fun m => Lib.run_convert_bytes_const (w.drewN m) 22 5 _ 9 9 Tryd.underlying22 Tryd.underlying5
  go_wp2_with (first | (go_at_call 11; refine of_halt ?_))
  unfold G.Halt
  have hb2 := heap_alloc_new (w.drewN (nd + nd1 + nd2)) (Obj.cells #[.int .u8 49, .int .u8 50, .int .u8 51, .int .u8 52, .int .u8 53, .int .u8 54, .int .u8 55, .int .u8 56, .int .u8 57] 5 (9, 10))
  have HC2 : Kd.C (Kd.int .u8) ((w.drewN (nd + nd1 + nd2)).alloc (Obj.cells #[.int .u8 49, .int .u8 50, .int .u8 51, .int .u8 52, .int .u8 53, .int .u8 54, .int .u8 55, .int .u8 56, .int .u8 57] 5 (9, 10))) (some ⟨w.heap.size, 0, none⟩) 9 digits := C_block digits hb2 rfl (by decide)
  have HB2 := Aside0.mk (Below.alloc (pw_below_drewN (Below.refl w.heap.size w) (nd + nd1 + nd2)) (Nat.le_refl _) (Obj.cells #[.int .u8 49, .int .u8 50, .int .u8 51, .int .u8 52, .int .u8 53, .int .u8 54, .int .u8 55, .int .u8 56, .int .u8 57] 5 (9, 10)))
  have HT2 : Tab ((w.drewN (nd + nd1 + nd2)).alloc (Obj.cells #[.int .u8 49, .int .u8 50, .int .u8 51, .int .u8 52, .int .u8 53, .int .u8 54, .int .u8 55, .int .u8 56, .int .u8 57] 5 (9, 10))) := Kd.C_alloc (Kd.C_drewN HT.out _) _
  refine (sums_Crc.calls (some ⟨w.heap.size, 0, none⟩) 9 digits 3421780262 _ HT2 HC2 (Nat.le_refl _) crc_digits).mono ?_
  rintro e w' ⟨rfl, ⟨nd3, rfl⟩⟩
  clear HC2 HT2 hb2
  go_wp2
  go_ret
  exact ⟨rfl, pw_below_drewN HB2.out _⟩
end Go.Proofs.YthhpndnambffjaaDoor.X
