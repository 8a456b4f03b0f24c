/- The law RecordReads, walked by hand. -/
import Derived.Test.YtoehjojipmeagaaDoorRecRead
namespace Go.Proofs.YtoehjojipmeagaaDoor.X
open Go.RowKit Go.Proofs.YtoehjojipmeagaaDoorW.PrintWords Go.Proofs.YtoehjojipmeagaaDoorW.PrintLast Go.Proofs.YtoehjojipmeagaaDoorW.PrintMore Go.Proofs.YtoehjojipmeagaaDoor.G Go.Proofs.YtoehjojipmeagaaDoor.T
set_option linter.unusedVariables false
set_option linter.unusedSimpArgs false

/-- The pure statement: the program reads what the document reads. -/
def colophonlaw18_RecordReads.Pure : Prop := ∀ (l : List Int) (a1 a2 : Int), Bytes l → l.length ≤ 140737488351232 → ∃ k, record_Read.f k l a1 a2 = some (RD l a1 a2)
set_option maxHeartbeats 16000000 in
set_option maxRecDepth 100000 in
theorem colophonlaw18_RecordReads.walk (P : colophonlaw18_RecordReads.Pure) (a0 : Option Addr) (len0 cap0 : Nat) (z0 : List Int) (a1 a2 : Int) (w : World) (hT : Tab w) (w0 : (a0 = none ∧ len0 = 0 ∧ cap0 = 0 ∧ z0 = []) ∨ ∃ x, a0 = some x ∧ len0 ≤ cap0 ∧ cap0 ≤ maxLen ∧ z0.length = cap0 ∧ (∀ i, i < z0.length → w.cell? (x.add i) = some (.int .u8 (z0.getD i 0))) ∧ ∀ n ∈ z0, (Lit.int .u8 n).wf = true) (y0 : len0 * 1 ≤ 140737488351232) (w1 : (Lit.int .i64 a1).wf = true) (w2 : (Lit.int .i64 a2).wf = true) :
    Calls Tryd.prog 4 #[.slice a0 len0 cap0, .int .i64 a1, .int .i64 a2] w fun e w' => e = .returned (.bool true) ∧ Below w.heap.size w w' := by
  obtain ⟨l0, rfl, hr0, hm0, hw0, hc0⟩ := ReadsInt.ofRowC w0
  have hby := bytes_wf hw0
  have hll : l0.length ≤ 140737488351232 := by omega
  obtain ⟨k, hA⟩ := P l0 a1 a2 hby hll
  have HR := Aside0.mk (show Kd.C (Kd.int .u8) w a0 l0.length l0 from Kd.C_of_reads (d := (0 : Int)) (h1 := fun _ => rfl) hr0)
  have HT := Aside0.mk hT
  have HL := Aside0.mk hll
  have HC0 := Aside0.mk hc0
  have HRef := Aside0.mk (fun W hC => refRead_calls a0 cap0 l0 a1 a2 W hC hc0 hby hll)
  generalize hRD : RD l0 a1 a2 = rr at *
  obtain ⟨X, n2, n3⟩ := rr
  have HRead := Aside0.mk (fun W A c hT hC hc => record_Read.calls k A c l0 a1 a2 X n2 n3 W hT hC hc hA)
  have info5 : (Tryd.prog.info? 5).map (fun i => (i.zero, i.size, i.bytes)) = some (some (.int .u8 0), 1, 1) := by kernel_rfl
  clear hr0 hT w0 P hm0 hw0 hc0 hby hll hA hRD w1 w2 y0
  go_enter Tryd.func4, Tryd.ntmps4
  go_wp2_with (first | ((with_reducible refine gate_dst (N := 17) rfl ?_); refine of_halt ?_))
  unfold G.Halt
  have hO : Kd.R (Kd.int .u8) 5 (w.alloc (Obj.cells #[] 5)) w.heap.size (fun _ => True) (.slice (some ⟨w.heap.size, 0, none⟩) 0 0) [] := ⟨fun _ _ => trivial, OwnRow.lit w w.heap.size (ps := []) (inner := []) (Reps.none _ _) (Nat.le_refl _) (by simp)⟩
  refine Kd.R_append_row (w0 := w) (Value.int .u8) 0 w.heap.size rfl (.tmp 15) (.tmp 16) 22 5 (.int .u8 0) 1 rfl Tryd.underlying22 info5 rfl (by omega) (.slice (some ⟨w.heap.size, 0, none⟩) 0 0) [] l0 a0 l0.length cap0 (fun _ => True) rfl rfl (fun _ _ => trivial) hO (Kd.C_alloc HR.out _) (below_alloc (Below.refl _ _) _) (by simp) (by have := HL.out; simp; omega) ?_
  intro v7 W1 ho7 hb7 hg7 hat7
  obtain ⟨A7, c7, rfl, hc7, hC7⟩ := Kd.R_reads ho7
  simp only [List.nil_append] at hC7 hc7 ⊢
  have HB1 := Aside0.mk hb7
  have HC7 := Aside0.mk hC7
  have HD7 := Aside0.mk hc7
  clear ho7 hb7 hg7 hat7 hO hC7 hc7
  have HR1 := Aside0.mk (HRead.out W1 A7 c7 (Kd.C_below HT.out HB1.out) HC7.out HD7.out)
  go_wp2_with (first | (go_at_call 16; refine HR1.out.mono ?_; rintro e W3 ⟨v8, rfl, ho8, hb8⟩; refine of_halt ?_))
  unfold G.Halt
  obtain ⟨A8, c8, rfl, hc8, hC8⟩ := Kd.Q_reads ho8
  have HQ3 := Aside0.mk ho8
  have HB3 := Aside0.mk hb8
  have HC8 := Aside0.mk hC8
  clear ho8 hb8 hC8 hc8 HR1
  have HR2 := Aside0.mk (HRef.out W3 (Kd.C_below HR.out (below_step HB1.out HB3.out)))
  go_wp2_with (first | (go_at_call 17; refine HR2.out.mono ?_; rintro e W4 ⟨A11, c11, rfl, hc11, hC11, hb11⟩; refine of_halt ?_))
  unfold G.Halt
  have HB4 := Aside0.mk (below_step HB3.out hb11)
  have HQ4 := Aside0.mk (Kd.Q_below HQ3.out hb11)
  have hcv1 := Kd.C_string (P := Tryd.prog) (src := 22) (dst := 9) Tryd.underlying22 Tryd.underlying5 Tryd.underlying9 (c := c8) (Kd.C_below HC8.out hb11)
  have hcv2 := Kd.C_string (P := Tryd.prog) (src := 22) (dst := 9) Tryd.underlying22 Tryd.underlying5 Tryd.underlying9 (c := c11) hC11
  clear hb11 hC11 hc11 HR2
  go_upto_block 0 with (fail)
  clear hcv1 hcv2
  go_wp2
  go_loopg [51] (X.length + 1) (fun kq v51 w' => ∃ (y : List Int) (x : Int), v51 = .int .i64 x ∧ Aside0 (0 ≤ x ∧ x ≤ X.length) ∧ Aside0 (kq + x.toNat = X.length + 1) ∧ Aside0 (y.length = X.length) ∧ Aside0 (Kd.Q (Kd.int .u8) 5 w' W1.heap.size (fun _ => True) (.slice A8 X.length c8) y) ∧ Aside0 (Below W1.heap.size W1 w'))
  case atStart => exact ⟨X, 0, rfl, ⟨by omega⟩, ⟨rfl⟩, ⟨rfl⟩, HQ4, HB4⟩
  case round =>
    clear HQ4 HB4 HQ3 HB3
    obtain ⟨y, x, rfl, HI, HK, HY, HQ, HB⟩ := hrel
    by_cases c2 : x < (X.length : Int)
    · have c2b : decide (x < (X.length : Int)) = true := decide_eq_true c2
      obtain ⟨g, o, cap, e, hgb, _⟩ := Kd.Q_form HQ.out (by have := HY.out; have := HI.out; omega)
      injection e with e1 e2 e3
      subst e1 e3
      clear e2
      obtain ⟨hx, hf⟩ := Kd.Q_cell 0 HQ.out x HI.out.1 c2
      have p1 : (0 ≤ x) = True := eq_true HI.out.1
      have q1 : (x < (X.length : Int)) = True := eq_true c2
      have HC2 := Aside0.mk c2
      have HG := Aside0.mk hgb
      clear c2 hgb
      go_wp2
      go_roundg (gk - 1)
      case measure => have := HK.out; have := HI.out; have := HC2.out; omega
      case rel => exact ⟨_, x + 1, by rw [show wrap64 (x + 1) = x + 1 from by have := HI.out; have := HC2.out; have := Kd.C_max HC8.out; unfold wrap64; omega], ⟨by have := HI.out; have := HC2.out; omega⟩, ⟨by have := HK.out; have := HI.out; have := HC2.out; omega⟩, ⟨by rw [List.length_set]; exact HY.out⟩, ⟨(Kd.Q_putg HQ.out x HI.out.1 HC2.out _).1⟩, ⟨HB.out.setCell (p := ⟨g, o + x.toNat, none⟩) HG.out _⟩⟩
    · have h4 : x = X.length := by have := HI.out; omega
      have c2b : decide (x < (X.length : Int)) = false := decide_eq_false c2
      have HBw := Aside0.mk (below_step HB1.out HB.out)
      have hcv3 := Kd.C_string (P := Tryd.prog) (src := 22) (dst := 9) Tryd.underlying22 Tryd.underlying5 Tryd.underlying9 (c := c7) (Kd.C_below HC7.out HB.out)
      have hcv4 := Kd.C_string (P := Tryd.prog) (src := 22) (dst := 9) Tryd.underlying22 Tryd.underlying5 Tryd.underlying9 (c := cap0) (Kd.C_below HR.out HBw.out)
      have HW := Aside0.mk (colophonlaw18_works.calls true wr (Kd.C_below HT.out HBw.out) rfl)
      go_wp2_with (first | (go_at_call 15; refine HW.out.mono ?_; rintro e w9 ⟨rfl, hb9⟩))
      go_ret
      exact ⟨rfl, below_step HBw.out hb9⟩
end Go.Proofs.YtoehjojipmeagaaDoor.X
