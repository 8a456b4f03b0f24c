/- The law RecordScans, walked by hand. -/
import Derived.Test.YtoehjojipmeagaaDoorHScan
import Derived.Test.YtoehjojipmeagaaDoorHRefScan
import Derived.Test.YtoehjojipmeagaaDoorHSame
namespace Go.Proofs.YtoehjojipmeagaaDoor.X
open Go.RowKit Go.Proofs.YtoehjojipmeagaaDoorW.PrintWords Go.Proofs.YtoehjojipmeagaaDoorW.PrintLast Go.Proofs.YtoehjojipmeagaaDoorW.PrintMore Go.Proofs.YtoehjojipmeagaaDoor.G Go.Proofs.YtoehjojipmeagaaDoor.T Go.Proofs.YtoehjojipmeagaaDoor.Pure Go.Proofs.YtoehjojipmeagaaDoor.E
set_option linter.unusedVariables false
set_option linter.unusedSimpArgs false

theorem same_l0 (l : List (List Int)) (hl : l.length < 4611686018427387904) : ∀ d j : Nat, j + d = l.length → Ev (fun k => colophonref18_Same.l0 k l l (j : Int)) true := by
  intro d
  induction d with
  | zero =>
    intro j hj
    refine ev_succ ?_
    simp only [colophonref18_Same.l0]
    simp only [if_neg (show ¬ ((j : Int) < (l.length : Int)) by omega)]
    exact Ev.now _
  | succ d ih =>
    intro j hj
    refine ev_succ ?_
    simp only [colophonref18_Same.l0]
    simp only [if_pos (show ((j : Int) < (l.length : Int)) by omega), if_pos (Int.natCast_nonneg j), if_true, Go.Proofs.YtoehjojipmeagaaDoor.E.w64 (show j < 9223372036854775807 by omega)]
    exact ih (j + 1) (by omega)
theorem same_f (l : List (List Int)) (hl : l.length < 4611686018427387904) : Ev (fun k => colophonref18_Same.f k l l) true := by
  simp only [colophonref18_Same.f, if_true]
  exact same_l0 l hl l.length 0 (Nat.zero_add _)
theorem scan_count : ∀ (n : Nat) (l : List Int) (ep sq : Int), Bytes l → (scan n l ep sq).1.length * 14 ≤ l.length
  | 0, l, _, _, _ => by simp [scan]
  | n + 1, l, ep, sq, hb => by
    rw [scan]
    by_cases h : (RD l ep sq).2.2 = 0
    · obtain ⟨m, _, hm, he, _⟩ := RD_ok l ep sq hb h
      rw [if_pos h, he]
      have ih := scan_count n (l.drop ((m : Int) + 14).toNat) ep (sq + 1) (hb.drop _)
      rw [List.length_drop] at ih
      simp only [List.length_cons]
      omega
    · rw [if_neg h]; simp
theorem SC_count (l : List Int) (ep sq : Int) (hb : Bytes l) : (SC l ep sq).1.length * 14 ≤ l.length := by
  unfold SC
  by_cases h : [ep, sq].all numB = true
  · rw [if_pos h]; exact scan_count _ _ _ _ hb
  · rw [if_neg h]; simp
def colophonlaw18_RecordScans.Pure : Prop := ∀ (l : List Int), l.length ≤ 20000 → Bytes l → True
set_option maxHeartbeats 16000000 in
set_option maxRecDepth 100000 in
theorem colophonlaw18_RecordScans.walk (P : colophonlaw18_RecordScans.Pure) (a0 : Option Addr) (len0 cap0 : Nat) (z0 : List Int) (a1 a2 : Int) (w : World) (hT : Tab w) (w0 : (a0 = none ∧ len0 = 0 ∧ cap0 = 0 ∧ z0 = []) ∨ ∃ x, a0 = some x ∧ len0 ≤ cap0 ∧ cap0 ≤ maxLen ∧ z0.length = cap0 ∧ (∀ i, i < z0.length → w.cell? (x.add i) = some (.int .u8 (z0.getD i 0))) ∧ ∀ n ∈ z0, (Lit.int .u8 n).wf = true) (y0 : len0 * 1 ≤ 140737488351232) (w1 : (Lit.int .i64 a1).wf = true) (w2 : (Lit.int .i64 a2).wf = true) :
    Calls Tryd.prog 5 #[.slice a0 len0 cap0, .int .i64 a1, .int .i64 a2] w fun e w' => e = .returned (.bool true) ∧ Below w.heap.size w w' := by
  obtain ⟨l0, rfl, hr0, hm0, hw0, hc0⟩ := ReadsInt.ofRowC w0
  have hby := bytes_wf hw0
  have HR := Aside0.mk (show Kd.C (Kd.int .u8) w a0 l0.length l0 from Kd.C_of_reads (d := (0 : Int)) (h1 := fun _ => rfl) hr0)
  have HT := Aside0.mk hT
  have HC0 := Aside0.mk hc0
  clear hr0 hT w0 P hm0 hw0 w1 w2 y0
  by_cases hbig : 20000 < l0.length
  · have b0 : decide (20000 < (l0.length : Int)) = true := decide_eq_true (by omega)
    have b1 : decide (20000 < l0.length) = true := decide_eq_true hbig
    have HW := Aside0.mk (colophonlaw18_works.calls true w HT.out rfl)
    clear hbig
    go_enter Tryd.func5, Tryd.ntmps5
    go_wp2_with (first | (go_at_call 15; refine HW.out.mono ?_; rintro e w9 ⟨rfl, hb9⟩))
    go_ret
    exact ⟨rfl, hb9⟩
  have b0 : decide (20000 < (l0.length : Int)) = false := decide_eq_false (by omega)
  have b1 : decide (20000 < l0.length) = false := decide_eq_false hbig
  have hcnt := SC_count l0 a1 a2 hby
  have HRef := Aside0.mk (fun W hC => refScan_calls a0 cap0 l0 a1 a2 W hC hc0 hby (by omega))
  have HScan := Aside0.mk (fun W A c hT hC hc => Scan_calls A c l0 a1 a2 W hT hC hc hby (by omega))
  generalize SC l0 a1 a2 = rr at *
  obtain ⟨X, n2, n3⟩ := rr
  obtain ⟨ks, hks⟩ := Ev.rounds (same_f X (by simp at hcnt; omega))
  have HSame := Aside0.mk (fun W A c A' c' hC hc hC' hc' => colophonref18_Same.calls ks A c X A' c' X true W hC hc hC' hc' hks)
  have info5 : (Tryd.prog.info? 5).map (fun i => (i.zero, i.size, i.bytes)) = some (some (.int .u8 0), 1, 1) := by kernel_rfl
  have HL := Aside0.mk (show l0.length ≤ 20000 by omega)
  clear hc0 hby hcnt hks hbig
  go_enter Tryd.func5, Tryd.ntmps5
  go_wp2_with (first | ((with_reducible refine gate_dst (N := 20) rfl ?_); refine of_halt ?_))
  unfold G.Halt
  have hO : Kd.R (Kd.int .u8) 5 (w.alloc (Obj.cells #[] 5)) w.heap.size (fun _ => True) (.slice (some ⟨w.heap.size, 0, none⟩) 0 0) [] := ⟨fun _ _ => trivial, OwnRow.lit w w.heap.size (ps := []) (inner := []) (Reps.none _ _) (Nat.le_refl _) (by simp)⟩
  refine Kd.R_append_row (w0 := w) (Value.int .u8) 0 w.heap.size rfl (.tmp 18) (.tmp 19) 22 5 (.int .u8 0) 1 rfl Tryd.underlying22 info5 rfl (by omega) (.slice (some ⟨w.heap.size, 0, none⟩) 0 0) [] l0 a0 l0.length cap0 (fun _ => True) rfl rfl (fun _ _ => trivial) hO (Kd.C_alloc HR.out _) (below_alloc (Below.refl _ _) _) (by simp) (by have := HL.out; simp; omega) ?_
  intro v7 W1 ho7 hb7 hg7 hat7
  obtain ⟨A7, c7, rfl, hc7, hC7⟩ := Kd.R_reads ho7
  simp only [List.nil_append] at hC7 hc7 ⊢
  have HB1 := Aside0.mk hb7
  have HC7 := Aside0.mk hC7
  have HD7 := Aside0.mk hc7
  clear ho7 hb7 hg7 hat7 hO hC7 hc7
  have HR1 := Aside0.mk (HScan.out W1 A7 c7 (Kd.C_below HT.out HB1.out) HC7.out HD7.out)
  go_wp2_with (first | (go_at_call 18; refine HR1.out.mono ?_; rintro e W3 ⟨A8, c8, rfl, hc8, hC8, hb8⟩; refine of_halt ?_))
  unfold G.Halt
  have HC8 := Aside0.mk hC8
  have HD8 := Aside0.mk hc8
  have HB3 := Aside0.mk (below_step HB1.out hb8)
  have HB13 := Aside0.mk hb8
  clear hb8 hC8 hc8 HR1
  have HR2 := Aside0.mk (HRef.out W3 (Kd.C_below HR.out HB3.out))
  go_wp2_with (first | (go_at_call 19; refine HR2.out.mono ?_; rintro e W4 ⟨A11, c11, rfl, hc11, hC11, hb11⟩; refine of_halt ?_))
  unfold G.Halt
  have HB4 := Aside0.mk (below_step HB3.out hb11)
  have HS4 := Aside0.mk (HSame.out W4 A8 c8 A11 c11 (Kd.C_below HC8.out hb11) HD8.out hC11 hc11)
  have hcv1 := fun W (hW : Below W4.heap.size W4 W) => Kd.C_string (P := Tryd.prog) (src := 22) (dst := 9) Tryd.underlying22 Tryd.underlying5 Tryd.underlying9 (c := c7) (Kd.C_below HC7.out (below_step (below_step HB13.out hb11) hW))
  have hcv2 := fun W (hW : Below W4.heap.size W4 W) => Kd.C_string (P := Tryd.prog) (src := 22) (dst := 9) Tryd.underlying22 Tryd.underlying5 Tryd.underlying9 (c := cap0) (Kd.C_below HR.out (below_step HB4.out hW))
  have HCV1 := Aside0.mk hcv1
  have HCV2 := Aside0.mk hcv2
  clear hb11 hC11 hc11 HR2 hcv1 hcv2
  go_wp2_with (first | (go_at_call 20; refine HS4.out.mono ?_; rintro e w' ⟨rfl, ⟨nd, rfl⟩⟩; refine of_halt ?_))
  unfold G.Halt
  have hd := pw_below_drewN (Below.refl W4.heap.size W4) nd
  have hcv1 := HCV1.out _ hd
  have hcv2 := HCV2.out _ hd
  have HBd := Aside0.mk (below_step HB4.out hd)
  have HW := Aside0.mk (colophonlaw18_works.calls true _ (Kd.C_below HT.out HBd.out) rfl)
  clear hd
  go_wp2_with (first | (go_at_call 15; refine HW.out.mono ?_; rintro e w9 ⟨rfl, hb9⟩; have HB9 := Aside0.mk (below_step HBd.out hb9); clear hb9))
  go_ret
  exact ⟨rfl, HB9.out⟩
end Go.Proofs.YtoehjojipmeagaaDoor.X
