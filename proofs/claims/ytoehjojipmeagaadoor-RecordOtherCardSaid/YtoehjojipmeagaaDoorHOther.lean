/- The law RecordOther, walked by hand. -/
import Derived.Test.YtoehjojipmeagaaDoorLogT
import Derived.Test.YtoehjojipmeagaaDoorHScan
import Derived.Test.YtoehjojipmeagaaDoorHSame
import Derived.Test.YtoehjojipmeagaaDoorHWorks
import Derived.Deep.RegionHeld3
namespace Go.Proofs.YtoehjojipmeagaaDoor.X
open Go.RowKit Go.Proofs.YtoehjojipmeagaaDoorW.PrintWords Go.Proofs.YtoehjojipmeagaaDoorW.PrintLast Go.Proofs.YtoehjojipmeagaaDoorW.PrintMore Go.Proofs.YtoehjojipmeagaaDoor.G Go.Proofs.YtoehjojipmeagaaDoor.T Go.Proofs.YtoehjojipmeagaaDoor.Pure Go.Proofs.YtoehjojipmeagaaDoor.E
set_option linter.unusedVariables false
set_option linter.unusedSimpArgs false
def colophonlaw18_RecordOther.Pure : Prop := colophonlaw18_works.f = some true
set_option maxHeartbeats 16000000 in
set_option maxRecDepth 100000 in
theorem colophonlaw18_RecordOther.walk (P : colophonlaw18_RecordOther.Pure) (ep fi : Int) (AB : Option Addr) (nB cB : Nat) (Bs : List (List Int)) (a1 a2 : Int) (w : World) (hT : Tab w) (wep : (Lit.int .i64 ep).wf = true) (wfi : (Lit.int .i64 fi).wf = true) (hBs : Bs.length = nB ∧ nB ≤ cB ∧ Kd.C (Kd.slice 5 (Kd.int .u8)) w AB nB Bs ∧ ∀ b ∈ Bs, ∀ n ∈ b, (Lit.int .u8 n).wf = true) (w1 : (Lit.int .i64 a1).wf = true) (w2 : (Lit.int .i64 a2).wf = true) :
    Calls Tryd.prog 10 #[.agg #[.int .i64 ep, .int .i64 fi, .slice AB nB cB], .int .i64 a1, .int .i64 a2] w fun e w' => e = .returned (.bool true) ∧ Below w.heap.size w w' := by
  obtain ⟨hB1, hB2, hB3, hB4⟩ := hBs
  have hfi : -9223372036854775808 ≤ fi ∧ fi ≤ 9223372036854775807 := wf_i64 wfi
  have HB4 := Aside0.mk (fun b (hb : b ∈ cutBs Bs) => show Bytes b by
    obtain ⟨x, hx, rfl⟩ := List.mem_map.1 hb
    exact (bytes_wf (hB4 x (List.mem_of_mem_take hx))).take 100)
  have HT := Aside0.mk hT
  obtain ⟨o, ho⟩ : ∃ o, o = (Obj.cells #[.int .i64 ep, .int .i64 fi, .slice AB nB cB] 43) := ⟨_, rfl⟩
  have HBX := Aside0.mk (heap_alloc_new w o)
  have HWk := Aside0.mk (colophonlaw18_works.calls true (w.alloc o) (Kd.C_alloc hT o) rfl)
  have HWn := Aside0.mk (fun W (hW : Below w.heap.size w W) => written_no ep fi AB nB cB Bs W (Kd.C_below hT hW) hfi hB1 hB2 (Kd.C_below hB3 hW))
  have HWy := Aside0.mk (fun W (hW : Below w.heap.size w W) => written_yes ep fi AB nB cB Bs W (Kd.C_below hT hW) hfi hB1 hB2 (Kd.C_below hB3 hW))
  have HL := Aside0.mk (cutBs_length Bs)
  have H100 := Aside0.mk (cutBs_100 Bs)
  obtain ⟨bs, hbs⟩ : ∃ bs, bs = cutBs Bs := ⟨_, rfl⟩
  rw [← hbs] at HWn HWy HB4 HL H100
  have HOx := Aside0.mk ho
  clear hT hB1 hB2 hB3 hB4 wfi wep hfi hbs
  rw [ho] at HWk HBX
  by_cases hok : okLog ep fi bs
  rotate_left
  · -- none
    have HNO := Aside0.mk hok
    clear hok
    clear ho HOx
    go_enter Tryd.func10, Tryd.ntmps10
    go_wp2_with (first | (go_at_call 15; refine HWk.out.mono ?_; rintro e W1 ⟨rfl, hb1⟩; refine of_halt ?_))
    unfold G.Halt
    have HB1 := Aside0.mk (below_of_box hb1)
    have hblk : W1.heap[w.heap.size]? = some _ := (hb1.block _ (by rw [World.size_alloc]; omega)).trans HBX.out
    have hx0 : W1.cell? ⟨w.heap.size, 0, none⟩ = some (.int .i64 ep) := (blk_cell hblk 0)
    have hx1 : W1.cell? ⟨w.heap.size, 1, none⟩ = some (.int .i64 fi) := (blk_cell hblk 1)
    have hx2 : W1.cell? ⟨w.heap.size, 2, none⟩ = some (.slice AB nB cB) := (blk_cell hblk 2)
    clear hb1 hblk
    go_wp2_with (first | (go_at_call 21; refine (HWn.out _ HB1.out HNO.out).mono ?_; rintro e W2 ⟨rfl, hb2⟩; refine of_halt ?_))
    unfold G.Halt
    have HB2 := Aside0.mk (below_step HB1.out hb2)
    clear hb2 hx0 hx1 hx2
    go_wp2
    go_ret
    exact ⟨rfl, HB2.out⟩
  clear ho HOx
  have HOK := Aside0.mk hok
  clear hok
  go_enter Tryd.func10, Tryd.ntmps10
  go_wp2_with (first | (go_at_call 15; refine HWk.out.mono ?_; rintro e W1 ⟨rfl, hb1⟩; refine of_halt ?_))
  unfold G.Halt
  have HB1 := Aside0.mk (below_of_box hb1)
  have hblk : W1.heap[w.heap.size]? = some _ := (hb1.block _ (by rw [World.size_alloc]; omega)).trans HBX.out
  have HS1 := Aside0.mk (show w.heap.size < W1.heap.size from lt_of_some hblk)
  have hx0 : W1.cell? ⟨w.heap.size, 0, none⟩ = some (.int .i64 ep) := (blk_cell hblk 0)
  have hx1 : W1.cell? ⟨w.heap.size, 1, none⟩ = some (.int .i64 fi) := (blk_cell hblk 1)
  have hx2 : W1.cell? ⟨w.heap.size, 2, none⟩ = some (.slice AB nB cB) := (blk_cell hblk 2)
  have HX0 := Aside0.mk hx0
  have HX1 := Aside0.mk hx1
  clear hb1 hblk
  go_wp2_with (first | (go_at_call 21; refine (HWy.out _ HB1.out HOK.out).mono ?_; rintro e W2 ⟨v6, v7, v8, hs, rfl, ho6, ho7, ho8, hst, hb2⟩; refine of_halt ?_))
  unfold G.Halt
  have HB2 := Aside0.mk (below_step HB1.out hb2)
  have HB12 := Aside0.mk hb2
  obtain ⟨A6, c6, rfl, hc6, hC6⟩ := Kd.R_reads ho6
  obtain ⟨A7, c7, rfl, hc7, hC7⟩ := Kd.R_reads ho7
  obtain ⟨A8, c8, rfl, hc8, hC8'⟩ := Kd.R_reads ho8
  have hC8 := C_of_stay hC8' hst hb2
  rw [EN_length] at hC7 hc7
  rw [hst.1] at hc8 hC8
  clear hx0 hx1 hx2
  have hx0 : W2.cell? ⟨w.heap.size, 0, none⟩ = some (.int .i64 ep) := by rw [hb2.cell (p := ⟨w.heap.size, 0, none⟩) HS1.out]; exact HX0.out
  have hx1 : W2.cell? ⟨w.heap.size, 1, none⟩ = some (.int .i64 fi) := by rw [hb2.cell (p := ⟨w.heap.size, 1, none⟩) HS1.out]; exact HX1.out
  simp only [EN_length, hst.1]
  have HC6 := Aside0.mk hC6
  have HC7 := Aside0.mk hC7
  have HC8 := Aside0.mk hC8
  have HD := Aside0.mk (And.intro hc6 (And.intro hc7 hc8))
  have HO6 := Aside0.mk ho6
  clear hC6 hC7 hC8 hC8' hc6 hc7 hc8 ho6 ho7 ho8 hst hb2 HX0 HX1
  obtain ⟨out, hout⟩ : ∃ out, out = WR ep fi bs := ⟨_, rfl⟩
  rw [← hout] at HC6 HD HO6 ⊢
  have HOUT := Aside0.mk hout
  have HOL := Aside0.mk (show out.length ≤ 2280 by rw [hout]; have h1 := WR_len ep bs fi H100.out; have h2 := HL.out; omega)
  clear hout
  by_cases hbe : bs = []
  · have f0 : ((bs.length : Int) == 0) = true := by rw [hbe]; rfl
    have f1 : (bs.length = 0) = True := eq_true (by rw [hbe]; rfl)
    have f2 : ((bs.length : Int) = 0) = True := eq_true (by rw [hbe]; rfl)
    have HBE := Aside0.mk hbe
    clear hbe
    go_wp2
    go_ret
    exact ⟨rfl, HB2.out⟩
  have hlen : 0 < bs.length := List.length_pos_iff.2 hbe
  have f0 : ((bs.length : Int) == 0) = false := beq_eq_false_iff_ne.2 (by omega)
  have f1 : (bs.length = 0) = False := eq_false (by omega)
  have f2 : ((bs.length : Int) = 0) = False := eq_false (by omega)
  have HOk := Aside0.mk (Ok.of HOK.out hbe H100.out HB4.out)
  clear hlen hbe
  by_cases hsame : a1 = ep ∧ a2 = fi
  · obtain ⟨rfl, rfl⟩ := hsame
    go_wp2
    all_goals (go_ret; exact ⟨rfl, HB2.out⟩)
  obtain ⟨r, hSC, hr⟩ := HOk.out.other a1 a2 hsame
  rw [← HOUT.out] at hSC
  have HSc := Aside0.mk (Scan_calls A6 c6 out a1 a2 W2 (Kd.C_below HT.out HB2.out) HC6.out HD.out.1 (by rw [HOUT.out]; exact HOk.out.bytes) (by have := HOL.out; omega))
  rw [hSC] at HSc
  have HH := Aside0.mk hsame
  clear hSC
  by_cases he : a1 = ep
  · have g0 : (a1 == ep) = true := by simpa using he
    have g1 : (a2 == fi) = false := by simpa using fun h => hsame ⟨he, h⟩
    clear hsame he
    rcases hr with rfl | rfl
    all_goals
      go_wp2_with (first | (go_at_call 18; refine HSc.out.mono ?_; rintro e W3 ⟨A9, c9, rfl, hc9, hC9, hb9⟩; have HB3 := Aside0.mk (below_step HB2.out hb9); clear hc9 hC9 hb9))
      go_ret
      exact ⟨rfl, HB3.out⟩
  · have g0 : (a1 == ep) = false := by simpa using he
    clear hsame he
    rcases hr with rfl | rfl
    all_goals
      go_wp2_with (first | (go_at_call 18; refine HSc.out.mono ?_; rintro e W3 ⟨A9, c9, rfl, hc9, hC9, hb9⟩; have HB3 := Aside0.mk (below_step HB2.out hb9); clear hc9 hC9 hb9))
      go_ret
      exact ⟨rfl, HB3.out⟩
end Go.Proofs.YtoehjojipmeagaaDoor.X
