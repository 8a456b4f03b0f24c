/- The law RecordTails, walked by hand. -/
import Derived.Test.YtoehjojipmeagaaDoorLogT
import Derived.Test.YtoehjojipmeagaaDoorHScan
import Derived.Test.YtoehjojipmeagaaDoorHSame
import Derived.Test.YtoehjojipmeagaaDoorHWorks
import Derived.Deep.RegionHeld3
namespace Go.Proofs.YtoehjojipmeagaaDoor.X
open Go.RowKit Go.Proofs.YtoehjojipmeagaaDoorW.PrintWords Go.Proofs.YtoehjojipmeagaaDoorW.PrintLast Go.Proofs.YtoehjojipmeagaaDoorW.PrintMore Go.Proofs.YtoehjojipmeagaaDoor.G Go.Proofs.YtoehjojipmeagaaDoor.T Go.Proofs.YtoehjojipmeagaaDoor.Pure Go.Proofs.YtoehjojipmeagaaDoor.E
set_option linter.unusedVariables false
set_option linter.unusedSimpArgs false
def colophonlaw18_RecordTails.Pure : Prop := colophonlaw18_works.f = some true
set_option maxHeartbeats 16000000 in
set_option maxRecDepth 100000 in
theorem colophonlaw18_RecordTails.walk (P : colophonlaw18_RecordTails.Pure) (ep fi : Int) (AB : Option Addr) (nB cB : Nat) (Bs : List (List Int)) (a1 : Option Addr) (len1 cap1 : Nat) (z1 : List Int) (w : World) (hT : Tab w) (wep : (Lit.int .i64 ep).wf = true) (wfi : (Lit.int .i64 fi).wf = true) (hBs : Bs.length = nB ∧ nB ≤ cB ∧ Kd.C (Kd.slice 5 (Kd.int .u8)) w AB nB Bs ∧ ∀ b ∈ Bs, ∀ n ∈ b, (Lit.int .u8 n).wf = true) (w1 : (a1 = none ∧ len1 = 0 ∧ cap1 = 0 ∧ z1 = []) ∨ ∃ x, a1 = some x ∧ len1 ≤ cap1 ∧ cap1 ≤ maxLen ∧ z1.length = cap1 ∧ (∀ i, i < z1.length → w.cell? (x.add i) = some (.int .u8 (z1.getD i 0))) ∧ ∀ n ∈ z1, (Lit.int .u8 n).wf = true) (y1 : len1 * 1 ≤ 140737488351232) :
    Calls Tryd.prog 7 #[.agg #[.int .i64 ep, .int .i64 fi, .slice AB nB cB], .slice a1 len1 cap1] w fun e w' => e = .returned (.bool true) ∧ Below w.heap.size w w' := by
  obtain ⟨hB1, hB2, hB3, hB4⟩ := hBs
  obtain ⟨l1, rfl, hr1, hm1, hw1, hc1⟩ := ReadsInt.ofRowC w1
  have HR1 := Aside0.mk (show Kd.C (Kd.int .u8) w a1 l1.length l1 from Kd.C_of_reads (d := (0 : Int)) (h1 := fun _ => rfl) hr1)
  have HBT := Aside0.mk (bytes_wf hw1)
  clear w1 hr1 hm1 hw1 hc1 y1
  have hfi : -9223372036854775808 ≤ fi ∧ fi ≤ 9223372036854775807 := wf_i64 wfi
  have HB4 := Aside0.mk (fun b (hb : b ∈ cutBs Bs) => show Bytes b by
    obtain ⟨x, hx, rfl⟩ := List.mem_map.1 hb
    exact (bytes_wf (hB4 x (List.mem_of_mem_take hx))).take 100)
  have HT := Aside0.mk hT
  obtain ⟨o, ho⟩ : ∃ o, o = (Obj.cells #[.int .i64 ep, .int .i64 fi, .slice AB nB cB] 43) := ⟨_, rfl⟩
  have HBX := Aside0.mk (heap_alloc_new w o)
  have HWk := Aside0.mk (colophonlaw18_works.calls true (w.alloc o) (Kd.C_alloc hT o) rfl)
  have HWn := Aside0.mk (fun W (hW : Below w.heap.size w W) => written_no ep fi AB nB cB Bs W (Kd.C_below hT hW) hfi hB1 hB2 (Kd.C_below hB3 hW))
  have HWy := Aside0.mk (fun W (hW : Below w.heap.size w W) => written_yes ep fi AB nB cB Bs W (Kd.C_below hT hW) hfi hB1 hB2 (Kd.C_below hB3 hW))
  have HL := Aside0.mk (cutBs_length Bs)
  have H100 := Aside0.mk (cutBs_100 Bs)
  obtain ⟨bs, hbs⟩ : ∃ bs, bs = cutBs Bs := ⟨_, rfl⟩
  rw [← hbs] at HWn HWy HB4 HL H100
  have HOx := Aside0.mk ho
  clear hT hB1 hB2 hB3 hB4 wfi wep hfi hbs
  rw [ho] at HWk HBX
  by_cases hok : okLog ep fi bs
  rotate_left
  · -- none
    have HNO := Aside0.mk hok
    clear hok
    clear ho HOx
    go_enter Tryd.func7, Tryd.ntmps7
    go_wp2_with (first | (go_at_call 15; refine HWk.out.mono ?_; rintro e W1 ⟨rfl, hb1⟩; refine of_halt ?_))
    unfold G.Halt
    have HB1 := Aside0.mk (below_of_box hb1)
    have hblk : W1.heap[w.heap.size]? = some _ := (hb1.block _ (by rw [World.size_alloc]; omega)).trans HBX.out
    have hx0 : W1.cell? ⟨w.heap.size, 0, none⟩ = some (.int .i64 ep) := (blk_cell hblk 0)
    have hx1 : W1.cell? ⟨w.heap.size, 1, none⟩ = some (.int .i64 fi) := (blk_cell hblk 1)
    have hx2 : W1.cell? ⟨w.heap.size, 2, none⟩ = some (.slice AB nB cB) := (blk_cell hblk 2)
    clear hb1 hblk
    go_wp2_with (first | (go_at_call 21; refine (HWn.out _ HB1.out HNO.out).mono ?_; rintro e W2 ⟨rfl, hb2⟩; refine of_halt ?_))
    unfold G.Halt
    have HB2 := Aside0.mk (below_step HB1.out hb2)
    clear hb2 hx0 hx1 hx2
    go_wp2
    go_ret
    exact ⟨rfl, HB2.out⟩
  clear ho HOx
  have HOK := Aside0.mk hok
  clear hok
  go_enter Tryd.func7, Tryd.ntmps7
  go_wp2_with (first | (go_at_call 15; refine HWk.out.mono ?_; rintro e W1 ⟨rfl, hb1⟩; refine of_halt ?_))
  unfold G.Halt
  have HB1 := Aside0.mk (below_of_box hb1)
  have hblk : W1.heap[w.heap.size]? = some _ := (hb1.block _ (by rw [World.size_alloc]; omega)).trans HBX.out
  have HS1 := Aside0.mk (show w.heap.size < W1.heap.size from lt_of_some hblk)
  have hx0 : W1.cell? ⟨w.heap.size, 0, none⟩ = some (.int .i64 ep) := (blk_cell hblk 0)
  have hx1 : W1.cell? ⟨w.heap.size, 1, none⟩ = some (.int .i64 fi) := (blk_cell hblk 1)
  have hx2 : W1.cell? ⟨w.heap.size, 2, none⟩ = some (.slice AB nB cB) := (blk_cell hblk 2)
  have HX0 := Aside0.mk hx0
  have HX1 := Aside0.mk hx1
  clear hb1 hblk
  go_wp2_with (first | (go_at_call 21; refine (HWy.out _ HB1.out HOK.out).mono ?_; rintro e W2 ⟨v6, v7, v8, hs, rfl, ho6, ho7, ho8, hst, hb2⟩; refine of_halt ?_))
  unfold G.Halt
  have HB2 := Aside0.mk (below_step HB1.out hb2)
  have HB12 := Aside0.mk hb2
  obtain ⟨A6, c6, rfl, hc6, hC6⟩ := Kd.R_reads ho6
  obtain ⟨A7, c7, rfl, hc7, hC7⟩ := Kd.R_reads ho7
  obtain ⟨A8, c8, rfl, hc8, hC8'⟩ := Kd.R_reads ho8
  have hC8 := C_of_stay hC8' hst hb2
  rw [EN_length] at hC7 hc7
  rw [hst.1] at hc8 hC8
  clear hx0 hx1 hx2
  have hx0 : W2.cell? ⟨w.heap.size, 0, none⟩ = some (.int .i64 ep) := by rw [hb2.cell (p := ⟨w.heap.size, 0, none⟩) HS1.out]; exact HX0.out
  have hx1 : W2.cell? ⟨w.heap.size, 1, none⟩ = some (.int .i64 fi) := by rw [hb2.cell (p := ⟨w.heap.size, 1, none⟩) HS1.out]; exact HX1.out
  simp only [EN_length, hst.1]
  have HC6 := Aside0.mk hC6
  have HC7 := Aside0.mk hC7
  have HC8 := Aside0.mk hC8
  have HD := Aside0.mk (And.intro hc6 (And.intro hc7 hc8))
  have HO6 := Aside0.mk ho6
  have HO8 := Aside0.mk ho8
  have HST := Aside0.mk hst
  clear hC6 hC7 hC8 hC8' hc6 hc7 hc8 ho6 ho7 ho8 hst hb2 HX0 HX1
  obtain ⟨out, hout⟩ : ∃ out, out = WR ep fi bs := ⟨_, rfl⟩
  rw [← hout] at HC6 HD HO6 ⊢
  have HOUT := Aside0.mk hout
  have HOL := Aside0.mk (show out.length ≤ 2280 by rw [hout]; have h1 := WR_len ep bs fi H100.out; have h2 := HL.out; omega)
  clear hout
  by_cases hbe : bs = []
  · have f0 : ((bs.length : Int) == 0) = true := by rw [hbe]; rfl
    have f1 : (bs.length = 0) = True := eq_true (by rw [hbe]; rfl)
    have f2 : ((bs.length : Int) = 0) = True := eq_true (by rw [hbe]; rfl)
    have HBE := Aside0.mk hbe
    clear hbe
    go_wp2
    go_ret
    exact ⟨rfl, HB2.out⟩
  have hlen : 0 < bs.length := List.length_pos_iff.2 hbe
  have f0 : ((bs.length : Int) == 0) = false := beq_eq_false_iff_ne.2 (by omega)
  have f1 : (bs.length = 0) = False := eq_false (by omega)
  have f2 : ((bs.length : Int) = 0) = False := eq_false (by omega)
  have HOk := Aside0.mk (Ok.of HOK.out hbe H100.out HB4.out)
  clear hlen hbe
  by_cases hbig : 10000 < l1.length
  · have b1 : decide (10000 < (l1.length : Int)) = true := decide_eq_true (by omega)
    have b2 : decide (10000 < l1.length) = true := decide_eq_true hbig
    clear hbig
    go_wp2
    go_ret
    exact ⟨rfl, HB2.out⟩
  have b1 : decide (10000 < (l1.length : Int)) = false := decide_eq_false (by omega)
  have b2 : decide (10000 < l1.length) = false := decide_eq_false hbig
  have HTL := Aside0.mk (show l1.length ≤ 10000 by omega)
  obtain ⟨X, n, hsc, hxl⟩ := HOk.out.tail l1 HBT.out
  rw [← HOUT.out] at hsc
  obtain ⟨Y, hY⟩ : ∃ Y, Y = bs ++ X := ⟨_, rfl⟩
  rw [← hY] at hsc
  have HYT := Aside0.mk (show Y.take bs.length = bs by rw [hY]; exact List.take_left' rfl)
  have HYL := Aside0.mk (show bs.length ≤ Y.length by rw [hY, List.length_append]; omega)
  have HL20 := Aside0.mk (show bs.length ≤ 20 by rw [HL.out]; omega)
  obtain ⟨L5, hL5⟩ : ∃ L5, L5 = out ++ l1 := ⟨_, rfl⟩
  have HBO := Aside0.mk (show Bytes out by rw [HOUT.out]; exact HOk.out.bytes)
  have HSc := Aside0.mk (fun W A c hT hC hc => Scan_calls A c L5 ep fi W hT hC hc (by rw [hL5]; exact HBO.out.append HBT.out) (by rw [hL5, List.length_append]; have := HOL.out; have := HTL.out; omega))
  rw [hL5, hsc, ← hL5] at HSc
  have HL5 := Aside0.mk hL5
  obtain ⟨ks, hks⟩ := Ev.rounds (same_f bs (by have := HL20.out; omega))
  have HSame := Aside0.mk (fun W A c A' c' hC hc hC' hc' => colophonref18_Same.calls ks A c bs A' c' bs true W hC hc hC' hc' hks)
  have info5 : (Tryd.prog.info? 5).map (fun i => (i.zero, i.size, i.bytes)) = some (some (.int .u8 0), 1, 1) := by kernel_rfl
  have HX0 := Aside0.mk hx0
  have HX1 := Aside0.mk hx1
  clear hsc hxl hY hL5 hks hbig
  go_upto_region 6 with (fail)
  refine start_ (n := 17) (S := fun w' => w'.cell? ⟨w.heap.size, 0, none⟩ = some (.int .i64 ep) ∧ w'.cell? ⟨w.heap.size, 1, none⟩ = some (.int .i64 fi)) (ds := []) #[false, false, false, false, false, false, false, false, false, false, false, false, false, false, false, false, false] (by kernel_rfl) rfl rfl ⟨(by exact HX0.out), (by exact HX1.out)⟩ (fun hHeld => ?_)
  refine pure_ (i := 1) (N := some 35) (v := ?_) (a' := ?_) #[false, true, false, false, false, false, false, false, false, false, false, false, false, false, false, false, false] rfl rfl (by kernel_rfl) (fun _ _ _ h => h) (Or.inl ⟨by rfl, ?_⟩) ?_ ?_
  rotate_left
  · intro w'
    go_simp
    with_reducible rfl
  rotate_left
  · simp only [Act.put, List.setIfInBounds_toArray, List.set_cons_zero, List.set_cons_succ, i64_w, i32_w]
    rfl
  refine pure_ (i := 3) (N := some 37) (v := ?_) (a' := ?_) #[false, true, false, true, false, false, false, false, false, false, false, false, false, false, false, false, false] rfl rfl (by kernel_rfl) (fun _ _ _ h => h) (Or.inl ⟨by rfl, ?_⟩) ?_ ?_
  rotate_left
  · intro w'
    go_simp
    with_reducible rfl
  rotate_left
  · simp only [Act.put, List.setIfInBounds_toArray, List.set_cons_zero, List.set_cons_succ, i64_w, i32_w]
    rfl
  refine pure_ (i := 5) (N := some 39) (v := ?_) (a' := ?_) #[false, true, false, true, false, true, false, false, false, false, false, false, false, false, false, false, false] rfl rfl (by kernel_rfl) (fun _ _ _ h => h) (Or.inl ⟨by rfl, ?_⟩) ?_ ?_
  rotate_left
  · intro w'
    go_simp
    with_reducible rfl
  rotate_left
  · simp only [Act.put, List.setIfInBounds_toArray, List.set_cons_zero, List.set_cons_succ, i64_w, i32_w]
    rfl
  refine pure_ (i := 7) (N := some 41) (v := ?_) (a' := ?_) #[false, true, false, true, false, true, false, true, false, false, false, false, false, false, false, false, false] rfl rfl (by kernel_rfl) (fun _ _ _ h => h) (Or.inl ⟨by rfl, ?_⟩) ?_ ?_
  rotate_left
  · intro w'
    go_simp
    with_reducible rfl
  rotate_left
  · simp only [Act.put, List.setIfInBounds_toArray, List.set_cons_zero, List.set_cons_succ, i64_w, i32_w]
    rfl
  refine take_ (i := 6) (N := some 40) (v := ?_) (a' := ?_) #[false, true, false, true, false, true, true, true, false, false, false, false, false, false, false, false, false] rfl rfl (by kernel_rfl) (fun _ _ _ h => h) (Or.inl ⟨by rfl, ?_⟩) hHeld ?_ ?_
  rotate_left
  · rintro w' ⟨s0, s1⟩
    go_simp
    with_reducible rfl
  rotate_left
  · simp only [Act.put, List.setIfInBounds_toArray, List.set_cons_zero, List.set_cons_succ, i64_w, i32_w]
    rfl
  refine take_ (i := 8) (N := some 42) (v := ?_) (a' := ?_) #[false, true, false, true, false, true, true, true, true, false, false, false, false, false, false, false, false] rfl rfl (by kernel_rfl) (fun _ _ _ h => h) (Or.inl ⟨by rfl, ?_⟩) hHeld ?_ ?_
  rotate_left
  · rintro w' ⟨s0, s1⟩
    go_simp
    with_reducible rfl
  rotate_left
  · simp only [Act.put, List.setIfInBounds_toArray, List.set_cons_zero, List.set_cons_succ, i64_w, i32_w]
    rfl
  refine one_ (i := 0) (N := some 34) #[true, true, false, true, false, true, true, true, true, false, false, false, false, false, false, false, false] rfl rfl (by kernel_rfl) (by decide) (fun K hK => ?_)
  refine value_ (w1 := ?_) (v := ?_) (by rfl) rfl ?_ ?_
  rotate_left 2
  · go_simp
    constructor
    · rfl
    · rfl
  have HBa := Aside0.mk (below_drew (below_alloc (Below.refl W2.heap.size W2) (Obj.cells #[] 5)))
  have HOa := Aside0.mk (show Kd.R (Kd.int .u8) 5 (W2.alloc (Obj.cells #[] 5)).drew W2.heap.size (fun _ => True) (.slice (some ⟨W2.heap.size, 0, none⟩) 0 0) [] from Kd.R_drew ⟨fun _ _ => trivial, OwnRow.lit W2 W2.heap.size (ps := []) (inner := []) (Reps.none _ _) (Nat.le_refl _) (by simp)⟩)
  refine hK.out _ _ ⟨(by rw [HBa.out.cell (p := ⟨w.heap.size, 0, none⟩) (block_lt HX0.out)]; exact HX0.out), (by rw [HBa.out.cell (p := ⟨w.heap.size, 1, none⟩) (block_lt HX1.out)]; exact HX1.out)⟩ (fun hHeld => ?_)
  clear hK K
  refine norm_ (a' := ?_) ?_ ?_
  rotate_left
  · show Act.put _ (some 34) _ = _
    simp only [Act.put, List.setIfInBounds_toArray, List.set_cons_zero, List.set_cons_succ, i64_w, i32_w]
    rfl
  refine one_ (i := 2) (N := some 36) #[true, true, true, true, false, true, true, true, true, false, false, false, false, false, false, false, false] rfl rfl (by kernel_rfl) (by decide) (fun K hK => ?_)
  refine step_append_row .u8 (w0 := W2) W2.heap.size (by rfl) (.tmp 34) (.tmp 35) 22 5 1 rfl Tryd.underlying22 info5 (by omega) (.slice (some ⟨W2.heap.size, 0, none⟩) 0 0) [] out A6 out.length c6 (fun _ => True) rfl rfl (fun _ _ => trivial) HOa.out (Kd.C_below HC6.out HBa.out) HBa.out HBa.out.size (by have := HOL.out; simp; omega) ?_
  intro v4 w4 ho4 hb4 hg4 hat4
  have HO4 := Aside0.mk ho4
  have HB4w := Aside0.mk hb4
  clear ho4 hb4 hg4 hat4
  refine hK.out _ _ ⟨(by rw [HB4w.out.cell (p := ⟨w.heap.size, 0, none⟩) (block_lt HX0.out)]; exact HX0.out), (by rw [HB4w.out.cell (p := ⟨w.heap.size, 1, none⟩) (block_lt HX1.out)]; exact HX1.out)⟩ (fun hHeld => ?_)
  clear hK K
  refine norm_ (a' := ?_) ?_ ?_
  rotate_left
  · show Act.put _ (some 36) _ = _
    simp only [Act.put, List.setIfInBounds_toArray, List.set_cons_zero, List.set_cons_succ, i64_w, i32_w]
    rfl
  refine one_ (i := 4) (N := some 38) #[true, true, true, true, true, true, true, true, true, false, false, false, false, false, false, false, false] rfl rfl (by kernel_rfl) (by decide) (fun K hK => ?_)
  refine step_append_row .u8 (w0 := W2) W2.heap.size (by rfl) (.tmp 36) (.tmp 37) 22 5 1 rfl Tryd.underlying22 info5 (by omega) v4 ([] ++ out) l1 a1 l1.length cap1 (fun _ => True) rfl rfl (fun _ _ => trivial) HO4.out (Kd.C_below HR1.out (below_step HB2.out HB4w.out)) HB4w.out HB4w.out.size (by have := HOL.out; have := HTL.out; simp; omega) ?_
  intro v5 w5 ho5 hb5 hg5 hat5
  rw [List.nil_append, ← HL5.out] at ho5
  obtain ⟨A5, c5, rfl, hc5, hC5⟩ := Kd.R_reads ho5
  have HC5 := Aside0.mk hC5
  have HD5 := Aside0.mk hc5
  have HB5 := Aside0.mk hb5
  clear ho5 hb5 hg5 hat5 hC5 hc5
  refine hK.out _ _ ⟨(by rw [HB5.out.cell (p := ⟨w.heap.size, 0, none⟩) (block_lt HX0.out)]; exact HX0.out), (by rw [HB5.out.cell (p := ⟨w.heap.size, 1, none⟩) (block_lt HX1.out)]; exact HX1.out)⟩ (fun hHeld => ?_)
  clear hK K
  refine norm_ (a' := ?_) ?_ ?_
  rotate_left
  · show Act.put _ (some 38) _ = _
    simp only [Act.put, List.setIfInBounds_toArray, List.set_cons_zero, List.set_cons_succ, i64_w, i32_w]
    rfl
  refine one_ (i := 9) (N := some 43) #[true, true, true, true, true, true, true, true, true, true, false, false, false, false, false, false, false] rfl rfl (by kernel_rfl) (by decide) (fun K hK => ?_)
  refine goes_ Tryd.func18 (by kernel_rfl) rfl #[.slice A5 L5.length c5, .int .i64 ep, .int .i64 fi] (by rfl) rfl rfl (by simp only [List.map_toArray, List.map_cons, List.map_nil]; rfl) ?_
  with_reducible refine (HSc.out _ _ _ (Kd.C_below HT.out (below_step HB2.out HB5.out)) HC5.out HD5.out).mono ?_
  rintro e W9 ⟨A9, c9, rfl, hc9, hC9, hb9⟩
  refine ⟨_, rfl, ?_⟩
  have HB9 := Aside0.mk (below_step HB5.out hb9)
  have HC9 := Aside0.mk (show Kd.C (Kd.slice 5 (Kd.int .u8)) W9 A9 Y.length Y from hC9)
  have HD9 := Aside0.mk (show Y.length ≤ c9 from hc9)
  clear hb9 hC9 hc9
  refine hK.out _ _ ⟨(by rw [HB9.out.cell (p := ⟨w.heap.size, 0, none⟩) (block_lt HX0.out)]; exact HX0.out), (by rw [HB9.out.cell (p := ⟨w.heap.size, 1, none⟩) (block_lt HX1.out)]; exact HX1.out)⟩ (fun hHeld => ?_)
  clear hK K
  refine norm_ (a' := ?_) ?_ ?_
  rotate_left
  · show Act.put _ (some 43) _ = _
    simp only [Act.put, List.setIfInBounds_toArray, List.set_cons_zero, List.set_cons_succ, i64_w, i32_w]
    rfl
  refine pure_ (i := 10) (N := some 33) (v := ?_) (a' := ?_) #[true, true, true, true, true, true, true, true, true, true, true, false, false, false, false, false, false] rfl rfl (by kernel_rfl) (fun _ _ _ h => h) (Or.inl ⟨by rfl, ?_⟩) ?_ ?_
  rotate_left
  · intro w'
    go_simp
    with_reducible rfl
  rotate_left
  · simp only [Act.put, List.setIfInBounds_toArray, List.set_cons_zero, List.set_cons_succ, i64_w, i32_w]
    rfl
  refine pure_ (i := 11) (N := some 44) (v := ?_) (a' := ?_) #[true, true, true, true, true, true, true, true, true, true, true, true, false, false, false, false, false] rfl rfl (by kernel_rfl) (fun _ _ _ h => h) (Or.inl ⟨by rfl, ?_⟩) ?_ ?_
  rotate_left
  · intro w'
    go_simp
    with_reducible rfl
  rotate_left
  · simp only [Act.put, List.setIfInBounds_toArray, List.set_cons_zero, List.set_cons_succ, i64_w, i32_w]
    rfl
  refine pure_ (i := 12) (N := some 45) (v := ?_) (a' := ?_) #[true, true, true, true, true, true, true, true, true, true, true, true, true, false, false, false, false] rfl rfl (by kernel_rfl) (fun _ _ _ h => h) (Or.inl ⟨by rfl, ?_⟩) ?_ ?_
  rotate_left
  · intro w'
    go_simp
    with_reducible rfl
  rotate_left
  · simp only [Act.put, List.setIfInBounds_toArray, List.set_cons_zero, List.set_cons_succ, i64_w, i32_w]
    rfl
  refine pure_ (i := 13) (N := some 46) (v := ?_) (a' := ?_) #[true, true, true, true, true, true, true, true, true, true, true, true, true, true, false, false, false] rfl rfl (by kernel_rfl) (fun _ _ _ h => h) (Or.inl ⟨by rfl, ?_⟩) ?_ ?_
  rotate_left
  · intro w'
    go_simp
    with_reducible rfl
  rotate_left
  · simp only [Act.put, List.setIfInBounds_toArray, List.set_cons_zero, List.set_cons_succ, i64_w, i32_w]
    rfl
  refine pure_ (i := 14) (N := some 9) (v := ?_) (a' := ?_) #[true, true, true, true, true, true, true, true, true, true, true, true, true, true, true, false, false] rfl rfl (by kernel_rfl) (fun _ _ _ h => h) (Or.inl ⟨by rfl, ?_⟩) ?_ ?_
  rotate_left
  · intro w'
    go_simp
    with_reducible rfl
  rotate_left
  · simp only [Act.put, List.setIfInBounds_toArray, List.set_cons_zero, List.set_cons_succ, i64_w, i32_w]
    rfl
  refine pure_ (i := 15) (N := some 10) (v := ?_) (a' := ?_) #[true, true, true, true, true, true, true, true, true, true, true, true, true, true, true, true, false] rfl rfl (by kernel_rfl) (fun _ _ _ h => h) (Or.inl ⟨by rfl, ?_⟩) ?_ ?_
  rotate_left
  · intro w'
    go_simp
    with_reducible rfl
  rotate_left
  · simp only [Act.put, List.setIfInBounds_toArray, List.set_cons_zero, List.set_cons_succ, i64_w, i32_w]
    rfl
  refine pure_ (i := 16) (N := some 11) (v := ?_) (a' := ?_) #[true, true, true, true, true, true, true, true, true, true, true, true, true, true, true, true, true] rfl rfl (by kernel_rfl) (fun _ _ _ h => h) (Or.inl ⟨by rfl, ?_⟩) ?_ ?_
  rotate_left
  · intro w'
    go_simp
    with_reducible rfl
  rotate_left
  · simp only [Act.put, List.setIfInBounds_toArray, List.set_cons_zero, List.set_cons_succ, i64_w, i32_w]
    rfl
  refine done_ (by kernel_rfl) ?_
  have HB3 := Aside0.mk (below_step HB2.out HB9.out)
  have HCx := Aside0.mk (show Kd.C (Kd.slice 5 (Kd.int .u8)) W9 A9 bs.length bs by have := Kd.C_take HC9.out HYL.out; rwa [HYT.out] at this)
  have d1 : decide ((out.length : Int) ≤ (out.length : Int) + (n : Int)) = true := decide_eq_true (by omega)
  have d2 : decide (out.length ≤ out.length + n) = true := decide_eq_true (by omega)
  have d3 : decide ((bs.length : Int) ≤ (Y.length : Int)) = true := decide_eq_true (by have := HYL.out; omega)
  have d4 : decide (bs.length ≤ Y.length) = true := decide_eq_true HYL.out
  have g3 : ((bs.length : Int) ≤ (c9 : Int)) = True := eq_true (by have := HYL.out; have := HD9.out; omega)
  have g4 : (bs.length ≤ c9) = True := eq_true (by have := HYL.out; have := HD9.out; omega)
  clear hx0 hx1
  go_wp2_with (first | (go_at_call 20; refine (HSame.out _ _ _ _ _ HCx.out (by have := HYL.out; have := HD9.out; omega) (Kd.C_below HC8.out HB9.out) HD.out.2.2).mono ?_; rintro e W10 ⟨rfl, ⟨nd, rfl⟩⟩))
  go_ret
  exact ⟨rfl, below_step HB3.out (pw_below_drewN (Below.refl _ _) nd)⟩
end Go.Proofs.YtoehjojipmeagaaDoor.X
