/- The law RecordCuts, walked by hand. -/
import Derived.Test.YtoehjojipmeagaaDoorLogT
import Derived.Test.YtoehjojipmeagaaDoorHScan
import Derived.Test.YtoehjojipmeagaaDoorHSame
import Derived.Test.YtoehjojipmeagaaDoorHWorks
import Derived.Deep.RegionHeld3
namespace Go.Proofs.YtoehjojipmeagaaDoor.X
open Go.RowKit Go.Proofs.YtoehjojipmeagaaDoorW.PrintWords Go.Proofs.YtoehjojipmeagaaDoorW.PrintLast Go.Proofs.YtoehjojipmeagaaDoorW.PrintMore Go.Proofs.YtoehjojipmeagaaDoor.G Go.Proofs.YtoehjojipmeagaaDoor.T Go.Proofs.YtoehjojipmeagaaDoor.Pure Go.Proofs.YtoehjojipmeagaaDoor.E
set_option linter.unusedVariables false
set_option linter.unusedSimpArgs false
def colophonlaw18_RecordCuts.Pure : Prop := colophonlaw18_works.f = some true
set_option maxHeartbeats 16000000 in
set_option maxRecDepth 100000 in
theorem colophonlaw18_RecordCuts.walk (P : colophonlaw18_RecordCuts.Pure) (ep fi : Int) (AB : Option Addr) (nB cB : Nat) (Bs : List (List Int)) (a1 : Int) (w : World) (hT : Tab w) (wep : (Lit.int .i64 ep).wf = true) (wfi : (Lit.int .i64 fi).wf = true) (hBs : Bs.length = nB ∧ nB ≤ cB ∧ Kd.C (Kd.slice 5 (Kd.int .u8)) w AB nB Bs ∧ ∀ b ∈ Bs, ∀ n ∈ b, (Lit.int .u8 n).wf = true) (w1 : (Lit.int .i64 a1).wf = true) :
    Calls Tryd.prog 8 #[.agg #[.int .i64 ep, .int .i64 fi, .slice AB nB cB], .int .i64 a1] w fun e w' => e = .returned (.bool true) ∧ Below w.heap.size w w' := by
  obtain ⟨hB1, hB2, hB3, hB4⟩ := hBs
  have hfi : -9223372036854775808 ≤ fi ∧ fi ≤ 9223372036854775807 := wf_i64 wfi
  have HB4 := Aside0.mk (fun b (hb : b ∈ cutBs Bs) => show Bytes b by
    obtain ⟨x, hx, rfl⟩ := List.mem_map.1 hb
    exact (bytes_wf (hB4 x (List.mem_of_mem_take hx))).take 100)
  have HT := Aside0.mk hT
  obtain ⟨o, ho⟩ : ∃ o, o = (Obj.cells #[.int .i64 ep, .int .i64 fi, .slice AB nB cB] 43) := ⟨_, rfl⟩
  have HBX := Aside0.mk (heap_alloc_new w o)
  have HWk := Aside0.mk (colophonlaw18_works.calls true (w.alloc o) (Kd.C_alloc hT o) rfl)
  have HWn := Aside0.mk (fun W (hW : Below w.heap.size w W) => written_no ep fi AB nB cB Bs W (Kd.C_below hT hW) hfi hB1 hB2 (Kd.C_below hB3 hW))
  have HWy := Aside0.mk (fun W (hW : Below w.heap.size w W) => written_yes ep fi AB nB cB Bs W (Kd.C_below hT hW) hfi hB1 hB2 (Kd.C_below hB3 hW))
  have HL := Aside0.mk (cutBs_length Bs)
  have H100 := Aside0.mk (cutBs_100 Bs)
  obtain ⟨bs, hbs⟩ : ∃ bs, bs = cutBs Bs := ⟨_, rfl⟩
  rw [← hbs] at HWn HWy HB4 HL H100
  have HOx := Aside0.mk ho
  clear hT hB1 hB2 hB3 hB4 wfi wep hfi hbs
  rw [ho] at HWk HBX
  by_cases hok : okLog ep fi bs
  rotate_left
  · -- none
    have HNO := Aside0.mk hok
    clear hok
    clear ho HOx
    go_enter Tryd.func8, Tryd.ntmps8
    go_wp2_with (first | (go_at_call 15; refine HWk.out.mono ?_; rintro e W1 ⟨rfl, hb1⟩; refine of_halt ?_))
    unfold G.Halt
    have HB1 := Aside0.mk (below_of_box hb1)
    have hblk : W1.heap[w.heap.size]? = some _ := (hb1.block _ (by rw [World.size_alloc]; omega)).trans HBX.out
    have hx0 : W1.cell? ⟨w.heap.size, 0, none⟩ = some (.int .i64 ep) := (blk_cell hblk 0)
    have hx1 : W1.cell? ⟨w.heap.size, 1, none⟩ = some (.int .i64 fi) := (blk_cell hblk 1)
    have hx2 : W1.cell? ⟨w.heap.size, 2, none⟩ = some (.slice AB nB cB) := (blk_cell hblk 2)
    clear hb1 hblk
    go_wp2_with (first | (go_at_call 21; refine (HWn.out _ HB1.out HNO.out).mono ?_; rintro e W2 ⟨rfl, hb2⟩; refine of_halt ?_))
    unfold G.Halt
    have HB2 := Aside0.mk (below_step HB1.out hb2)
    clear hb2 hx0 hx1 hx2
    go_wp2
    go_ret
    exact ⟨rfl, HB2.out⟩
  clear ho HOx
  have HOK := Aside0.mk hok
  clear hok
  go_enter Tryd.func8, Tryd.ntmps8
  go_wp2_with (first | (go_at_call 15; refine HWk.out.mono ?_; rintro e W1 ⟨rfl, hb1⟩; refine of_halt ?_))
  unfold G.Halt
  have HB1 := Aside0.mk (below_of_box hb1)
  have hblk : W1.heap[w.heap.size]? = some _ := (hb1.block _ (by rw [World.size_alloc]; omega)).trans HBX.out
  have HS1 := Aside0.mk (show w.heap.size < W1.heap.size from lt_of_some hblk)
  have hx0 : W1.cell? ⟨w.heap.size, 0, none⟩ = some (.int .i64 ep) := (blk_cell hblk 0)
  have hx1 : W1.cell? ⟨w.heap.size, 1, none⟩ = some (.int .i64 fi) := (blk_cell hblk 1)
  have hx2 : W1.cell? ⟨w.heap.size, 2, none⟩ = some (.slice AB nB cB) := (blk_cell hblk 2)
  have HX0 := Aside0.mk hx0
  have HX1 := Aside0.mk hx1
  clear hb1 hblk
  go_wp2_with (first | (go_at_call 21; refine (HWy.out _ HB1.out HOK.out).mono ?_; rintro e W2 ⟨v6, v7, v8, hs, rfl, ho6, ho7, ho8, hst, hb2⟩; refine of_halt ?_))
  unfold G.Halt
  have HB2 := Aside0.mk (below_step HB1.out hb2)
  have HB12 := Aside0.mk hb2
  obtain ⟨A6, c6, rfl, hc6, hC6⟩ := Kd.R_reads ho6
  obtain ⟨A7, c7, rfl, hc7, hC7⟩ := Kd.R_reads ho7
  obtain ⟨A8, c8, rfl, hc8, hC8'⟩ := Kd.R_reads ho8
  have hC8 := C_of_stay hC8' hst hb2
  rw [EN_length] at hC7 hc7
  rw [hst.1] at hc8 hC8
  clear hx0 hx1 hx2
  have hx0 : W2.cell? ⟨w.heap.size, 0, none⟩ = some (.int .i64 ep) := by rw [hb2.cell (p := ⟨w.heap.size, 0, none⟩) HS1.out]; exact HX0.out
  have hx1 : W2.cell? ⟨w.heap.size, 1, none⟩ = some (.int .i64 fi) := by rw [hb2.cell (p := ⟨w.heap.size, 1, none⟩) HS1.out]; exact HX1.out
  simp only [EN_length, hst.1]
  have HC6 := Aside0.mk hC6
  have HC7 := Aside0.mk hC7
  have HC8 := Aside0.mk hC8
  have HD := Aside0.mk (And.intro hc6 (And.intro hc7 hc8))
  have HO6 := Aside0.mk ho6
  clear hC6 hC7 hC8 hC8' hc6 hc7 hc8 ho6 ho7 ho8 hst hb2 HX0 HX1
  obtain ⟨out, hout⟩ : ∃ out, out = WR ep fi bs := ⟨_, rfl⟩
  rw [← hout] at HC6 HD HO6 ⊢
  have HOUT := Aside0.mk hout
  have HOL := Aside0.mk (show out.length ≤ 2280 by rw [hout]; have h1 := WR_len ep bs fi H100.out; have h2 := HL.out; omega)
  clear hout
  by_cases hbe : bs = []
  · have f0 : ((bs.length : Int) == 0) = true := by rw [hbe]; rfl
    have f1 : (bs.length = 0) = True := eq_true (by rw [hbe]; rfl)
    have f2 : ((bs.length : Int) = 0) = True := eq_true (by rw [hbe]; rfl)
    have HBE := Aside0.mk hbe
    clear hbe
    go_wp2
    go_ret
    exact ⟨rfl, HB2.out⟩
  have hlen : 0 < bs.length := List.length_pos_iff.2 hbe
  have f0 : ((bs.length : Int) == 0) = false := beq_eq_false_iff_ne.2 (by omega)
  have f1 : (bs.length = 0) = False := eq_false (by omega)
  have f2 : ((bs.length : Int) = 0) = False := eq_false (by omega)
  have HOk := Aside0.mk (Ok.of HOK.out hbe H100.out HB4.out)
  clear hlen hbe
  obtain ⟨ad7, e7, _⟩ := Kd.at_int HC7.out 0 (by omega) (by have := List.length_pos_iff.2 HOk.out.ne; omega)
  subst e7
  obtain ⟨k, hk0, hk⟩ := placeL a1 (out.length + 1) (by omega) (by have := HOL.out; omega)
  have e1 : wrap64 ((out.length : Int) + 1) = ((out.length + 1 : Nat) : Int) := by have := HOL.out; unfold wrap64; omega
  have e2 : IntKind.u64.wrap ((out.length + 1 : Nat) : Int) = ((out.length + 1 : Nat) : Int) := u64nL _ (by have := HOL.out; omega)
  obtain ⟨M, hM⟩ : ∃ M, M = out.length + 1 := ⟨_, rfl⟩
  rw [← hM] at e1 e2 hk hk0
  have f3 : ((M : Int) == 0) = false := beq_eq_false_iff_ne.2 (by omega)
  have f4 : ((M : Int) = 0) = False := eq_false (by omega)
  have f5 : (M = 0) = False := eq_false (by omega)
  have HK0 := Aside0.mk (show k ≤ out.length by omega)
  have HL20 := Aside0.mk (show bs.length ≤ 20 by rw [HL.out]; omega)
  clear hM hk0
  go_upto_block 0 with (fail)
  simp only [hk]
  clear hk e1 e2 f0 f1 f2 f3 f4 f5
  go_wp2
  go_loopg [10] (bs.length + 1) (fun kq v10 w' => ∃ n : Nat, v10 = .int .i64 (n : Int) ∧ n ≤ 20 ∧ Aside0 (n ≤ bs.length) ∧ Aside0 (kq + n = bs.length + 1) ∧ Aside0 ((WR ep fi (bs.take n)).length ≤ k) ∧ Aside0 (w' = W2))
  case atStart => exact ⟨0, rfl, by omega, ⟨by omega⟩, ⟨rfl⟩, ⟨by simp [WR]⟩, ⟨rfl⟩⟩
  case round =>
    obtain ⟨n, rfl, hn20, HN, HKQ, HLE, ⟨rfl⟩⟩ := hrel
    by_cases hn : n < bs.length
    rotate_left
    · have a1 : decide ((n : Int) < (bs.length : Int)) = false := decide_eq_false (by omega)
      have a2 : decide (n < bs.length) = false := decide_eq_false hn
      have HLT := Aside0.mk (show n < bs.length → k < (WR ep fi (bs.take (n + 1))).length from fun h => absurd h hn)
      clear hn
      by_cases hn0 : n = 0
      · skip
        have hsc := HOk.out.cut n k HN.out HLE.out HLT.out (by rw [← HOUT.out]; exact HK0.out)
        rw [← HOUT.out] at hsc
        obtain ⟨Ew, hEw⟩ : ∃ Ew : Nat, Ew = (WR ep fi (bs.take n)).length := ⟨_, rfl⟩
        rw [← hEw] at hsc
        have hE0 : Ew = 0 := by rw [hEw, hn0]; simp [WR]
        have z1 : decide (0 < (n : Int)) = false := decide_eq_false (by omega)
        have z2 : decide (0 < n) = false := decide_eq_false (by omega)
        rw [hE0] at hsc
        clear hE0 hEw hn0
        have HSc := Aside0.mk (fun W hT hC => Scan_calls A6 c6 (out.take k) ep fi W hT hC (by rw [List.length_take]; have := HD.out.1; omega) (by rw [HOUT.out]; exact HOk.out.bytes.take k) (by rw [List.length_take]; have := HOL.out; omega))
        rw [hsc, List.length_take, Nat.min_eq_left HK0.out] at HSc
        have HT6 := Aside0.mk (show Kd.C (Kd.int .u8) _ A6 k (out.take k) by have := Kd.C_take HC6.out HK0.out; rwa [List.length_take, Nat.min_eq_left HK0.out] at this)
        have HTk := Aside0.mk (show (bs.take n).length = n by rw [List.length_take]; have := HN.out; omega)
        have HT8 := Aside0.mk (show Kd.C (Kd.slice 5 (Kd.int .u8)) _ A8 n (bs.take n) by have := Kd.C_take HC8.out HN.out; rwa [List.length_take, Nat.min_eq_left HN.out] at this)
        obtain ⟨ks, hks⟩ := Ev.rounds (same_f (bs.take n) (by rw [HTk.out]; omega))
        have HSame := Aside0.mk (fun W A c c' hC hc hC' hc' => colophonref18_Same.calls ks A c (bs.take n) A8 c' (bs.take n) true W hC hc hC' hc' hks)
        rw [HTk.out] at HSame
        have g1 : ((k : Int) ≤ (c6 : Int)) = True := eq_true (by have := HK0.out; have := HD.out.1; omega)
        have g2 : (k ≤ c6) = True := eq_true (by have := HK0.out; have := HD.out.1; omega)
        have g3 : ((n : Int) ≤ (c8 : Int)) = True := eq_true (by have := HN.out; have := HD.out.2.2; omega)
        have g4 : (n ≤ c8) = True := eq_true (by have := HN.out; have := HD.out.2.2; omega)
        have g5 : (0 ≤ (k : Int)) = True := eq_true (by omega)
        have g6 : (0 ≤ (n : Int)) = True := eq_true (by omega)
        have HX0 := Aside0.mk hx0
        have HX1 := Aside0.mk hx1
        clear hsc hks
        go_upto_region 13 with (fail)
        refine start_ (n := 15) (S := fun w' => w'.cell? ⟨w.heap.size, 0, none⟩ = some (.int .i64 ep) ∧ w'.cell? ⟨w.heap.size, 1, none⟩ = some (.int .i64 fi)) (ds := []) #[false, false, false, false, false, false, false, false, false, false, false, false, false, false, false] (by kernel_rfl) rfl rfl ⟨(by exact HX0.out), (by exact HX1.out)⟩ (fun hHeld => ?_)
        refine pure_ (i := 0) (N := some 61) (v := ?_) (a' := ?_) #[true, false, false, false, false, false, false, false, false, false, false, false, false, false, false] rfl rfl (by kernel_rfl) (fun _ _ _ h => h) (Or.inl ⟨by rfl, ?_⟩) ?_ ?_
        rotate_left
        · intro w'
          go_simp
          with_reducible rfl
        rotate_left
        · simp only [Act.put, List.setIfInBounds_toArray, List.set_cons_zero, List.set_cons_succ, i64_w, i32_w]
          rfl
        refine pure_ (i := 1) (N := some 62) (v := ?_) (a' := ?_) #[true, true, false, false, false, false, false, false, false, false, false, false, false, false, false] rfl rfl (by kernel_rfl) (fun _ _ _ h => h) (Or.inl ⟨by rfl, ?_⟩) ?_ ?_
        rotate_left
        · intro w'
          go_simp
          with_reducible rfl
        rotate_left
        · simp only [Act.put, List.setIfInBounds_toArray, List.set_cons_zero, List.set_cons_succ, i64_w, i32_w]
          rfl
        refine pure_ (i := 2) (N := some 63) (v := ?_) (a' := ?_) #[true, true, true, false, false, false, false, false, false, false, false, false, false, false, false] rfl rfl (by kernel_rfl) (fun _ _ _ h => h) (Or.inl ⟨by rfl, ?_⟩) ?_ ?_
        rotate_left
        · intro w'
          go_simp
          with_reducible rfl
        rotate_left
        · simp only [Act.put, List.setIfInBounds_toArray, List.set_cons_zero, List.set_cons_succ, i64_w, i32_w]
          rfl
        refine pure_ (i := 3) (N := some 64) (v := ?_) (a' := ?_) #[true, true, true, true, false, false, false, false, false, false, false, false, false, false, false] rfl rfl (by kernel_rfl) (fun _ _ _ h => h) (Or.inl ⟨by rfl, ?_⟩) ?_ ?_
        rotate_left
        · intro w'
          go_simp
          with_reducible rfl
        rotate_left
        · simp only [Act.put, List.setIfInBounds_toArray, List.set_cons_zero, List.set_cons_succ, i64_w, i32_w]
          rfl
        refine pure_ (i := 5) (N := some 66) (v := ?_) (a' := ?_) #[true, true, true, true, false, true, false, false, false, false, false, false, false, false, false] rfl rfl (by kernel_rfl) (fun _ _ _ h => h) (Or.inl ⟨by rfl, ?_⟩) ?_ ?_
        rotate_left
        · intro w'
          go_simp
          with_reducible rfl
        rotate_left
        · simp only [Act.put, List.setIfInBounds_toArray, List.set_cons_zero, List.set_cons_succ, i64_w, i32_w]
          rfl
        refine take_ (i := 4) (N := some 65) (v := ?_) (a' := ?_) #[true, true, true, true, true, true, false, false, false, false, false, false, false, false, false] rfl rfl (by kernel_rfl) (fun _ _ _ h => h) (Or.inl ⟨by rfl, ?_⟩) hHeld ?_ ?_
        rotate_left
        · rintro w' ⟨s0, s1⟩
          go_simp
          with_reducible rfl
        rotate_left
        · simp only [Act.put, List.setIfInBounds_toArray, List.set_cons_zero, List.set_cons_succ, i64_w, i32_w]
          rfl
        refine take_ (i := 6) (N := some 67) (v := ?_) (a' := ?_) #[true, true, true, true, true, true, true, false, false, false, false, false, false, false, false] rfl rfl (by kernel_rfl) (fun _ _ _ h => h) (Or.inl ⟨by rfl, ?_⟩) hHeld ?_ ?_
        rotate_left
        · rintro w' ⟨s0, s1⟩
          go_simp
          with_reducible rfl
        rotate_left
        · simp only [Act.put, List.setIfInBounds_toArray, List.set_cons_zero, List.set_cons_succ, i64_w, i32_w]
          rfl
        refine one_ (i := 7) (N := some 68) #[true, true, true, true, true, true, true, true, false, false, false, false, false, false, false] rfl rfl (by kernel_rfl) (by decide) (fun K hK => ?_)
        refine goes_ Tryd.func18 (by kernel_rfl) rfl #[.slice A6 k c6, .int .i64 ep, .int .i64 fi] (by rfl) rfl rfl (by simp only [List.map_toArray, List.map_cons, List.map_nil]; rfl) ?_
        with_reducible refine (HSc.out _ (Kd.C_drew (Kd.C_below HT.out HB2.out)) (Kd.C_drew HT6.out)).mono ?_
        rintro e W3 ⟨A9, c9, rfl, hc9, hC9, hb9⟩
        refine ⟨_, rfl, ?_⟩
        have HB9 := Aside0.mk (below_step (below_drew (Below.refl _ _)) hb9)
        have HC9 := Aside0.mk hC9
        have HD9 := Aside0.mk hc9
        clear hb9 hC9 hc9
        rw [HTk.out] at HC9 HD9 ⊢
        refine hK.out _ _ ⟨(by rw [HB9.out.cell (p := ⟨w.heap.size, 0, none⟩) (block_lt HX0.out)]; exact HX0.out), (by rw [HB9.out.cell (p := ⟨w.heap.size, 1, none⟩) (block_lt HX1.out)]; exact HX1.out)⟩ (fun hHeld => ?_)
        clear hK K
        refine norm_ (a' := ?_) ?_ ?_
        rotate_left
        · show Act.put _ (some 68) _ = _
          simp only [Act.put, List.setIfInBounds_toArray, List.set_cons_zero, List.set_cons_succ, i64_w, i32_w]
          rfl
        refine pure_ (i := 8) (N := some 60) (v := ?_) (a' := ?_) #[true, true, true, true, true, true, true, true, true, false, false, false, false, false, false] rfl rfl (by kernel_rfl) (fun _ _ _ h => h) (Or.inl ⟨by rfl, ?_⟩) ?_ ?_
        rotate_left
        · intro w'
          go_simp
          with_reducible rfl
        rotate_left
        · simp only [Act.put, List.setIfInBounds_toArray, List.set_cons_zero, List.set_cons_succ, i64_w, i32_w]
          rfl
        refine pure_ (i := 9) (N := some 69) (v := ?_) (a' := ?_) #[true, true, true, true, true, true, true, true, true, true, false, false, false, false, false] rfl rfl (by kernel_rfl) (fun _ _ _ h => h) (Or.inl ⟨by rfl, ?_⟩) ?_ ?_
        rotate_left
        · intro w'
          go_simp
          with_reducible rfl
        rotate_left
        · simp only [Act.put, List.setIfInBounds_toArray, List.set_cons_zero, List.set_cons_succ, i64_w, i32_w]
          rfl
        refine pure_ (i := 10) (N := some 70) (v := ?_) (a' := ?_) #[true, true, true, true, true, true, true, true, true, true, true, false, false, false, false] rfl rfl (by kernel_rfl) (fun _ _ _ h => h) (Or.inl ⟨by rfl, ?_⟩) ?_ ?_
        rotate_left
        · intro w'
          go_simp
          with_reducible rfl
        rotate_left
        · simp only [Act.put, List.setIfInBounds_toArray, List.set_cons_zero, List.set_cons_succ, i64_w, i32_w]
          rfl
        refine pure_ (i := 11) (N := some 71) (v := ?_) (a' := ?_) #[true, true, true, true, true, true, true, true, true, true, true, true, false, false, false] rfl rfl (by kernel_rfl) (fun _ _ _ h => h) (Or.inl ⟨by rfl, ?_⟩) ?_ ?_
        rotate_left
        · intro w'
          go_simp
          with_reducible rfl
        rotate_left
        · simp only [Act.put, List.setIfInBounds_toArray, List.set_cons_zero, List.set_cons_succ, i64_w, i32_w]
          rfl
        refine pure_ (i := 12) (N := some 12) (v := ?_) (a' := ?_) #[true, true, true, true, true, true, true, true, true, true, true, true, true, false, false] rfl rfl (by kernel_rfl) (fun _ _ _ h => h) (Or.inl ⟨by rfl, ?_⟩) ?_ ?_
        rotate_left
        · intro w'
          go_simp
          with_reducible rfl
        rotate_left
        · simp only [Act.put, List.setIfInBounds_toArray, List.set_cons_zero, List.set_cons_succ, i64_w, i32_w]
          rfl
        refine pure_ (i := 13) (N := some 13) (v := ?_) (a' := ?_) #[true, true, true, true, true, true, true, true, true, true, true, true, true, true, false] rfl rfl (by kernel_rfl) (fun _ _ _ h => h) (Or.inl ⟨by rfl, ?_⟩) ?_ ?_
        rotate_left
        · intro w'
          go_simp
          with_reducible rfl
        rotate_left
        · simp only [Act.put, List.setIfInBounds_toArray, List.set_cons_zero, List.set_cons_succ, i64_w, i32_w]
          rfl
        refine pure_ (i := 14) (N := some 14) (v := ?_) (a' := ?_) #[true, true, true, true, true, true, true, true, true, true, true, true, true, true, true] rfl rfl (by kernel_rfl) (fun _ _ _ h => h) (Or.inl ⟨by rfl, ?_⟩) ?_ ?_
        rotate_left
        · intro w'
          go_simp
          with_reducible rfl
        rotate_left
        · simp only [Act.put, List.setIfInBounds_toArray, List.set_cons_zero, List.set_cons_succ, i64_w, i32_w]
          rfl
        refine done_ (by kernel_rfl) ?_
        have HB3 := Aside0.mk (below_step HB2.out HB9.out)
        clear hx0 hx1
        go_wp2_with (first | (go_at_call 20; refine (HSame.out _ _ _ _ HC9.out HD9.out (Kd.C_below HT8.out HB9.out) (by have := HN.out; have := HD.out.2.2; omega)).mono ?_; rintro e W5 ⟨rfl, ⟨nd, rfl⟩⟩))
        go_ret
        exact ⟨rfl, below_step HB3.out (pw_below_drewN (Below.refl _ _) nd)⟩
      · skip
        have hsc := HOk.out.cut n k HN.out HLE.out HLT.out (by rw [← HOUT.out]; exact HK0.out)
        rw [← HOUT.out] at hsc
        obtain ⟨Ew, hEw⟩ : ∃ Ew : Nat, Ew = (WR ep fi (bs.take n)).length := ⟨_, rfl⟩
        rw [← hEw] at hsc
        obtain ⟨m, hm⟩ : ∃ m, n = m + 1 := ⟨n - 1, by omega⟩
        have hxm := EN_cell HC7.out m (by have := HN.out; omega)
        rw [← hm, ← hEw] at hxm
        have e5 : wrap64 ((n : Int) - 1) = (m : Int) := by unfold wrap64; omega
        have e6 : (n : Int) - 1 = (m : Int) := by omega
        have q3 : ((m : Int) < (bs.length : Int)) = True := eq_true (by have := HN.out; omega)
        have q4 : (m < bs.length) = True := eq_true (by have := HN.out; omega)
        have z1 : decide (0 < (n : Int)) = true := decide_eq_true (by omega)
        have z2 : decide (0 < n) = true := decide_eq_true (by omega)
        have HM := Aside0.mk hm
        clear hm hEw hn0
        have HSc := Aside0.mk (fun W hT hC => Scan_calls A6 c6 (out.take k) ep fi W hT hC (by rw [List.length_take]; have := HD.out.1; omega) (by rw [HOUT.out]; exact HOk.out.bytes.take k) (by rw [List.length_take]; have := HOL.out; omega))
        rw [hsc, List.length_take, Nat.min_eq_left HK0.out] at HSc
        have HT6 := Aside0.mk (show Kd.C (Kd.int .u8) _ A6 k (out.take k) by have := Kd.C_take HC6.out HK0.out; rwa [List.length_take, Nat.min_eq_left HK0.out] at this)
        have HTk := Aside0.mk (show (bs.take n).length = n by rw [List.length_take]; have := HN.out; omega)
        have HT8 := Aside0.mk (show Kd.C (Kd.slice 5 (Kd.int .u8)) _ A8 n (bs.take n) by have := Kd.C_take HC8.out HN.out; rwa [List.length_take, Nat.min_eq_left HN.out] at this)
        obtain ⟨ks, hks⟩ := Ev.rounds (same_f (bs.take n) (by rw [HTk.out]; omega))
        have HSame := Aside0.mk (fun W A c c' hC hc hC' hc' => colophonref18_Same.calls ks A c (bs.take n) A8 c' (bs.take n) true W hC hc hC' hc' hks)
        rw [HTk.out] at HSame
        have g1 : ((k : Int) ≤ (c6 : Int)) = True := eq_true (by have := HK0.out; have := HD.out.1; omega)
        have g2 : (k ≤ c6) = True := eq_true (by have := HK0.out; have := HD.out.1; omega)
        have g3 : ((n : Int) ≤ (c8 : Int)) = True := eq_true (by have := HN.out; have := HD.out.2.2; omega)
        have g4 : (n ≤ c8) = True := eq_true (by have := HN.out; have := HD.out.2.2; omega)
        have g5 : (0 ≤ (k : Int)) = True := eq_true (by omega)
        have g6 : (0 ≤ (n : Int)) = True := eq_true (by omega)
        have HX0 := Aside0.mk hx0
        have HX1 := Aside0.mk hx1
        clear hsc hks
        go_upto_region 13 with (fail)
        refine start_ (n := 15) (S := fun w' => w'.cell? ⟨w.heap.size, 0, none⟩ = some (.int .i64 ep) ∧ w'.cell? ⟨w.heap.size, 1, none⟩ = some (.int .i64 fi)) (ds := []) #[false, false, false, false, false, false, false, false, false, false, false, false, false, false, false] (by kernel_rfl) rfl rfl ⟨(by exact HX0.out), (by exact HX1.out)⟩ (fun hHeld => ?_)
        refine pure_ (i := 0) (N := some 61) (v := ?_) (a' := ?_) #[true, false, false, false, false, false, false, false, false, false, false, false, false, false, false] rfl rfl (by kernel_rfl) (fun _ _ _ h => h) (Or.inl ⟨by rfl, ?_⟩) ?_ ?_
        rotate_left
        · intro w'
          go_simp
          with_reducible rfl
        rotate_left
        · simp only [Act.put, List.setIfInBounds_toArray, List.set_cons_zero, List.set_cons_succ, i64_w, i32_w]
          rfl
        refine pure_ (i := 1) (N := some 62) (v := ?_) (a' := ?_) #[true, true, false, false, false, false, false, false, false, false, false, false, false, false, false] rfl rfl (by kernel_rfl) (fun _ _ _ h => h) (Or.inl ⟨by rfl, ?_⟩) ?_ ?_
        rotate_left
        · intro w'
          go_simp
          with_reducible rfl
        rotate_left
        · simp only [Act.put, List.setIfInBounds_toArray, List.set_cons_zero, List.set_cons_succ, i64_w, i32_w]
          rfl
        refine pure_ (i := 2) (N := some 63) (v := ?_) (a' := ?_) #[true, true, true, false, false, false, false, false, false, false, false, false, false, false, false] rfl rfl (by kernel_rfl) (fun _ _ _ h => h) (Or.inl ⟨by rfl, ?_⟩) ?_ ?_
        rotate_left
        · intro w'
          go_simp
          with_reducible rfl
        rotate_left
        · simp only [Act.put, List.setIfInBounds_toArray, List.set_cons_zero, List.set_cons_succ, i64_w, i32_w]
          rfl
        refine pure_ (i := 3) (N := some 64) (v := ?_) (a' := ?_) #[true, true, true, true, false, false, false, false, false, false, false, false, false, false, false] rfl rfl (by kernel_rfl) (fun _ _ _ h => h) (Or.inl ⟨by rfl, ?_⟩) ?_ ?_
        rotate_left
        · intro w'
          go_simp
          with_reducible rfl
        rotate_left
        · simp only [Act.put, List.setIfInBounds_toArray, List.set_cons_zero, List.set_cons_succ, i64_w, i32_w]
          rfl
        refine pure_ (i := 5) (N := some 66) (v := ?_) (a' := ?_) #[true, true, true, true, false, true, false, false, false, false, false, false, false, false, false] rfl rfl (by kernel_rfl) (fun _ _ _ h => h) (Or.inl ⟨by rfl, ?_⟩) ?_ ?_
        rotate_left
        · intro w'
          go_simp
          with_reducible rfl
        rotate_left
        · simp only [Act.put, List.setIfInBounds_toArray, List.set_cons_zero, List.set_cons_succ, i64_w, i32_w]
          rfl
        refine take_ (i := 4) (N := some 65) (v := ?_) (a' := ?_) #[true, true, true, true, true, true, false, false, false, false, false, false, false, false, false] rfl rfl (by kernel_rfl) (fun _ _ _ h => h) (Or.inl ⟨by rfl, ?_⟩) hHeld ?_ ?_
        rotate_left
        · rintro w' ⟨s0, s1⟩
          go_simp
          with_reducible rfl
        rotate_left
        · simp only [Act.put, List.setIfInBounds_toArray, List.set_cons_zero, List.set_cons_succ, i64_w, i32_w]
          rfl
        refine take_ (i := 6) (N := some 67) (v := ?_) (a' := ?_) #[true, true, true, true, true, true, true, false, false, false, false, false, false, false, false] rfl rfl (by kernel_rfl) (fun _ _ _ h => h) (Or.inl ⟨by rfl, ?_⟩) hHeld ?_ ?_
        rotate_left
        · rintro w' ⟨s0, s1⟩
          go_simp
          with_reducible rfl
        rotate_left
        · simp only [Act.put, List.setIfInBounds_toArray, List.set_cons_zero, List.set_cons_succ, i64_w, i32_w]
          rfl
        refine one_ (i := 7) (N := some 68) #[true, true, true, true, true, true, true, true, false, false, false, false, false, false, false] rfl rfl (by kernel_rfl) (by decide) (fun K hK => ?_)
        refine goes_ Tryd.func18 (by kernel_rfl) rfl #[.slice A6 k c6, .int .i64 ep, .int .i64 fi] (by rfl) rfl rfl (by simp only [List.map_toArray, List.map_cons, List.map_nil]; rfl) ?_
        with_reducible refine (HSc.out _ (Kd.C_drew (Kd.C_below HT.out HB2.out)) (Kd.C_drew HT6.out)).mono ?_
        rintro e W3 ⟨A9, c9, rfl, hc9, hC9, hb9⟩
        refine ⟨_, rfl, ?_⟩
        have HB9 := Aside0.mk (below_step (below_drew (Below.refl _ _)) hb9)
        have HC9 := Aside0.mk hC9
        have HD9 := Aside0.mk hc9
        clear hb9 hC9 hc9
        rw [HTk.out] at HC9 HD9 ⊢
        refine hK.out _ _ ⟨(by rw [HB9.out.cell (p := ⟨w.heap.size, 0, none⟩) (block_lt HX0.out)]; exact HX0.out), (by rw [HB9.out.cell (p := ⟨w.heap.size, 1, none⟩) (block_lt HX1.out)]; exact HX1.out)⟩ (fun hHeld => ?_)
        clear hK K
        refine norm_ (a' := ?_) ?_ ?_
        rotate_left
        · show Act.put _ (some 68) _ = _
          simp only [Act.put, List.setIfInBounds_toArray, List.set_cons_zero, List.set_cons_succ, i64_w, i32_w]
          rfl
        refine pure_ (i := 8) (N := some 60) (v := ?_) (a' := ?_) #[true, true, true, true, true, true, true, true, true, false, false, false, false, false, false] rfl rfl (by kernel_rfl) (fun _ _ _ h => h) (Or.inl ⟨by rfl, ?_⟩) ?_ ?_
        rotate_left
        · intro w'
          go_simp
          with_reducible rfl
        rotate_left
        · simp only [Act.put, List.setIfInBounds_toArray, List.set_cons_zero, List.set_cons_succ, i64_w, i32_w]
          rfl
        refine pure_ (i := 9) (N := some 69) (v := ?_) (a' := ?_) #[true, true, true, true, true, true, true, true, true, true, false, false, false, false, false] rfl rfl (by kernel_rfl) (fun _ _ _ h => h) (Or.inl ⟨by rfl, ?_⟩) ?_ ?_
        rotate_left
        · intro w'
          go_simp
          with_reducible rfl
        rotate_left
        · simp only [Act.put, List.setIfInBounds_toArray, List.set_cons_zero, List.set_cons_succ, i64_w, i32_w]
          rfl
        refine pure_ (i := 10) (N := some 70) (v := ?_) (a' := ?_) #[true, true, true, true, true, true, true, true, true, true, true, false, false, false, false] rfl rfl (by kernel_rfl) (fun _ _ _ h => h) (Or.inl ⟨by rfl, ?_⟩) ?_ ?_
        rotate_left
        · intro w'
          go_simp
          with_reducible rfl
        rotate_left
        · simp only [Act.put, List.setIfInBounds_toArray, List.set_cons_zero, List.set_cons_succ, i64_w, i32_w]
          rfl
        refine pure_ (i := 11) (N := some 71) (v := ?_) (a' := ?_) #[true, true, true, true, true, true, true, true, true, true, true, true, false, false, false] rfl rfl (by kernel_rfl) (fun _ _ _ h => h) (Or.inl ⟨by rfl, ?_⟩) ?_ ?_
        rotate_left
        · intro w'
          go_simp
          with_reducible rfl
        rotate_left
        · simp only [Act.put, List.setIfInBounds_toArray, List.set_cons_zero, List.set_cons_succ, i64_w, i32_w]
          rfl
        refine pure_ (i := 12) (N := some 12) (v := ?_) (a' := ?_) #[true, true, true, true, true, true, true, true, true, true, true, true, true, false, false] rfl rfl (by kernel_rfl) (fun _ _ _ h => h) (Or.inl ⟨by rfl, ?_⟩) ?_ ?_
        rotate_left
        · intro w'
          go_simp
          with_reducible rfl
        rotate_left
        · simp only [Act.put, List.setIfInBounds_toArray, List.set_cons_zero, List.set_cons_succ, i64_w, i32_w]
          rfl
        refine pure_ (i := 13) (N := some 13) (v := ?_) (a' := ?_) #[true, true, true, true, true, true, true, true, true, true, true, true, true, true, false] rfl rfl (by kernel_rfl) (fun _ _ _ h => h) (Or.inl ⟨by rfl, ?_⟩) ?_ ?_
        rotate_left
        · intro w'
          go_simp
          with_reducible rfl
        rotate_left
        · simp only [Act.put, List.setIfInBounds_toArray, List.set_cons_zero, List.set_cons_succ, i64_w, i32_w]
          rfl
        refine pure_ (i := 14) (N := some 14) (v := ?_) (a' := ?_) #[true, true, true, true, true, true, true, true, true, true, true, true, true, true, true] rfl rfl (by kernel_rfl) (fun _ _ _ h => h) (Or.inl ⟨by rfl, ?_⟩) ?_ ?_
        rotate_left
        · intro w'
          go_simp
          with_reducible rfl
        rotate_left
        · simp only [Act.put, List.setIfInBounds_toArray, List.set_cons_zero, List.set_cons_succ, i64_w, i32_w]
          rfl
        refine done_ (by kernel_rfl) ?_
        have HB3 := Aside0.mk (below_step HB2.out HB9.out)
        clear hx0 hx1
        go_wp2_with (first | (go_at_call 20; refine (HSame.out _ _ _ _ HC9.out HD9.out (Kd.C_below HT8.out HB9.out) (by have := HN.out; have := HD.out.2.2; omega)).mono ?_; rintro e W5 ⟨rfl, ⟨nd, rfl⟩⟩))
        go_ret
        exact ⟨rfl, below_step HB3.out (pw_below_drewN (Below.refl _ _) nd)⟩
    have a1 : decide ((n : Int) < (bs.length : Int)) = true := decide_eq_true (by omega)
    have a2 : decide (n < bs.length) = true := decide_eq_true hn
    have hxn := EN_cell HC7.out n hn
    have q1 : ((n : Int) < (bs.length : Int)) = True := eq_true (by omega)
    have q2 : (n < bs.length) = True := eq_true hn
    obtain ⟨E1, hE1⟩ : ∃ E1 : Nat, E1 = (WR ep fi (bs.take (n + 1))).length := ⟨_, rfl⟩
    rw [← hE1] at hxn
    by_cases hle : E1 ≤ k
    rotate_left
    · have b1 : decide ((E1 : Int) ≤ (k : Int)) = false := decide_eq_false (by omega)
      have b2 : decide (E1 ≤ k) = false := decide_eq_false hle
      have HLT := Aside0.mk (show n < bs.length → k < (WR ep fi (bs.take (n + 1))).length from fun h => by omega)
      clear hn hle hE1
      by_cases hn0 : n = 0
      · skip
        have hsc := HOk.out.cut n k HN.out HLE.out HLT.out (by rw [← HOUT.out]; exact HK0.out)
        rw [← HOUT.out] at hsc
        obtain ⟨Ew, hEw⟩ : ∃ Ew : Nat, Ew = (WR ep fi (bs.take n)).length := ⟨_, rfl⟩
        rw [← hEw] at hsc
        have hE0 : Ew = 0 := by rw [hEw, hn0]; simp [WR]
        have z1 : decide (0 < (n : Int)) = false := decide_eq_false (by omega)
        have z2 : decide (0 < n) = false := decide_eq_false (by omega)
        rw [hE0] at hsc
        clear hE0 hEw hn0
        have HSc := Aside0.mk (fun W hT hC => Scan_calls A6 c6 (out.take k) ep fi W hT hC (by rw [List.length_take]; have := HD.out.1; omega) (by rw [HOUT.out]; exact HOk.out.bytes.take k) (by rw [List.length_take]; have := HOL.out; omega))
        rw [hsc, List.length_take, Nat.min_eq_left HK0.out] at HSc
        have HT6 := Aside0.mk (show Kd.C (Kd.int .u8) _ A6 k (out.take k) by have := Kd.C_take HC6.out HK0.out; rwa [List.length_take, Nat.min_eq_left HK0.out] at this)
        have HTk := Aside0.mk (show (bs.take n).length = n by rw [List.length_take]; have := HN.out; omega)
        have HT8 := Aside0.mk (show Kd.C (Kd.slice 5 (Kd.int .u8)) _ A8 n (bs.take n) by have := Kd.C_take HC8.out HN.out; rwa [List.length_take, Nat.min_eq_left HN.out] at this)
        obtain ⟨ks, hks⟩ := Ev.rounds (same_f (bs.take n) (by rw [HTk.out]; omega))
        have HSame := Aside0.mk (fun W A c c' hC hc hC' hc' => colophonref18_Same.calls ks A c (bs.take n) A8 c' (bs.take n) true W hC hc hC' hc' hks)
        rw [HTk.out] at HSame
        have g1 : ((k : Int) ≤ (c6 : Int)) = True := eq_true (by have := HK0.out; have := HD.out.1; omega)
        have g2 : (k ≤ c6) = True := eq_true (by have := HK0.out; have := HD.out.1; omega)
        have g3 : ((n : Int) ≤ (c8 : Int)) = True := eq_true (by have := HN.out; have := HD.out.2.2; omega)
        have g4 : (n ≤ c8) = True := eq_true (by have := HN.out; have := HD.out.2.2; omega)
        have g5 : (0 ≤ (k : Int)) = True := eq_true (by omega)
        have g6 : (0 ≤ (n : Int)) = True := eq_true (by omega)
        have HX0 := Aside0.mk hx0
        have HX1 := Aside0.mk hx1
        clear hsc hks
        go_upto_region 13 with (fail)
        refine start_ (n := 15) (S := fun w' => w'.cell? ⟨w.heap.size, 0, none⟩ = some (.int .i64 ep) ∧ w'.cell? ⟨w.heap.size, 1, none⟩ = some (.int .i64 fi)) (ds := []) #[false, false, false, false, false, false, false, false, false, false, false, false, false, false, false] (by kernel_rfl) rfl rfl ⟨(by exact HX0.out), (by exact HX1.out)⟩ (fun hHeld => ?_)
        refine pure_ (i := 0) (N := some 61) (v := ?_) (a' := ?_) #[true, false, false, false, false, false, false, false, false, false, false, false, false, false, false] rfl rfl (by kernel_rfl) (fun _ _ _ h => h) (Or.inl ⟨by rfl, ?_⟩) ?_ ?_
        rotate_left
        · intro w'
          go_simp
          with_reducible rfl
        rotate_left
        · simp only [Act.put, List.setIfInBounds_toArray, List.set_cons_zero, List.set_cons_succ, i64_w, i32_w]
          rfl
        refine pure_ (i := 1) (N := some 62) (v := ?_) (a' := ?_) #[true, true, false, false, false, false, false, false, false, false, false, false, false, false, false] rfl rfl (by kernel_rfl) (fun _ _ _ h => h) (Or.inl ⟨by rfl, ?_⟩) ?_ ?_
        rotate_left
        · intro w'
          go_simp
          with_reducible rfl
        rotate_left
        · simp only [Act.put, List.setIfInBounds_toArray, List.set_cons_zero, List.set_cons_succ, i64_w, i32_w]
          rfl
        refine pure_ (i := 2) (N := some 63) (v := ?_) (a' := ?_) #[true, true, true, false, false, false, false, false, false, false, false, false, false, false, false] rfl rfl (by kernel_rfl) (fun _ _ _ h => h) (Or.inl ⟨by rfl, ?_⟩) ?_ ?_
        rotate_left
        · intro w'
          go_simp
          with_reducible rfl
        rotate_left
        · simp only [Act.put, List.setIfInBounds_toArray, List.set_cons_zero, List.set_cons_succ, i64_w, i32_w]
          rfl
        refine pure_ (i := 3) (N := some 64) (v := ?_) (a' := ?_) #[true, true, true, true, false, false, false, false, false, false, false, false, false, false, false] rfl rfl (by kernel_rfl) (fun _ _ _ h => h) (Or.inl ⟨by rfl, ?_⟩) ?_ ?_
        rotate_left
        · intro w'
          go_simp
          with_reducible rfl
        rotate_left
        · simp only [Act.put, List.setIfInBounds_toArray, List.set_cons_zero, List.set_cons_succ, i64_w, i32_w]
          rfl
        refine pure_ (i := 5) (N := some 66) (v := ?_) (a' := ?_) #[true, true, true, true, false, true, false, false, false, false, false, false, false, false, false] rfl rfl (by kernel_rfl) (fun _ _ _ h => h) (Or.inl ⟨by rfl, ?_⟩) ?_ ?_
        rotate_left
        · intro w'
          go_simp
          with_reducible rfl
        rotate_left
        · simp only [Act.put, List.setIfInBounds_toArray, List.set_cons_zero, List.set_cons_succ, i64_w, i32_w]
          rfl
        refine take_ (i := 4) (N := some 65) (v := ?_) (a' := ?_) #[true, true, true, true, true, true, false, false, false, false, false, false, false, false, false] rfl rfl (by kernel_rfl) (fun _ _ _ h => h) (Or.inl ⟨by rfl, ?_⟩) hHeld ?_ ?_
        rotate_left
        · rintro w' ⟨s0, s1⟩
          go_simp
          with_reducible rfl
        rotate_left
        · simp only [Act.put, List.setIfInBounds_toArray, List.set_cons_zero, List.set_cons_succ, i64_w, i32_w]
          rfl
        refine take_ (i := 6) (N := some 67) (v := ?_) (a' := ?_) #[true, true, true, true, true, true, true, false, false, false, false, false, false, false, false] rfl rfl (by kernel_rfl) (fun _ _ _ h => h) (Or.inl ⟨by rfl, ?_⟩) hHeld ?_ ?_
        rotate_left
        · rintro w' ⟨s0, s1⟩
          go_simp
          with_reducible rfl
        rotate_left
        · simp only [Act.put, List.setIfInBounds_toArray, List.set_cons_zero, List.set_cons_succ, i64_w, i32_w]
          rfl
        refine one_ (i := 7) (N := some 68) #[true, true, true, true, true, true, true, true, false, false, false, false, false, false, false] rfl rfl (by kernel_rfl) (by decide) (fun K hK => ?_)
        refine goes_ Tryd.func18 (by kernel_rfl) rfl #[.slice A6 k c6, .int .i64 ep, .int .i64 fi] (by rfl) rfl rfl (by simp only [List.map_toArray, List.map_cons, List.map_nil]; rfl) ?_
        with_reducible refine (HSc.out _ (Kd.C_drew (Kd.C_below HT.out HB2.out)) (Kd.C_drew HT6.out)).mono ?_
        rintro e W3 ⟨A9, c9, rfl, hc9, hC9, hb9⟩
        refine ⟨_, rfl, ?_⟩
        have HB9 := Aside0.mk (below_step (below_drew (Below.refl _ _)) hb9)
        have HC9 := Aside0.mk hC9
        have HD9 := Aside0.mk hc9
        clear hb9 hC9 hc9
        rw [HTk.out] at HC9 HD9 ⊢
        refine hK.out _ _ ⟨(by rw [HB9.out.cell (p := ⟨w.heap.size, 0, none⟩) (block_lt HX0.out)]; exact HX0.out), (by rw [HB9.out.cell (p := ⟨w.heap.size, 1, none⟩) (block_lt HX1.out)]; exact HX1.out)⟩ (fun hHeld => ?_)
        clear hK K
        refine norm_ (a' := ?_) ?_ ?_
        rotate_left
        · show Act.put _ (some 68) _ = _
          simp only [Act.put, List.setIfInBounds_toArray, List.set_cons_zero, List.set_cons_succ, i64_w, i32_w]
          rfl
        refine pure_ (i := 8) (N := some 60) (v := ?_) (a' := ?_) #[true, true, true, true, true, true, true, true, true, false, false, false, false, false, false] rfl rfl (by kernel_rfl) (fun _ _ _ h => h) (Or.inl ⟨by rfl, ?_⟩) ?_ ?_
        rotate_left
        · intro w'
          go_simp
          with_reducible rfl
        rotate_left
        · simp only [Act.put, List.setIfInBounds_toArray, List.set_cons_zero, List.set_cons_succ, i64_w, i32_w]
          rfl
        refine pure_ (i := 9) (N := some 69) (v := ?_) (a' := ?_) #[true, true, true, true, true, true, true, true, true, true, false, false, false, false, false] rfl rfl (by kernel_rfl) (fun _ _ _ h => h) (Or.inl ⟨by rfl, ?_⟩) ?_ ?_
        rotate_left
        · intro w'
          go_simp
          with_reducible rfl
        rotate_left
        · simp only [Act.put, List.setIfInBounds_toArray, List.set_cons_zero, List.set_cons_succ, i64_w, i32_w]
          rfl
        refine pure_ (i := 10) (N := some 70) (v := ?_) (a' := ?_) #[true, true, true, true, true, true, true, true, true, true, true, false, false, false, false] rfl rfl (by kernel_rfl) (fun _ _ _ h => h) (Or.inl ⟨by rfl, ?_⟩) ?_ ?_
        rotate_left
        · intro w'
          go_simp
          with_reducible rfl
        rotate_left
        · simp only [Act.put, List.setIfInBounds_toArray, List.set_cons_zero, List.set_cons_succ, i64_w, i32_w]
          rfl
        refine pure_ (i := 11) (N := some 71) (v := ?_) (a' := ?_) #[true, true, true, true, true, true, true, true, true, true, true, true, false, false, false] rfl rfl (by kernel_rfl) (fun _ _ _ h => h) (Or.inl ⟨by rfl, ?_⟩) ?_ ?_
        rotate_left
        · intro w'
          go_simp
          with_reducible rfl
        rotate_left
        · simp only [Act.put, List.setIfInBounds_toArray, List.set_cons_zero, List.set_cons_succ, i64_w, i32_w]
          rfl
        refine pure_ (i := 12) (N := some 12) (v := ?_) (a' := ?_) #[true, true, true, true, true, true, true, true, true, true, true, true, true, false, false] rfl rfl (by kernel_rfl) (fun _ _ _ h => h) (Or.inl ⟨by rfl, ?_⟩) ?_ ?_
        rotate_left
        · intro w'
          go_simp
          with_reducible rfl
        rotate_left
        · simp only [Act.put, List.setIfInBounds_toArray, List.set_cons_zero, List.set_cons_succ, i64_w, i32_w]
          rfl
        refine pure_ (i := 13) (N := some 13) (v := ?_) (a' := ?_) #[true, true, true, true, true, true, true, true, true, true, true, true, true, true, false] rfl rfl (by kernel_rfl) (fun _ _ _ h => h) (Or.inl ⟨by rfl, ?_⟩) ?_ ?_
        rotate_left
        · intro w'
          go_simp
          with_reducible rfl
        rotate_left
        · simp only [Act.put, List.setIfInBounds_toArray, List.set_cons_zero, List.set_cons_succ, i64_w, i32_w]
          rfl
        refine pure_ (i := 14) (N := some 14) (v := ?_) (a' := ?_) #[true, true, true, true, true, true, true, true, true, true, true, true, true, true, true] rfl rfl (by kernel_rfl) (fun _ _ _ h => h) (Or.inl ⟨by rfl, ?_⟩) ?_ ?_
        rotate_left
        · intro w'
          go_simp
          with_reducible rfl
        rotate_left
        · simp only [Act.put, List.setIfInBounds_toArray, List.set_cons_zero, List.set_cons_succ, i64_w, i32_w]
          rfl
        refine done_ (by kernel_rfl) ?_
        have HB3 := Aside0.mk (below_step HB2.out HB9.out)
        clear hx0 hx1
        go_wp2_with (first | (go_at_call 20; refine (HSame.out _ _ _ _ HC9.out HD9.out (Kd.C_below HT8.out HB9.out) (by have := HN.out; have := HD.out.2.2; omega)).mono ?_; rintro e W5 ⟨rfl, ⟨nd, rfl⟩⟩))
        go_ret
        exact ⟨rfl, below_step HB3.out (pw_below_drewN (Below.refl _ _) nd)⟩
      · skip
        have hsc := HOk.out.cut n k HN.out HLE.out HLT.out (by rw [← HOUT.out]; exact HK0.out)
        rw [← HOUT.out] at hsc
        obtain ⟨Ew, hEw⟩ : ∃ Ew : Nat, Ew = (WR ep fi (bs.take n)).length := ⟨_, rfl⟩
        rw [← hEw] at hsc
        obtain ⟨m, hm⟩ : ∃ m, n = m + 1 := ⟨n - 1, by omega⟩
        have hxm := EN_cell HC7.out m (by have := HN.out; omega)
        rw [← hm, ← hEw] at hxm
        have e5 : wrap64 ((n : Int) - 1) = (m : Int) := by unfold wrap64; omega
        have e6 : (n : Int) - 1 = (m : Int) := by omega
        have q3 : ((m : Int) < (bs.length : Int)) = True := eq_true (by have := HN.out; omega)
        have q4 : (m < bs.length) = True := eq_true (by have := HN.out; omega)
        have z1 : decide (0 < (n : Int)) = true := decide_eq_true (by omega)
        have z2 : decide (0 < n) = true := decide_eq_true (by omega)
        have HM := Aside0.mk hm
        clear hm hEw hn0
        have HSc := Aside0.mk (fun W hT hC => Scan_calls A6 c6 (out.take k) ep fi W hT hC (by rw [List.length_take]; have := HD.out.1; omega) (by rw [HOUT.out]; exact HOk.out.bytes.take k) (by rw [List.length_take]; have := HOL.out; omega))
        rw [hsc, List.length_take, Nat.min_eq_left HK0.out] at HSc
        have HT6 := Aside0.mk (show Kd.C (Kd.int .u8) _ A6 k (out.take k) by have := Kd.C_take HC6.out HK0.out; rwa [List.length_take, Nat.min_eq_left HK0.out] at this)
        have HTk := Aside0.mk (show (bs.take n).length = n by rw [List.length_take]; have := HN.out; omega)
        have HT8 := Aside0.mk (show Kd.C (Kd.slice 5 (Kd.int .u8)) _ A8 n (bs.take n) by have := Kd.C_take HC8.out HN.out; rwa [List.length_take, Nat.min_eq_left HN.out] at this)
        obtain ⟨ks, hks⟩ := Ev.rounds (same_f (bs.take n) (by rw [HTk.out]; omega))
        have HSame := Aside0.mk (fun W A c c' hC hc hC' hc' => colophonref18_Same.calls ks A c (bs.take n) A8 c' (bs.take n) true W hC hc hC' hc' hks)
        rw [HTk.out] at HSame
        have g1 : ((k : Int) ≤ (c6 : Int)) = True := eq_true (by have := HK0.out; have := HD.out.1; omega)
        have g2 : (k ≤ c6) = True := eq_true (by have := HK0.out; have := HD.out.1; omega)
        have g3 : ((n : Int) ≤ (c8 : Int)) = True := eq_true (by have := HN.out; have := HD.out.2.2; omega)
        have g4 : (n ≤ c8) = True := eq_true (by have := HN.out; have := HD.out.2.2; omega)
        have g5 : (0 ≤ (k : Int)) = True := eq_true (by omega)
        have g6 : (0 ≤ (n : Int)) = True := eq_true (by omega)
        have HX0 := Aside0.mk hx0
        have HX1 := Aside0.mk hx1
        clear hsc hks
        go_upto_region 13 with (fail)
        refine start_ (n := 15) (S := fun w' => w'.cell? ⟨w.heap.size, 0, none⟩ = some (.int .i64 ep) ∧ w'.cell? ⟨w.heap.size, 1, none⟩ = some (.int .i64 fi)) (ds := []) #[false, false, false, false, false, false, false, false, false, false, false, false, false, false, false] (by kernel_rfl) rfl rfl ⟨(by exact HX0.out), (by exact HX1.out)⟩ (fun hHeld => ?_)
        refine pure_ (i := 0) (N := some 61) (v := ?_) (a' := ?_) #[true, false, false, false, false, false, false, false, false, false, false, false, false, false, false] rfl rfl (by kernel_rfl) (fun _ _ _ h => h) (Or.inl ⟨by rfl, ?_⟩) ?_ ?_
        rotate_left
        · intro w'
          go_simp
          with_reducible rfl
        rotate_left
        · simp only [Act.put, List.setIfInBounds_toArray, List.set_cons_zero, List.set_cons_succ, i64_w, i32_w]
          rfl
        refine pure_ (i := 1) (N := some 62) (v := ?_) (a' := ?_) #[true, true, false, false, false, false, false, false, false, false, false, false, false, false, false] rfl rfl (by kernel_rfl) (fun _ _ _ h => h) (Or.inl ⟨by rfl, ?_⟩) ?_ ?_
        rotate_left
        · intro w'
          go_simp
          with_reducible rfl
        rotate_left
        · simp only [Act.put, List.setIfInBounds_toArray, List.set_cons_zero, List.set_cons_succ, i64_w, i32_w]
          rfl
        refine pure_ (i := 2) (N := some 63) (v := ?_) (a' := ?_) #[true, true, true, false, false, false, false, false, false, false, false, false, false, false, false] rfl rfl (by kernel_rfl) (fun _ _ _ h => h) (Or.inl ⟨by rfl, ?_⟩) ?_ ?_
        rotate_left
        · intro w'
          go_simp
          with_reducible rfl
        rotate_left
        · simp only [Act.put, List.setIfInBounds_toArray, List.set_cons_zero, List.set_cons_succ, i64_w, i32_w]
          rfl
        refine pure_ (i := 3) (N := some 64) (v := ?_) (a' := ?_) #[true, true, true, true, false, false, false, false, false, false, false, false, false, false, false] rfl rfl (by kernel_rfl) (fun _ _ _ h => h) (Or.inl ⟨by rfl, ?_⟩) ?_ ?_
        rotate_left
        · intro w'
          go_simp
          with_reducible rfl
        rotate_left
        · simp only [Act.put, List.setIfInBounds_toArray, List.set_cons_zero, List.set_cons_succ, i64_w, i32_w]
          rfl
        refine pure_ (i := 5) (N := some 66) (v := ?_) (a' := ?_) #[true, true, true, true, false, true, false, false, false, false, false, false, false, false, false] rfl rfl (by kernel_rfl) (fun _ _ _ h => h) (Or.inl ⟨by rfl, ?_⟩) ?_ ?_
        rotate_left
        · intro w'
          go_simp
          with_reducible rfl
        rotate_left
        · simp only [Act.put, List.setIfInBounds_toArray, List.set_cons_zero, List.set_cons_succ, i64_w, i32_w]
          rfl
        refine take_ (i := 4) (N := some 65) (v := ?_) (a' := ?_) #[true, true, true, true, true, true, false, false, false, false, false, false, false, false, false] rfl rfl (by kernel_rfl) (fun _ _ _ h => h) (Or.inl ⟨by rfl, ?_⟩) hHeld ?_ ?_
        rotate_left
        · rintro w' ⟨s0, s1⟩
          go_simp
          with_reducible rfl
        rotate_left
        · simp only [Act.put, List.setIfInBounds_toArray, List.set_cons_zero, List.set_cons_succ, i64_w, i32_w]
          rfl
        refine take_ (i := 6) (N := some 67) (v := ?_) (a' := ?_) #[true, true, true, true, true, true, true, false, false, false, false, false, false, false, false] rfl rfl (by kernel_rfl) (fun _ _ _ h => h) (Or.inl ⟨by rfl, ?_⟩) hHeld ?_ ?_
        rotate_left
        · rintro w' ⟨s0, s1⟩
          go_simp
          with_reducible rfl
        rotate_left
        · simp only [Act.put, List.setIfInBounds_toArray, List.set_cons_zero, List.set_cons_succ, i64_w, i32_w]
          rfl
        refine one_ (i := 7) (N := some 68) #[true, true, true, true, true, true, true, true, false, false, false, false, false, false, false] rfl rfl (by kernel_rfl) (by decide) (fun K hK => ?_)
        refine goes_ Tryd.func18 (by kernel_rfl) rfl #[.slice A6 k c6, .int .i64 ep, .int .i64 fi] (by rfl) rfl rfl (by simp only [List.map_toArray, List.map_cons, List.map_nil]; rfl) ?_
        with_reducible refine (HSc.out _ (Kd.C_drew (Kd.C_below HT.out HB2.out)) (Kd.C_drew HT6.out)).mono ?_
        rintro e W3 ⟨A9, c9, rfl, hc9, hC9, hb9⟩
        refine ⟨_, rfl, ?_⟩
        have HB9 := Aside0.mk (below_step (below_drew (Below.refl _ _)) hb9)
        have HC9 := Aside0.mk hC9
        have HD9 := Aside0.mk hc9
        clear hb9 hC9 hc9
        rw [HTk.out] at HC9 HD9 ⊢
        refine hK.out _ _ ⟨(by rw [HB9.out.cell (p := ⟨w.heap.size, 0, none⟩) (block_lt HX0.out)]; exact HX0.out), (by rw [HB9.out.cell (p := ⟨w.heap.size, 1, none⟩) (block_lt HX1.out)]; exact HX1.out)⟩ (fun hHeld => ?_)
        clear hK K
        refine norm_ (a' := ?_) ?_ ?_
        rotate_left
        · show Act.put _ (some 68) _ = _
          simp only [Act.put, List.setIfInBounds_toArray, List.set_cons_zero, List.set_cons_succ, i64_w, i32_w]
          rfl
        refine pure_ (i := 8) (N := some 60) (v := ?_) (a' := ?_) #[true, true, true, true, true, true, true, true, true, false, false, false, false, false, false] rfl rfl (by kernel_rfl) (fun _ _ _ h => h) (Or.inl ⟨by rfl, ?_⟩) ?_ ?_
        rotate_left
        · intro w'
          go_simp
          with_reducible rfl
        rotate_left
        · simp only [Act.put, List.setIfInBounds_toArray, List.set_cons_zero, List.set_cons_succ, i64_w, i32_w]
          rfl
        refine pure_ (i := 9) (N := some 69) (v := ?_) (a' := ?_) #[true, true, true, true, true, true, true, true, true, true, false, false, false, false, false] rfl rfl (by kernel_rfl) (fun _ _ _ h => h) (Or.inl ⟨by rfl, ?_⟩) ?_ ?_
        rotate_left
        · intro w'
          go_simp
          with_reducible rfl
        rotate_left
        · simp only [Act.put, List.setIfInBounds_toArray, List.set_cons_zero, List.set_cons_succ, i64_w, i32_w]
          rfl
        refine pure_ (i := 10) (N := some 70) (v := ?_) (a' := ?_) #[true, true, true, true, true, true, true, true, true, true, true, false, false, false, false] rfl rfl (by kernel_rfl) (fun _ _ _ h => h) (Or.inl ⟨by rfl, ?_⟩) ?_ ?_
        rotate_left
        · intro w'
          go_simp
          with_reducible rfl
        rotate_left
        · simp only [Act.put, List.setIfInBounds_toArray, List.set_cons_zero, List.set_cons_succ, i64_w, i32_w]
          rfl
        refine pure_ (i := 11) (N := some 71) (v := ?_) (a' := ?_) #[true, true, true, true, true, true, true, true, true, true, true, true, false, false, false] rfl rfl (by kernel_rfl) (fun _ _ _ h => h) (Or.inl ⟨by rfl, ?_⟩) ?_ ?_
        rotate_left
        · intro w'
          go_simp
          with_reducible rfl
        rotate_left
        · simp only [Act.put, List.setIfInBounds_toArray, List.set_cons_zero, List.set_cons_succ, i64_w, i32_w]
          rfl
        refine pure_ (i := 12) (N := some 12) (v := ?_) (a' := ?_) #[true, true, true, true, true, true, true, true, true, true, true, true, true, false, false] rfl rfl (by kernel_rfl) (fun _ _ _ h => h) (Or.inl ⟨by rfl, ?_⟩) ?_ ?_
        rotate_left
        · intro w'
          go_simp
          with_reducible rfl
        rotate_left
        · simp only [Act.put, List.setIfInBounds_toArray, List.set_cons_zero, List.set_cons_succ, i64_w, i32_w]
          rfl
        refine pure_ (i := 13) (N := some 13) (v := ?_) (a' := ?_) #[true, true, true, true, true, true, true, true, true, true, true, true, true, true, false] rfl rfl (by kernel_rfl) (fun _ _ _ h => h) (Or.inl ⟨by rfl, ?_⟩) ?_ ?_
        rotate_left
        · intro w'
          go_simp
          with_reducible rfl
        rotate_left
        · simp only [Act.put, List.setIfInBounds_toArray, List.set_cons_zero, List.set_cons_succ, i64_w, i32_w]
          rfl
        refine pure_ (i := 14) (N := some 14) (v := ?_) (a' := ?_) #[true, true, true, true, true, true, true, true, true, true, true, true, true, true, true] rfl rfl (by kernel_rfl) (fun _ _ _ h => h) (Or.inl ⟨by rfl, ?_⟩) ?_ ?_
        rotate_left
        · intro w'
          go_simp
          with_reducible rfl
        rotate_left
        · simp only [Act.put, List.setIfInBounds_toArray, List.set_cons_zero, List.set_cons_succ, i64_w, i32_w]
          rfl
        refine done_ (by kernel_rfl) ?_
        have HB3 := Aside0.mk (below_step HB2.out HB9.out)
        clear hx0 hx1
        go_wp2_with (first | (go_at_call 20; refine (HSame.out _ _ _ _ HC9.out HD9.out (Kd.C_below HT8.out HB9.out) (by have := HN.out; have := HD.out.2.2; omega)).mono ?_; rintro e W5 ⟨rfl, ⟨nd, rfl⟩⟩))
        go_ret
        exact ⟨rfl, below_step HB3.out (pw_below_drewN (Below.refl _ _) nd)⟩
    have b1 : decide ((E1 : Int) ≤ (k : Int)) = true := decide_eq_true (by omega)
    have b2 : decide (E1 ≤ k) = true := decide_eq_true hle
    have HE1 := Aside0.mk (show (WR ep fi (bs.take (n + 1))).length ≤ k by omega)
    have HNL := Aside0.mk hn
    clear hn hle hE1
    go_wp2
    go_roundg (gk - 1)
    case measure => have := HKQ.out; have := HNL.out; omega
    case rel => exact ⟨n + 1, by first | rfl | (congr 1), by have := HNL.out; have := HL20.out; omega, ⟨by have := HNL.out; omega⟩, ⟨by have := HKQ.out; have := HNL.out; omega⟩, HE1, ⟨rfl⟩⟩
end Go.Proofs.YtoehjojipmeagaaDoor.X
