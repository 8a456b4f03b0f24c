/- The law RecordBack, walked by hand. -/
import Derived.Test.YtoehjojipmeagaaDoorLogT
import Derived.Test.YtoehjojipmeagaaDoorHScan
import Derived.Test.YtoehjojipmeagaaDoorHSame
import Derived.Test.YtoehjojipmeagaaDoorHWorks
import Derived.Test.YtoehjojipmeagaaDoorX1
import Derived.Deep.RegionHeld3
namespace Go.Proofs.YtoehjojipmeagaaDoor.X
open Go.RowKit Go.Proofs.YtoehjojipmeagaaDoorW.PrintWords Go.Proofs.YtoehjojipmeagaaDoorW.PrintLast Go.Proofs.YtoehjojipmeagaaDoorW.PrintMore Go.Proofs.YtoehjojipmeagaaDoor.G Go.Proofs.YtoehjojipmeagaaDoor.T Go.Proofs.YtoehjojipmeagaaDoor.Pure Go.Proofs.YtoehjojipmeagaaDoor.E
set_option linter.unusedVariables false
set_option linter.unusedSimpArgs false
def colophonlaw18_RecordBack.Pure : Prop := colophonlaw18_works.f = some true
set_option maxHeartbeats 16000000 in
set_option maxRecDepth 100000 in
theorem colophonlaw18_RecordBack.walk (P : colophonlaw18_RecordBack.Pure) (ep fi : Int) (AB : Option Addr) (nB cB : Nat) (Bs : List (List Int))  (w : World) (hT : Tab w) (wep : (Lit.int .i64 ep).wf = true) (wfi : (Lit.int .i64 fi).wf = true) (hBs : Bs.length = nB ∧ nB ≤ cB ∧ Kd.C (Kd.slice 5 (Kd.int .u8)) w AB nB Bs ∧ ∀ b ∈ Bs, ∀ n ∈ b, (Lit.int .u8 n).wf = true)  :
    Calls Tryd.prog 6 #[.agg #[.int .i64 ep, .int .i64 fi, .slice AB nB cB]] w fun e w' => e = .returned (.bool true) ∧ Below w.heap.size w w' := by
  obtain ⟨hB1, hB2, hB3, hB4⟩ := hBs
  have hfi : -9223372036854775808 ≤ fi ∧ fi ≤ 9223372036854775807 := wf_i64 wfi
  have HB4 := Aside0.mk (fun b (hb : b ∈ cutBs Bs) => show Bytes b by
    obtain ⟨x, hx, rfl⟩ := List.mem_map.1 hb
    exact (bytes_wf (hB4 x (List.mem_of_mem_take hx))).take 100)
  have HT := Aside0.mk hT
  obtain ⟨o, ho⟩ : ∃ o, o = (Obj.cells #[.int .i64 ep, .int .i64 fi, .slice AB nB cB] 43) := ⟨_, rfl⟩
  have HBX := Aside0.mk (heap_alloc_new w o)
  have HWk := Aside0.mk (colophonlaw18_works.calls true (w.alloc o) (Kd.C_alloc hT o) rfl)
  have HWn := Aside0.mk (fun W (hW : Below w.heap.size w W) => written_no ep fi AB nB cB Bs W (Kd.C_below hT hW) hfi hB1 hB2 (Kd.C_below hB3 hW))
  have HWy := Aside0.mk (fun W (hW : Below w.heap.size w W) => written_yes ep fi AB nB cB Bs W (Kd.C_below hT hW) hfi hB1 hB2 (Kd.C_below hB3 hW))
  have HL := Aside0.mk (cutBs_length Bs)
  have H100 := Aside0.mk (cutBs_100 Bs)
  obtain ⟨bs, hbs⟩ : ∃ bs, bs = cutBs Bs := ⟨_, rfl⟩
  rw [← hbs] at HWn HWy HB4 HL H100
  have HOx := Aside0.mk ho
  clear hT hB1 hB2 hB3 hB4 wfi wep hfi hbs
  rw [ho] at HWk HBX
  by_cases hok : okLog ep fi bs
  rotate_left
  · -- none
    have HNO := Aside0.mk hok
    clear hok
    clear ho HOx
    go_enter Tryd.func6, Tryd.ntmps6
    go_wp2_with (first | (go_at_call 15; refine HWk.out.mono ?_; rintro e W1 ⟨rfl, hb1⟩; refine of_halt ?_))
    unfold G.Halt
    have HB1 := Aside0.mk (below_of_box hb1)
    have hblk : W1.heap[w.heap.size]? = some _ := (hb1.block _ (by rw [World.size_alloc]; omega)).trans HBX.out
    have hx0 : W1.cell? ⟨w.heap.size, 0, none⟩ = some (.int .i64 ep) := (blk_cell hblk 0)
    have hx1 : W1.cell? ⟨w.heap.size, 1, none⟩ = some (.int .i64 fi) := (blk_cell hblk 1)
    have hx2 : W1.cell? ⟨w.heap.size, 2, none⟩ = some (.slice AB nB cB) := (blk_cell hblk 2)
    clear hb1 hblk
    go_wp2_with (first | (go_at_call 21; refine (HWn.out _ HB1.out HNO.out).mono ?_; rintro e W2 ⟨rfl, hb2⟩; refine of_halt ?_))
    unfold G.Halt
    have HB2 := Aside0.mk (below_step HB1.out hb2)
    clear hb2 hx0 hx1 hx2
    go_wp2
    go_ret
    exact ⟨rfl, HB2.out⟩
  clear ho HOx
  have HOK := Aside0.mk hok
  clear hok
  go_enter Tryd.func6, Tryd.ntmps6
  go_wp2_with (first | (go_at_call 15; refine HWk.out.mono ?_; rintro e W1 ⟨rfl, hb1⟩; refine of_halt ?_))
  unfold G.Halt
  have HB1 := Aside0.mk (below_of_box hb1)
  have hblk : W1.heap[w.heap.size]? = some _ := (hb1.block _ (by rw [World.size_alloc]; omega)).trans HBX.out
  have HS1 := Aside0.mk (show w.heap.size < W1.heap.size from lt_of_some hblk)
  have hx0 : W1.cell? ⟨w.heap.size, 0, none⟩ = some (.int .i64 ep) := (blk_cell hblk 0)
  have hx1 : W1.cell? ⟨w.heap.size, 1, none⟩ = some (.int .i64 fi) := (blk_cell hblk 1)
  have hx2 : W1.cell? ⟨w.heap.size, 2, none⟩ = some (.slice AB nB cB) := (blk_cell hblk 2)
  have HX0 := Aside0.mk hx0
  have HX1 := Aside0.mk hx1
  clear hb1 hblk
  go_wp2_with (first | (go_at_call 21; refine (HWy.out _ HB1.out HOK.out).mono ?_; rintro e W2 ⟨v6, v7, v8, hs, rfl, ho6, ho7, ho8, hst, hb2⟩; refine of_halt ?_))
  unfold G.Halt
  have HB2 := Aside0.mk (below_step HB1.out hb2)
  have HB12 := Aside0.mk hb2
  obtain ⟨A6, c6, rfl, hc6, hC6⟩ := Kd.R_reads ho6
  obtain ⟨A7, c7, rfl, hc7, hC7⟩ := Kd.R_reads ho7
  obtain ⟨A8, c8, rfl, hc8, hC8'⟩ := Kd.R_reads ho8
  have hC8 := C_of_stay hC8' hst hb2
  rw [EN_length] at hC7 hc7
  rw [hst.1] at hc8 hC8
  clear hx0 hx1 hx2
  have hx0 : W2.cell? ⟨w.heap.size, 0, none⟩ = some (.int .i64 ep) := by rw [hb2.cell (p := ⟨w.heap.size, 0, none⟩) HS1.out]; exact HX0.out
  have hx1 : W2.cell? ⟨w.heap.size, 1, none⟩ = some (.int .i64 fi) := by rw [hb2.cell (p := ⟨w.heap.size, 1, none⟩) HS1.out]; exact HX1.out
  simp only [EN_length, hst.1]
  have HC6 := Aside0.mk hC6
  have HC7 := Aside0.mk hC7
  have HC8 := Aside0.mk hC8
  have HD := Aside0.mk (And.intro hc6 (And.intro hc7 hc8))
  have HO6 := Aside0.mk ho6
  have HO8 := Aside0.mk ho8
  have HST := Aside0.mk hst
  clear hC6 hC7 hC8 hC8' hc6 hc7 hc8 ho6 ho7 ho8 hst hb2 HX0 HX1
  obtain ⟨out, hout⟩ : ∃ out, out = WR ep fi bs := ⟨_, rfl⟩
  rw [← hout] at HC6 HD HO6 ⊢
  have HOUT := Aside0.mk hout
  have HOL := Aside0.mk (show out.length ≤ 2280 by rw [hout]; have h1 := WR_len ep bs fi H100.out; have h2 := HL.out; omega)
  clear hout
  have HL20 := Aside0.mk (show bs.length ≤ 20 by rw [HL.out]; omega)
  have HX0 := Aside0.mk hx0
  have HX1 := Aside0.mk hx1
  by_cases hbe : bs = []
  · -- no records
    have hou : out = [] := by rw [HOUT.out, hbe]; rfl
    have HBE := Aside0.mk hbe
    have f0 : ((bs.length : Int) == 0) = true := by rw [hbe]; rfl
    have f1 : (bs.length = 0) = True := eq_true (by rw [hbe]; rfl)
    have f2 : ((bs.length : Int) = 0) = True := eq_true (by rw [hbe]; rfl)
    have hol : out.length = 0 := by rw [hou]; rfl
    have hbl : bs.length = 0 := by rw [hbe]; rfl
    have HSc0 := Scan_calls A6 c6 out ep fi W2 (Kd.C_below HT.out HB2.out) HC6.out HD.out.1 (by rw [hou]; intro x hx; simp at hx) (by have := HOL.out; omega)
    have hSC : SC out ep fi = if [ep, fi].all numB = true then ([], 0, 0) else ([], 0, 2) := by
      rw [hou]; unfold SC
      by_cases h : [ep, fi].all numB = true
      · rw [if_pos h, if_pos h, scan_stop _ _ _ _ (RD_nil _ _)]
      · rw [if_neg h, if_neg h]
    rw [hSC] at HSc0
    clear hbe hou hSC hol hx0 hx1
    by_cases hn : [ep, fi].all numB = true
    · rw [if_pos hn] at HSc0
      have HSc := Aside0.mk HSc0
      have hn' : (1 ≤ ep ∧ ep ≤ 2147483647) ∧ (1 ≤ fi ∧ fi ≤ 2147483647) := by simpa [numB] using hn
      obtain ⟨⟨n1, n2⟩, n3, n4⟩ := hn'
      have t1 : decide (ep < 1) = false := decide_eq_false (by omega)
      have t2 : decide (2147483647 < ep) = false := decide_eq_false (by omega)
      have t3 : decide (fi < 1) = false := decide_eq_false (by omega)
      have t4 : decide (2147483647 < fi) = false := decide_eq_false (by omega)
      obtain ⟨ks, hks⟩ := Ev.rounds (same_f ([] : List (List Int)) (by simp))
      have HSame := Aside0.mk (fun W A c A' c' hC hc hC' hc' => colophonref18_Same.calls ks A c [] A' c' [] true W hC hc hC' hc' hks)
      have HC80 := Aside0.mk (show Kd.C (Kd.slice 5 (Kd.int .u8)) W2 A8 0 [] by have h := HC8.out; have e := HBE.out; subst e; exact h)
      clear hn n1 n2 n3 n4 hks HSc0 hbl
      have hx0 := HX0.out
      have hx1 := HX1.out
      go_wp2_with (first | (go_at_call 18; refine HSc.out.mono ?_; rintro e W3 ⟨A9, c9, rfl, hc9, hC9, hb9⟩; refine of_halt ?_))
      unfold G.Halt
      have HB9 := Aside0.mk hb9
      have HC9 := Aside0.mk (show Kd.C (Kd.slice 5 (Kd.int .u8)) W3 A9 0 [] from hC9)
      clear hx0 hx1 hb9 hC9 hc9
      have hx0 : W3.cell? ⟨w.heap.size, 0, none⟩ = some (.int .i64 ep) := by rw [HB9.out.cell (p := ⟨w.heap.size, 0, none⟩) (block_lt HX0.out)]; exact HX0.out
      have hx1 : W3.cell? ⟨w.heap.size, 1, none⟩ = some (.int .i64 fi) := by rw [HB9.out.cell (p := ⟨w.heap.size, 1, none⟩) (block_lt HX1.out)]; exact HX1.out
      have hb0 : bs.length = 0 := by rw [HBE.out]; rfl
      have ho0 : out.length = 0 := by rw [HOUT.out, HBE.out]; rfl
      simp only [hb0, ho0]
      clear f0 f1 f2 hb0 ho0
      go_wp2
      go_loopg [10, 70] 1 (fun kq v10 v70 w' => v10 = .int .i64 0 ∧ v70 = .int .i64 0 ∧ Aside0 (w' = W3))
      case atStart => exact ⟨rfl, rfl, ⟨rfl⟩⟩
      case round =>
        obtain ⟨rfl, rfl, ⟨rfl⟩⟩ := hrel
        go_wp2_with (first | (go_at_call 20; refine (HSame.out _ _ _ _ _ HC9.out (Nat.zero_le _) (Kd.C_below HC80.out HB9.out) (Nat.zero_le _)).mono ?_; rintro e W10 ⟨rfl, ⟨nd, rfl⟩⟩))
        go_ret
        exact ⟨rfl, below_step (below_step HB2.out HB9.out) (pw_below_drewN (Below.refl _ _) nd)⟩
    · rw [if_neg hn] at HSc0
      have HSc := Aside0.mk HSc0
      have hn' : ¬ ((1 ≤ ep ∧ ep ≤ 2147483647) ∧ (1 ≤ fi ∧ fi ≤ 2147483647)) := fun h => hn (by simpa [numB] using h)
      clear hn HSc0 hbl
      have hx0 := HX0.out
      have hx1 := HX1.out
      go_wp2_with (first | (go_at_call 18; refine HSc.out.mono ?_; rintro e W3 ⟨A9, c9, rfl, hc9, hC9, hb9⟩; refine of_halt ?_))
      unfold G.Halt
      have HB9 := Aside0.mk hb9
      clear hx0 hx1 hb9 hC9 hc9
      have hx0 : W3.cell? ⟨w.heap.size, 0, none⟩ = some (.int .i64 ep) := by rw [HB9.out.cell (p := ⟨w.heap.size, 0, none⟩) (block_lt HX0.out)]; exact HX0.out
      have hx1 : W3.cell? ⟨w.heap.size, 1, none⟩ = some (.int .i64 fi) := by rw [HB9.out.cell (p := ⟨w.heap.size, 1, none⟩) (block_lt HX1.out)]; exact HX1.out
      by_cases t1 : ep < 1
      · have b1 : decide (ep < 1) = true := decide_eq_true t1
        clear t1 hn'
        go_wp2
        go_ret
        exact ⟨rfl, below_step HB2.out HB9.out⟩
      have b1 : decide (ep < 1) = false := decide_eq_false t1
      by_cases t2 : 2147483647 < ep
      · have b2 : decide (2147483647 < ep) = true := decide_eq_true t2
        clear t1 t2 hn'
        go_wp2
        go_ret
        exact ⟨rfl, below_step HB2.out HB9.out⟩
      have b2 : decide (2147483647 < ep) = false := decide_eq_false t2
      by_cases t3 : fi < 1
      · have b3 : decide (fi < 1) = true := decide_eq_true t3
        clear t1 t2 t3 hn'
        go_wp2
        go_ret
        exact ⟨rfl, below_step HB2.out HB9.out⟩
      have b3 : decide (fi < 1) = false := decide_eq_false t3
      have b4 : decide (2147483647 < fi) = true := decide_eq_true (by omega)
      clear t1 t2 t3 hn'
      go_wp2
      go_ret
      exact ⟨rfl, below_step HB2.out HB9.out⟩
  have hlen : 0 < bs.length := List.length_pos_iff.2 hbe
  have f0 : ((bs.length : Int) == 0) = false := beq_eq_false_iff_ne.2 (by omega)
  have f1 : (bs.length = 0) = False := eq_false (by omega)
  have f2 : ((bs.length : Int) = 0) = False := eq_false (by omega)
  have HOk := Aside0.mk (Ok.of HOK.out hbe H100.out HB4.out)
  obtain ⟨ad7, e7, _⟩ := Kd.at_int HC7.out 0 (by omega) (by omega)
  subst e7
  have hsc := HOk.out.back
  rw [← HOUT.out] at hsc
  have HSc := Aside0.mk (Scan_calls A6 c6 out ep fi W2 (Kd.C_below HT.out HB2.out) HC6.out HD.out.1 (by rw [HOUT.out]; exact HOk.out.bytes) (by have := HOL.out; omega))
  rw [hsc] at HSc
  obtain ⟨ks, hks⟩ := Ev.rounds (same_f bs (by have := HL20.out; omega))
  have HSame := Aside0.mk (fun W A c A' c' hC hc hC' hc' => colophonref18_Same.calls ks A c bs A' c' bs true W hC hc hC' hc' hks)
  clear hlen hbe hsc hks
  go_wp2_with (first | (go_at_call 18; refine HSc.out.mono ?_; rintro e W3 ⟨A9, c9, rfl, hc9, hC9, hb9⟩; refine of_halt ?_))
  unfold G.Halt
  have HB9 := Aside0.mk hb9
  have HC9 := Aside0.mk (show Kd.C (Kd.slice 5 (Kd.int .u8)) W3 A9 bs.length bs from hC9)
  have HD9 := Aside0.mk (show bs.length ≤ c9 from hc9)
  clear hx0 hx1 hb9 hC9 hc9
  have HC83 := Aside0.mk (Kd.C_below HC8.out HB9.out)
  have HC73 := Aside0.mk (Kd.C_below HC7.out HB9.out)
  have HB3 := Aside0.mk (below_step HB2.out HB9.out)
  obtain ⟨ad8, c0, e8, _⟩ := Kd.C_get HC83.out ([] : List Int) 0 (by omega) (by have := List.length_pos_iff.2 HOk.out.ne; omega)
  subst e8
  go_wp2
  go_loopg [10, 70] (bs.length + 1) (fun kq v10 v70 w' => ∃ n E : Nat, v70 = .int .i64 (n : Int) ∧ v10 = .int .i64 (E : Int) ∧ n ≤ 20 ∧ E ≤ 2280 ∧ Aside0 (n ≤ bs.length) ∧ Aside0 (kq + n = bs.length + 1) ∧ Aside0 (E = (WR ep fi (bs.take n)).length) ∧ Aside0 (Below W3.heap.size W3 w'))
  case atStart => exact ⟨0, 0, rfl, rfl, by omega, by omega, ⟨by omega⟩, ⟨rfl⟩, ⟨by simp [WR]⟩, ⟨Below.refl _ _⟩⟩
  case round =>
    obtain ⟨n, E, rfl, rfl, hn20, hE, HN, HKQ, HE, HW⟩ := hrel
    by_cases hn : n < bs.length
    rotate_left
    · have a1 : decide ((n : Int) < (bs.length : Int)) = false := decide_eq_false (by omega)
      have a2 : decide (n < bs.length) = false := decide_eq_false hn
      clear hn f0 f1 f2
      go_wp2_with (first | (go_at_call 20; refine (HSame.out _ _ _ _ _ (Kd.C_below HC9.out HW.out) HD9.out (Kd.C_below HC83.out HW.out) HD.out.2.2).mono ?_; rintro e W10 ⟨rfl, ⟨nd, rfl⟩⟩))
      go_ret
      exact ⟨rfl, below_step (below_step HB3.out HW.out) (pw_below_drewN (Below.refl _ _) nd)⟩
    have a1 : decide ((n : Int) < (bs.length : Int)) = true := decide_eq_true (by omega)
    have a2 : decide (n < bs.length) = true := decide_eq_true hn
    have q1 : ((n : Int) < (bs.length : Int)) = True := eq_true (by omega)
    have q2 : (n < bs.length) = True := eq_true hn
    obtain ⟨ad, cs, e8, hcl, hK, hcc⟩ := Kd.C_get HC83.out ([] : List Int) (n : Int) (by omega) (by omega)
    injection e8 with e8
    subst e8
    rw [Int.toNat_natCast] at hK hcc
    obtain ⟨PA, pc, rfl, hpl, hpC⟩ := hK
    obtain ⟨b, hb⟩ : ∃ b, b = bs.getD n [] := ⟨_, rfl⟩
    rw [← hb] at hcc
    have hcell : W3.cell? (ad8.add n) = some (.slice PA b.length pc) := by
      have := hcc 0 _ rfl
      rwa [show n * (Kd.slice 5 (Kd.int .u8)).sz + 0 = n by show n * 1 + 0 = n; omega] at this
    have hcr : wr.cell? (ad8.add n) = some (.slice PA b.length pc) := by rw [HW.out.cell (p := ad8.add n) (block_lt hcell)]; exact hcell
    have hxn := EN_cell (Kd.C_below HC73.out HW.out) n hn
    have hb100 : b.length ≤ 100 := by rw [hb]; exact H100.out _ (getD_mem hn)
    have hlen2 := WR_take_len ep bs fi n hn
    rw [← hb, ← HE.out] at hlen2
    rw [hlen2] at hxn
    have HL2 := Aside0.mk hlen2
    have HE2 := Aside0.mk (show E + (14 + b.length) ≤ 2280 by
      rw [← hlen2]
      have h1 := WR_len ep (bs.take (n + 1)) fi (fun x hx => H100.out x (List.mem_of_mem_take hx))
      rw [List.length_take] at h1
      have := HL20.out
      omega)
    have hb0 : (0 : Int) ≤ (b.length : Int) := by omega
    have HSz := Aside0.mk (fun W => record_Size.calls (b.length : Int) ((b.length : Int) + 14) W (by rw [Pure.Size_f _ ⟨by omega, by omega⟩, if_neg (by omega)]))
    have e9 : wrap64 ((E : Int) + ((b.length : Int) + 14)) = ((E + (14 + b.length) : Nat) : Int) := by rw [Go.Proofs.YtoehjojipmeagaaDoor.E.w64' (by omega) (by omega)]; omega
    have e10 : (E : Int) + ((b.length : Int) + 14) = ((E + (14 + b.length) : Nat) : Int) := by omega
    obtain ⟨E', hE'⟩ : ∃ E' : Nat, E' = E + (14 + b.length) := ⟨_, rfl⟩
    rw [← hE'] at hxn e9 e10 HL2 HE2
    have HNL := Aside0.mk hn
    have g7 : ((E' : Int) != (E' : Int)) = false := by simp
    clear hn hcell hcc hcl hpl hpC hb hlen2 hE' f0 f1 f2
    go_wp2_with (first | (go_at_call 13; refine (HSz.out _).mono ?_; rintro e W5 ⟨rfl, ⟨nd, rfl⟩⟩; refine of_halt ?_))
    unfold G.Halt
    go_wp2
    go_roundg (gk - 1)
    case measure => have := HKQ.out; have := HNL.out; omega
    case rel => exact ⟨n + 1, E', by first | rfl | (congr 1), by first | rfl | (congr 1; assumption) | (rw [e9]), by have := HNL.out; have := HL20.out; omega, HE2.out, ⟨by have := HNL.out; omega⟩, ⟨by have := HKQ.out; have := HNL.out; omega⟩, ⟨HL2.out.symm⟩, ⟨pw_below_drewN HW.out _⟩⟩
end Go.Proofs.YtoehjojipmeagaaDoor.X
