/- The law RecordTurns, walked by hand. -/
import Derived.Test.YtoehjojipmeagaaDoorLogT
import Derived.Test.YtoehjojipmeagaaDoorHScan
import Derived.Test.YtoehjojipmeagaaDoorHSame
import Derived.Test.YtoehjojipmeagaaDoorHWorks
import Derived.Deep.RegionHeld3
namespace Go.Proofs.YtoehjojipmeagaaDoor.X
open Go.RowKit Go.Proofs.YtoehjojipmeagaaDoorW.PrintWords Go.Proofs.YtoehjojipmeagaaDoorW.PrintLast Go.Proofs.YtoehjojipmeagaaDoorW.PrintMore Go.Proofs.YtoehjojipmeagaaDoor.G Go.Proofs.YtoehjojipmeagaaDoor.T Go.Proofs.YtoehjojipmeagaaDoor.Pure Go.Proofs.YtoehjojipmeagaaDoor.E
set_option linter.unusedVariables false
set_option linter.unusedSimpArgs false
def colophonlaw18_RecordTurns.Pure : Prop := colophonlaw18_works.f = some true
set_option maxHeartbeats 16000000 in
set_option maxRecDepth 100000 in
theorem colophonlaw18_RecordTurns.walk (P : colophonlaw18_RecordTurns.Pure) (ep fi : Int) (AB : Option Addr) (nB cB : Nat) (Bs : List (List Int)) (a1 a2 : Int) (w : World) (hT : Tab w) (wep : (Lit.int .i64 ep).wf = true) (wfi : (Lit.int .i64 fi).wf = true) (hBs : Bs.length = nB ∧ nB ≤ cB ∧ Kd.C (Kd.slice 5 (Kd.int .u8)) w AB nB Bs ∧ ∀ b ∈ Bs, ∀ n ∈ b, (Lit.int .u8 n).wf = true) (w1 : (Lit.int .i64 a1).wf = true) (w2 : (Lit.int .u8 a2).wf = true) :
    Calls Tryd.prog 9 #[.agg #[.int .i64 ep, .int .i64 fi, .slice AB nB cB], .int .i64 a1, .int .u8 a2] w fun e w' => e = .returned (.bool true) ∧ Below w.heap.size w w' := by
  obtain ⟨hB1, hB2, hB3, hB4⟩ := hBs
  have hfi : -9223372036854775808 ≤ fi ∧ fi ≤ 9223372036854775807 := wf_i64 wfi
  have HB4 := Aside0.mk (fun b (hb : b ∈ cutBs Bs) => show Bytes b by
    obtain ⟨x, hx, rfl⟩ := List.mem_map.1 hb
    exact (bytes_wf (hB4 x (List.mem_of_mem_take hx))).take 100)
  have HT := Aside0.mk hT
  obtain ⟨o, ho⟩ : ∃ o, o = (Obj.cells #[.int .i64 ep, .int .i64 fi, .slice AB nB cB] 43) := ⟨_, rfl⟩
  have HBX := Aside0.mk (heap_alloc_new w o)
  have HWk := Aside0.mk (colophonlaw18_works.calls true (w.alloc o) (Kd.C_alloc hT o) rfl)
  have HWn := Aside0.mk (fun W (hW : Below w.heap.size w W) => written_no ep fi AB nB cB Bs W (Kd.C_below hT hW) hfi hB1 hB2 (Kd.C_below hB3 hW))
  have HWy := Aside0.mk (fun W (hW : Below w.heap.size w W) => written_yes ep fi AB nB cB Bs W (Kd.C_below hT hW) hfi hB1 hB2 (Kd.C_below hB3 hW))
  have HL := Aside0.mk (cutBs_length Bs)
  have H100 := Aside0.mk (cutBs_100 Bs)
  obtain ⟨bs, hbs⟩ : ∃ bs, bs = cutBs Bs := ⟨_, rfl⟩
  rw [← hbs] at HWn HWy HB4 HL H100
  have HOx := Aside0.mk ho
  clear hT hB1 hB2 hB3 hB4 wfi wep hfi hbs
  rw [ho] at HWk HBX
  by_cases hok : okLog ep fi bs
  rotate_left
  · -- none
    have HNO := Aside0.mk hok
    clear hok
    clear ho HOx
    go_enter Tryd.func9, Tryd.ntmps9
    go_wp2_with (first | (go_at_call 15; refine HWk.out.mono ?_; rintro e W1 ⟨rfl, hb1⟩; refine of_halt ?_))
    unfold G.Halt
    have HB1 := Aside0.mk (below_of_box hb1)
    have hblk : W1.heap[w.heap.size]? = some _ := (hb1.block _ (by rw [World.size_alloc]; omega)).trans HBX.out
    have hx0 : W1.cell? ⟨w.heap.size, 0, none⟩ = some (.int .i64 ep) := (blk_cell hblk 0)
    have hx1 : W1.cell? ⟨w.heap.size, 1, none⟩ = some (.int .i64 fi) := (blk_cell hblk 1)
    have hx2 : W1.cell? ⟨w.heap.size, 2, none⟩ = some (.slice AB nB cB) := (blk_cell hblk 2)
    clear hb1 hblk
    go_wp2_with (first | (go_at_call 21; refine (HWn.out _ HB1.out HNO.out).mono ?_; rintro e W2 ⟨rfl, hb2⟩; refine of_halt ?_))
    unfold G.Halt
    have HB2 := Aside0.mk (below_step HB1.out hb2)
    clear hb2 hx0 hx1 hx2
    go_wp2
    go_ret
    exact ⟨rfl, HB2.out⟩
  clear ho HOx
  have HOK := Aside0.mk hok
  clear hok
  go_enter Tryd.func9, Tryd.ntmps9
  go_wp2_with (first | (go_at_call 15; refine HWk.out.mono ?_; rintro e W1 ⟨rfl, hb1⟩; refine of_halt ?_))
  unfold G.Halt
  have HB1 := Aside0.mk (below_of_box hb1)
  have hblk : W1.heap[w.heap.size]? = some _ := (hb1.block _ (by rw [World.size_alloc]; omega)).trans HBX.out
  have HS1 := Aside0.mk (show w.heap.size < W1.heap.size from lt_of_some hblk)
  have hx0 : W1.cell? ⟨w.heap.size, 0, none⟩ = some (.int .i64 ep) := (blk_cell hblk 0)
  have hx1 : W1.cell? ⟨w.heap.size, 1, none⟩ = some (.int .i64 fi) := (blk_cell hblk 1)
  have hx2 : W1.cell? ⟨w.heap.size, 2, none⟩ = some (.slice AB nB cB) := (blk_cell hblk 2)
  have HX0 := Aside0.mk hx0
  have HX1 := Aside0.mk hx1
  clear hb1 hblk
  go_wp2_with (first | (go_at_call 21; refine (HWy.out _ HB1.out HOK.out).mono ?_; rintro e W2 ⟨v6, v7, v8, hs, rfl, ho6, ho7, ho8, hst, hb2⟩; refine of_halt ?_))
  unfold G.Halt
  have HB2 := Aside0.mk (below_step HB1.out hb2)
  have HB12 := Aside0.mk hb2
  obtain ⟨A6, c6, rfl, hc6, hC6⟩ := Kd.R_reads ho6
  obtain ⟨A7, c7, rfl, hc7, hC7⟩ := Kd.R_reads ho7
  obtain ⟨A8, c8, rfl, hc8, hC8'⟩ := Kd.R_reads ho8
  have hC8 := C_of_stay hC8' hst hb2
  rw [EN_length] at hC7 hc7
  rw [hst.1] at hc8 hC8
  clear hx0 hx1 hx2
  have hx0 : W2.cell? ⟨w.heap.size, 0, none⟩ = some (.int .i64 ep) := by rw [hb2.cell (p := ⟨w.heap.size, 0, none⟩) HS1.out]; exact HX0.out
  have hx1 : W2.cell? ⟨w.heap.size, 1, none⟩ = some (.int .i64 fi) := by rw [hb2.cell (p := ⟨w.heap.size, 1, none⟩) HS1.out]; exact HX1.out
  simp only [EN_length, hst.1]
  have HC6 := Aside0.mk hC6
  have HC7 := Aside0.mk hC7
  have HC8 := Aside0.mk hC8
  have HD := Aside0.mk (And.intro hc6 (And.intro hc7 hc8))
  have HO6 := Aside0.mk ho6
  have HO8 := Aside0.mk ho8
  have HST := Aside0.mk hst
  clear hC6 hC7 hC8 hC8' hc6 hc7 hc8 ho6 ho7 ho8 hst hb2 HX0 HX1
  obtain ⟨out, hout⟩ : ∃ out, out = WR ep fi bs := ⟨_, rfl⟩
  rw [← hout] at HC6 HD HO6 ⊢
  have HOUT := Aside0.mk hout
  have HOL := Aside0.mk (show out.length ≤ 2280 by rw [hout]; have h1 := WR_len ep bs fi H100.out; have h2 := HL.out; omega)
  clear hout
  by_cases hbe : bs = []
  · have f0 : ((bs.length : Int) == 0) = true := by rw [hbe]; rfl
    have f1 : (bs.length = 0) = True := eq_true (by rw [hbe]; rfl)
    have f2 : ((bs.length : Int) = 0) = True := eq_true (by rw [hbe]; rfl)
    have HBE := Aside0.mk hbe
    clear hbe
    go_wp2
    go_ret
    exact ⟨rfl, HB2.out⟩
  have hlen : 0 < bs.length := List.length_pos_iff.2 hbe
  have f0 : ((bs.length : Int) == 0) = false := beq_eq_false_iff_ne.2 (by omega)
  have f1 : (bs.length = 0) = False := eq_false (by omega)
  have f2 : ((bs.length : Int) = 0) = False := eq_false (by omega)
  have HOk := Aside0.mk (Ok.of HOK.out hbe H100.out HB4.out)
  clear hlen hbe
  have hlen : 0 < bs.length := List.length_pos_iff.2 HOk.out.ne
  obtain ⟨ad7, e7, _⟩ := Kd.at_int HC7.out 0 (by omega) (by omega)
  subst e7
  have hop : 0 < out.length := by have := WR_length_le ep bs fi; rw [← HOUT.out] at this; omega
  obtain ⟨g6, cap6, eg, hg6, _⟩ := Kd.R_form HO6.out hop
  injection eg with ea eb ec
  subst ea ec
  have HA2 := Aside0.mk (wf_u8' w2)
  have HBO := Aside0.mk (show Bytes out by rw [HOUT.out]; exact HOk.out.bytes)
  have HG6 := Aside0.mk hg6
  obtain ⟨k, hk0, hk⟩ := placeL a1 out.length hop (by have := HOL.out; omega)
  have e2 : IntKind.u64.wrap (out.length : Int) = (out.length : Int) := u64nL _ (by have := HOL.out; omega)
  have f3 : ((out.length : Int) == 0) = false := beq_eq_false_iff_ne.2 (by omega)
  have f4 : ((out.length : Int) = 0) = False := eq_false (by omega)
  have f5 : (out.length = 0) = False := eq_false (by omega)
  have HK0 := Aside0.mk hk0
  have HL20 := Aside0.mk (show bs.length ≤ 20 by rw [HL.out]; omega)
  clear hk0 hlen hop hg6
  go_upto_block 0 with (fail)
  simp only [hk]
  clear hk e2 f0 f1 f2 f3 f4 f5
  go_wp2
  go_loopg [12, 13] (bs.length + 1) (fun kq v12 v13 w' => ∃ n f : Nat, v12 = .int .i64 (n : Int) ∧ v13 = .int .i64 (f : Int) ∧ n ≤ 20 ∧ Aside0 (n < bs.length) ∧ Aside0 (kq + n = bs.length + 1) ∧ Aside0 ((WR ep fi (bs.take n)).length ≤ k) ∧ Aside0 (f = (WR ep fi (bs.take n)).length) ∧ Aside0 (w' = W2))
  case atStart => exact ⟨0, 0, rfl, rfl, by omega, ⟨List.length_pos_iff.2 HOk.out.ne⟩, ⟨rfl⟩, ⟨by simp [WR]⟩, ⟨by simp [WR]⟩, ⟨rfl⟩⟩
  case round =>
    obtain ⟨n, f, rfl, rfl, hn20, HN, HKQ, HLE, HFR, ⟨rfl⟩⟩ := hrel
    have hn := HN.out
    have hxn := EN_cell HC7.out n hn
    have q1 : ((n : Int) < (bs.length : Int)) = True := eq_true (by omega)
    have q2 : (n < bs.length) = True := eq_true hn
    obtain ⟨E1, hE1⟩ : ∃ E1 : Nat, E1 = (WR ep fi (bs.take (n + 1))).length := ⟨_, rfl⟩
    rw [← hE1] at hxn
    by_cases hle : E1 ≤ k
    rotate_left
    · have b1 : decide ((E1 : Int) ≤ (k : Int)) = false := decide_eq_false (by omega)
      have b2 : decide (E1 ≤ k) = false := decide_eq_false hle
      have HLT := Aside0.mk (show n < bs.length ∧ k < (WR ep fi (bs.take (n + 1))).length from ⟨hn, by omega⟩)
      clear hn hle hE1
      have hLT : n < bs.length ∧ k < (WR ep fi (bs.take (n + 1))).length := HLT.out
      obtain ⟨F, hF⟩ : ∃ F : Nat, F = (WR ep fi (bs.take n)).length := ⟨_, rfl⟩
      have eF : wrap64 ((k : Int) - (F : Int)) = (k : Int) - (F : Int) := Go.Proofs.YtoehjojipmeagaaDoor.E.w64' (by have := HK0.out; have := HOL.out; have := HLE.out; omega) (by have := HK0.out; have := HOL.out; omega)
      have HF := Aside0.mk hF
      have HFE := Aside0.mk (show f = F by rw [hF]; exact HFR.out)
      have hfF : f = F := HFE.out
      clear hF hLT
      subst hfF
      by_cases hsm : (k : Int) - (f : Int) < 2
      · have z1 : decide ((k : Int) - (f : Int) < 2) = true := decide_eq_true hsm
        clear hsm
        go_wp2
        go_ret
        exact ⟨rfl, HB2.out⟩
      have z1 : decide ((k : Int) - (f : Int) < 2) = false := decide_eq_false hsm
      by_cases hby : a2 = 0
      · have z2 : (a2 == 0) = true := by simpa using hby
        have HBY := Aside0.mk hby
        clear hsm hby
        go_wp2
        go_ret
        exact ⟨rfl, HB2.out⟩
      have z2 : (a2 == 0) = false := by simpa using hby
      obtain ⟨hcy, hfy⟩ := Kd.R_celln 0 HO6.out (k : Int) (by omega) (by have := HK0.out; omega)
      rw [Int.toNat_natCast] at hcy hfy
      obtain ⟨v, hv⟩ : ∃ v, v = Go.bits .xor .u8 (rdOf 0 out (k : Int)) a2 := ⟨_, rfl⟩
      have hrb := HBO.out (rd out (k : Int)) (Go.Proofs.YtoehjojipmeagaaDoor.E.mem_rd out k HK0.out)
      have hvb := xor_byte (rdOf 0 out (k : Int)) a2 hrb HA2.out hby
      rw [← hv] at hvb
      have hsc := HOk.out.turned n k HLT.out.1 (by rw [← HF.out]; omega) HLT.out.2 v hvb.1 (by rw [← HOUT.out]; exact hvb.2)
      rw [← HOUT.out, ← HF.out] at hsc
      obtain ⟨out', hout'⟩ : ∃ out', out' = out.set k v := ⟨_, rfl⟩
      rw [← hout'] at hsc
      have hol : out'.length = out.length := by rw [hout', List.length_set]
      have hR' := Kd.R_putn HO6.out (k : Int) v
      rw [Int.toNat_natCast, ← hout'] at hR'
      have HR' := Aside0.mk hR'
      have HOL' := Aside0.mk hol
      have HBB := Aside0.mk (show Bytes out' by
        rw [hout']
        intro x hx
        rcases List.mem_or_eq_of_mem_set hx with hx | rfl
        · exact HBO.out x hx
        · exact hvb.1)
      have HSc := Aside0.mk (fun W hT hC hc => Scan_calls (some ⟨g6, 0, none⟩) c6 out' ep fi W hT hC hc HBB.out (by rw [hol]; have := HOL.out; omega))
      rw [hsc, hol] at HSc
      have HTk := Aside0.mk (show (bs.take n).length = n by rw [List.length_take]; have := HLT.out.1; omega)
      obtain ⟨ks, hks⟩ := Ev.rounds (same_f (bs.take n) (by rw [HTk.out]; omega))
      have HSame := Aside0.mk (fun W A c c' hC hc hC' hc' => colophonref18_Same.calls ks A c (bs.take n) A8 c' (bs.take n) true W hC hc hC' hc' hks)
      rw [HTk.out] at HSame
      have g3 : ((n : Int) ≤ (c8 : Int)) = True := eq_true (by have := HLT.out.1; have := HD.out.2.2; omega)
      have g4 : (n ≤ c8) = True := eq_true (by have := HLT.out.1; have := HD.out.2.2; omega)
      have g9 : (0 ≤ (n : Int)) = True := eq_true (by omega)
      have HV := Aside0.mk hv
      have k1 : ((k : Int) < (out.length : Int)) = True := eq_true (by have := HK0.out; omega)
      have k2 : (k < out.length) = True := eq_true HK0.out
      clear hsm hby hsc hks hout' hol hR' hv hvb hrb
      have hne : g6 ≠ w.heap.size := by have := HG6.out; have := HS1.out; omega
      obtain ⟨cells6, hh6⟩ := own_ty HO6.out g6 (by simp [Value.ownBlock])
      have hR2 := HR'.out
      have HW3 := HB2.out.setCell (p := ⟨g6, k, none⟩) (show w.heap.size ≤ g6 by have := HG6.out; have := HS1.out; omega) (Value.int .u8 v)
      have HW13 := HB12.out.setCell (p := ⟨g6, k, none⟩) HG6.out (Value.int .u8 v)
      have hR8 := Kd.R_set HO8.out hh6 (by decide) k (Value.int .u8 v)
      have hy0 := (World.cell?_setCell_other _ ⟨g6, k, none⟩ ⟨w.heap.size, 0, none⟩ (Value.int .u8 v) (fun e => hne (by injection e))).trans hx0
      have hy1 := (World.cell?_setCell_other _ ⟨g6, k, none⟩ ⟨w.heap.size, 1, none⟩ (Value.int .u8 v) (fun e => hne (by injection e))).trans hx1
      rw [HV.out] at HW3 HW13 hR8 hy0 hy1
      have hR3 : Kd.R (Kd.int .u8) 5 (World.setCell wr ⟨g6, k, none⟩ (Value.int .u8 (Go.bits .xor .u8 (rdOf 0 out (k : Int)) a2))) W1.heap.size (fun _ => True) (.slice (some ⟨g6, 0, none⟩) out.length c6) out' := by rw [← HV.out]; exact hR2
      have HR3 := Aside0.mk hR3
      have HY0 := Aside0.mk hy0
      have HY1 := Aside0.mk hy1
      have HWW3 := Aside0.mk HW3
      have HWW13 := Aside0.mk HW13
      have HR8 := Aside0.mk hR8
      clear hne hh6 hR2 HW3 HW13 hR8 hR3 hy0 hy1
      go_upto_region 14 with (fail)
      clear hx0 hx1 hcy hfy
      have hy0 := HY0.out
      have hy1 := HY1.out
      generalize hw3 : World.setCell wr ⟨g6, k, none⟩ (Value.int .u8 (Go.bits .xor .u8 (rdOf 0 out (k : Int)) a2)) = W3 at *
      have HC3 := Aside0.mk (show Kd.C (Kd.int .u8) W3 (some ⟨g6, 0, none⟩) out.length out' ∧ out.length ≤ c6 by
        obtain ⟨A, c, e, hc, hC⟩ := Kd.R_reads HR3.out
        injection e with e1 e2 e3
        subst e1 e3
        rw [HOL'.out] at hC hc
        exact ⟨hC, hc⟩)
      have HC38 := Aside0.mk (show Kd.C (Kd.slice 5 (Kd.int .u8)) W3 A8 bs.length bs by
        obtain ⟨A, c, e, hc, hC⟩ := Kd.R_reads HR8.out
        injection e with e1 e2 e3
        subst e1 e3
        have := C_of_stay hC HST.out HWW13.out
        rwa [HST.out.1] at this)
      have HT8 := Aside0.mk (show Kd.C (Kd.slice 5 (Kd.int .u8)) W3 A8 n (bs.take n) by have := Kd.C_take HC38.out (Nat.le_of_lt HLT.out.1); rwa [List.length_take, Nat.min_eq_left (Nat.le_of_lt HLT.out.1)] at this)
      clear hw3
      go_wp2_with (first | (go_at_call 18; refine (HSc.out _ (Kd.C_below HT.out HWW3.out) HC3.out.1 HC3.out.2).mono ?_; rintro e W5 ⟨A9, c9, rfl, hc9, hC9, hb9⟩; refine of_halt ?_))
      unfold G.Halt
      have HB9 := Aside0.mk (show Below W3.heap.size W3 W5 from hb9)
      have HC9 := Aside0.mk (show Kd.C (Kd.slice 5 (Kd.int .u8)) W5 A9 n (bs.take n) by have := hC9; rwa [HTk.out] at this)
      have HD9 := Aside0.mk (show n ≤ c9 by have := hc9; rwa [HTk.out] at this)
      first | rw [HTk.out] | simp only [List.length_take] | skip
      have hmin : min n bs.length = n := Nat.min_eq_left (Nat.le_of_lt HLT.out.1)
      clear hb9 hC9 hc9 hy0 hy1
      go_wp2_with (first | (go_at_call 20; refine (HSame.out _ _ _ _ HC9.out HD9.out (Kd.C_below HT8.out HB9.out) (by have := HLT.out.1; have := HD.out.2.2; omega)).mono ?_; rintro e W10 ⟨rfl, ⟨nd, rfl⟩⟩))
      go_ret
      exact ⟨rfl, below_step (below_step HWW3.out HB9.out) (pw_below_drewN (Below.refl _ _) nd)⟩
    have b1 : decide ((E1 : Int) ≤ (k : Int)) = true := decide_eq_true (by omega)
    have b2 : decide (E1 ≤ k) = true := decide_eq_true hle
    have HE1 := Aside0.mk (show (WR ep fi (bs.take (n + 1))).length ≤ k by omega)
    have HE2 := Aside0.mk hE1
    have HNL := Aside0.mk (show n + 1 < bs.length by
      rcases Nat.lt_or_ge (n + 1) bs.length with h | h
      · exact h
      · have e : n + 1 = bs.length := by omega
        have := HK0.out
        rw [hE1, e, List.take_length, ← HOUT.out] at hle
        omega)
    clear hn hle hE1
    go_wp2
    go_roundg (gk - 1)
    case measure => have := HKQ.out; have := HNL.out; omega
    case rel => exact ⟨n + 1, E1, by first | rfl | (congr 1), rfl, by have := HNL.out; have := HL20.out; omega, HNL, ⟨by have := HKQ.out; have := HNL.out; omega⟩, HE1, HE2, ⟨rfl⟩⟩
end Go.Proofs.YtoehjojipmeagaaDoor.X
