/- colophonlaw18.written by hand. -/
import Derived.Test.YtoehjojipmeagaaDoorHHdr
import Derived.Test.YtoehjojipmeagaaDoorHRows
namespace Go.Proofs.YtoehjojipmeagaaDoor.X
open Go.RowKit Go.Proofs.YtoehjojipmeagaaDoorW.PrintWords Go.Proofs.YtoehjojipmeagaaDoorW.PrintLast Go.Proofs.YtoehjojipmeagaaDoorW.PrintMore Go.Proofs.YtoehjojipmeagaaDoor.G Go.Proofs.YtoehjojipmeagaaDoor.T Go.Proofs.YtoehjojipmeagaaDoor.Pure
set_option linter.unusedVariables false
set_option linter.unusedSimpArgs false

/-- A log's bodies as they are written. -/
def cutBs (Bs : List (List Int)) : List (List Int) := (Bs.take 20).map (·.take 100)
def okLog (ep fi : Int) (bs : List (List Int)) : Prop := bs = [] ∨ (numB ep = true ∧ numB fi = true ∧ fi + (bs.length : Int) - 1 ≤ 2147483647)
/-- Where the first records end. -/
def EN (ep fi : Int) (bs : List (List Int)) (n : Nat) : List Int := (List.range n).map fun j => ((WR ep fi (bs.take (j + 1))).length : Int)
theorem EN_length (ep fi : Int) (bs : List (List Int)) (n : Nat) : (EN ep fi bs n).length = n := by simp [EN]
theorem EN_succ (ep fi : Int) (bs : List (List Int)) (n : Nat) : EN ep fi bs (n + 1) = EN ep fi bs n ++ [((WR ep fi (bs.take (n + 1))).length : Int)] := by rw [EN, List.range_succ, List.map_append]; rfl
theorem WR_snoc (ep : Int) (b : List Int) : ∀ (l : List (List Int)) (sq : Int), WR ep sq (l ++ [b]) = WR ep sq l ++ REC ep (sq + l.length) b
  | [], sq => by simp [WR]
  | a :: l, sq => by
    have e : sq + 1 + (l.length : Int) = sq + ((a :: l).length : Int) := by simp; omega
    rw [List.cons_append, WR, WR, WR_snoc ep b l (sq + 1), List.append_assoc, e]
theorem take_snoc_getD (bs : List (List Int)) (i : Nat) (b : List Int) (hi : i < bs.length) (hb : bs.getD i [] = b) : bs.take (i + 1) = bs.take i ++ [b] := by
  rw [List.take_succ_eq_append_getElem hi, ← hb, List.getD_eq_getElem?_getD, List.getElem?_eq_getElem hi]; rfl
theorem WR_take (ep fi : Int) (bs : List (List Int)) (i : Nat) (b : List Int) (hi : i < bs.length) (hb : bs.getD i [] = b) : WR ep fi (bs.take (i + 1)) = WR ep fi (bs.take i) ++ REC ep (fi + (i : Int)) b := by
  rw [take_snoc_getD bs i b hi hb, WR_snoc, List.length_take, Nat.min_eq_left (by omega)]
theorem WR_len (ep : Int) : ∀ (bs : List (List Int)) (sq : Int), (∀ b ∈ bs, b.length ≤ 100) → (WR ep sq bs).length ≤ bs.length * 114
  | [], _, _ => by simp [WR]
  | b :: bs, sq, h => by
    have := WR_len ep bs (sq + 1) (fun x hx => h x (by simp [hx]))
    have := h b (by simp)
    rw [WR, List.length_append, REC_length]; simp; omega
theorem cutBs_length (Bs : List (List Int)) : (cutBs Bs).length = min 20 Bs.length := by simp [cutBs]
theorem cutBs_100 (Bs : List (List Int)) : ∀ b ∈ cutBs Bs, b.length ≤ 100 := by
  intro b hb
  obtain ⟨x, _, rfl⟩ := List.mem_map.1 hb
  rw [List.length_take]; omega
theorem cutBs_get (Bs : List (List Int)) (i : Nat) (h : i < (cutBs Bs).length) : (cutBs Bs).getD i [] = (Bs.getD i []).take 100 := by
  have h' := h
  rw [cutBs_length] at h'
  rw [cutBs, List.getD_eq_getElem?_getD, List.getElem?_map, List.getElem?_take, if_pos (by omega), List.getElem?_eq_getElem (by omega), List.getD_eq_getElem?_getD, List.getElem?_eq_getElem (by omega)]
  rfl
theorem block_lt {w : World} {p : Addr} {v : Value} (h : w.cell? p = some v) : p.block < w.heap.size := Go.World.block_lt_of_cell? w p h
theorem results_tmp4 {fn : Func} {t u v x : Tmp} (h : fn.results = #[.tmp t, .tmp u, .tmp v, .tmp x]) (tmps : Array Value) (P : Program) (w : World) :
    (results fn tmps).run P w = .ok (.tuple #[tmps.getD t undef, tmps.getD u undef, tmps.getD v undef, tmps.getD x undef]) w := by
  simp [results, h]
theorem w64i {i n : Nat} (h : n ≤ 20) (hi : i ≤ n) : wrap64 ((i : Int) + 1) = ((i + 1 : Nat) : Int) := by unfold wrap64; omega
theorem below_of_box {w W : World} {o : Obj} (h : Below (w.alloc o).heap.size (w.alloc o) W) : Below w.heap.size w W := below_step (below_alloc (Below.refl w.heap.size w) o) h
def WrittenPost (w : World) (ep fi : Int) (bs : List (List Int)) (e : Ending) (w' : World) : Prop :=
  (¬ okLog ep fi bs ∧ e = .returned (.tuple #[.slice none 0 0, .slice none 0 0, .slice none 0 0, .bool false]) ∧ Below w.heap.size w w') ∨
  (okLog ep fi bs ∧ ∃ (v6 v7 v8 : Value) (hs : List Head), e = .returned (.tuple #[v6, v7, v8, .bool true]) ∧ Kd.R (Kd.int .u8) 5 w' w.heap.size (fun _ => True) v6 (WR ep fi bs) ∧ Kd.R (Kd.int .i64) 3 w' w.heap.size (fun _ => True) v7 (EN ep fi bs bs.length) ∧ Kd.R hdr 22 w' w.heap.size (fun _ => True) v8 hs ∧ AllStay w hs bs ∧ Below w.heap.size w w')
set_option maxHeartbeats 16000000 in
set_option maxRecDepth 1000000 in
theorem written_calls (ep fi : Int) (AB : Option Addr) (nB cB : Nat) (Bs : List (List Int)) (w : World) (hT : Tab w) (hfi : -9223372036854775808 ≤ fi ∧ fi ≤ 9223372036854775807) (hl : Bs.length = nB) (hc : nB ≤ cB) (hC : Kd.C (Kd.slice 5 (Kd.int .u8)) w AB nB Bs) :
    Calls Tryd.prog 21 #[.agg #[.int .i64 ep, .int .i64 fi, .slice AB nB cB]] w (WrittenPost w ep fi (cutBs Bs)) := by
  have info5 : (Tryd.prog.info? 5).map (fun i => (i.zero, i.size, i.bytes)) = some (some (.int .u8 0), 1, 1) := by kernel_rfl
  have info3 : (Tryd.prog.info? 3).map (fun i => (i.zero, i.size, i.bytes)) = some (some (.int .i64 0), 1, 8) := by kernel_rfl
  have info22 : (Tryd.prog.info? 22).map (fun i => (i.zero, i.size, i.bytes)) = some (some (.slice none 0 0), 1, 24) := by kernel_rfl
  have HT := Aside0.mk hT
  have HC := Aside0.mk hC
  have HW1 := Aside0.mk hfi
  have HBSL0 := Aside0.mk hl
  obtain ⟨bs, hbs⟩ : ∃ bs, bs = cutBs Bs := ⟨_, rfl⟩
  have HI20 := Aside0.mk (show bs.length ≤ 20 by rw [hbs, cutBs_length]; omega)
  have HBSL := Aside0.mk (show bs.length = min 20 nB by rw [hbs, cutBs_length, hl])
  have HGET := Aside0.mk (fun i (h : i < bs.length) => hbs ▸ cutBs_get Bs i (hbs ▸ h))
  have HWL := Aside0.mk (fun i (h : i ≤ bs.length) => show (WR ep fi (bs.take i)).length ≤ 2280 by
    have := WR_len ep (bs.take i) fi (fun b hb => cutBs_100 Bs b (hbs ▸ List.mem_of_mem_take hb))
    rw [List.length_take] at this
    have := HI20.out
    omega)
  rw [← hbs]
  have HBX := Aside0.mk (heap_alloc_new w (Obj.cells #[.int .i64 ep, .int .i64 fi, .slice AB nB cB] 43))
  clear hT hC hfi hl hc hbs
  go_enter Tryd.func21, Tryd.ntmps21
  go_wp2
  go_loopg [6, 7, 8, 9] (bs.length + 1) (fun kq v6 v7 v8 v9 w' => ∃ (i : Nat) (hs : List Head), v9 = .int .i64 (i : Int) ∧ i ≤ 20 ∧ Aside0 (i ≤ bs.length) ∧ Aside0 (kq + i = bs.length + 1) ∧ Aside0 (0 < i → (1 ≤ ep ∧ ep ≤ 2147483647) ∧ 1 ≤ fi ∧ fi + (i : Int) - 1 ≤ 2147483647) ∧ Aside0 (Kd.R (Kd.int .u8) 5 w' (w.alloc (Obj.cells #[.int .i64 ep, .int .i64 fi, .slice AB nB cB] 43)).heap.size (fun _ => True) v6 (WR ep fi (bs.take i))) ∧ Aside0 (Kd.R (Kd.int .i64) 3 w' (w.alloc (Obj.cells #[.int .i64 ep, .int .i64 fi, .slice AB nB cB] 43)).heap.size (fun _ => True) v7 (EN ep fi bs i)) ∧ Aside0 (Kd.R hdr 22 w' (w.alloc (Obj.cells #[.int .i64 ep, .int .i64 fi, .slice AB nB cB] 43)).heap.size (fun _ => True) v8 hs) ∧ Aside0 (AllStay w hs (bs.take i)) ∧ Aside0 (Below (w.alloc (Obj.cells #[.int .i64 ep, .int .i64 fi, .slice AB nB cB] 43)).heap.size (w.alloc (Obj.cells #[.int .i64 ep, .int .i64 fi, .slice AB nB cB] 43)) w'))
  case atStart => exact ⟨0, [], rfl, by omega, ⟨by omega⟩, ⟨rfl⟩, ⟨fun h => absurd h (by omega)⟩, ⟨by rw [List.take_zero]; exact Kd.R_nil _ _ _ _ _⟩, ⟨Kd.R_nil _ _ _ _ _⟩, ⟨Kd.R_nil _ _ _ _ _⟩, ⟨rfl, fun q hq => by simp at hq⟩, ⟨Below.refl _ _⟩⟩
  case round =>
    obtain ⟨i, hs, rfl, hi20, HI, HK, HP, HO, HE, HH, HST, HB⟩ := hrel
    have hblk : wr.heap[w.heap.size]? = some (Obj.cells #[.int .i64 ep, .int .i64 fi, .slice AB nB cB] 43) := by rw [HB.out.block _ (by rw [World.size_alloc]; omega)]; exact HBX.out
    have hx0 : wr.cell? ⟨w.heap.size, 0, none⟩ = some (.int .i64 ep) := (blk_cell hblk 0)
    have hx1 : wr.cell? ⟨w.heap.size, 1, none⟩ = some (.int .i64 fi) := (blk_cell hblk 1)
    have hx2 : wr.cell? ⟨w.heap.size, 2, none⟩ = some (.slice AB nB cB) := (blk_cell hblk 2)
    clear hblk
    by_cases hi : i < bs.length
    rotate_left
    · have hib : bs.length = i := by have := HI.out; omega
      have hOK : okLog ep fi bs := by
        rcases Nat.eq_zero_or_pos i with h | h
        · exact .inl (List.eq_nil_of_length_eq_zero (by omega))
        · have := HP.out h
          exact .inr ⟨by simp [numB]; omega, by simp [numB]; omega, by omega⟩
      have HFIN := Aside0.mk (show WrittenPost w ep fi bs (.returned (.tuple #[u6, u7, u8, .bool true])) wr from .inr ⟨hOK, u6, u7, u8, hs, rfl, by have := HO.out; rw [← hib, List.take_length] at this; exact Kd.R_lower this (by simp), by rw [hib]; exact Kd.R_lower HE.out (by simp), Kd.R_lower HH.out (by simp), by have := HST.out; rwa [← hib, List.take_length] at this, below_of_box HB.out⟩)
      by_cases h1 : i < nB
      · have a1 : decide ((i : Int) < (nB : Int)) = true := decide_eq_true (by omega)
        have a2 : decide (i < nB) = true := decide_eq_true h1
        have a3 : decide ((i : Int) < 20) = false := decide_eq_false (by have := HBSL.out; omega)
        have a4 : decide (i < 20) = false := decide_eq_false (by have := HBSL.out; omega)
        clear hi hib hOK h1 hi20
        go_wp2
        ((try simp only [Exit.inBlock, Exit.then]); refine bodyPost_ret (results_tmp4 rfl _ _ _) rfl ?_)
        exact HFIN.out
      · have a1 : decide ((i : Int) < (nB : Int)) = false := decide_eq_false (by omega)
        have a2 : decide (i < nB) = false := decide_eq_false h1
        clear hi hib hOK h1 hi20
        go_wp2
        ((try simp only [Exit.inBlock, Exit.then]); refine bodyPost_ret (results_tmp4 rfl _ _ _) rfl ?_)
        exact HFIN.out
    have HI2 := Aside0.mk hi
    have hin : i < nB ∧ i < 20 := by have := HBSL.out; omega
    have a1 : decide ((i : Int) < (nB : Int)) = true := decide_eq_true (by omega)
    have a2 : decide (i < nB) = true := decide_eq_true hin.1
    have a3 : decide ((i : Int) < 20) = true := decide_eq_true (by omega)
    have a4 : decide (i < 20) = true := decide_eq_true hin.2
    obtain ⟨ad, cs, hAB, hcl, hK, hcc⟩ := Kd.C_get HC.out ([] : List Int) (i : Int) (by omega) (by omega)
    subst hAB
    rw [Int.toNat_natCast] at hK hcc
    obtain ⟨PA, pc, rfl, hpl, hpC⟩ := hK
    have hcell : w.cell? (ad.add i) = some (.slice PA (Bs.getD i []).length pc) := by
      have := hcc 0 _ rfl
      rwa [show i * (Kd.slice 5 (Kd.int .u8)).sz + 0 = i by show i * 1 + 0 = i; omega] at this
    have hBg := HGET.out i hi
    obtain ⟨b, hb⟩ : ∃ b, b = Bs.getD i [] := ⟨_, rfl⟩
    rw [← hb] at hcell hpl hpC hBg
    have hcellr : wr.cell? (ad.add i) = some (.slice PA b.length pc) := (by rw [(below_of_box HB.out).cell (p := ad.add i) (block_lt hcell)]; exact hcell)
    have q1 : ((i : Int) < (nB : Int)) = True := eq_true (by omega)
    have q2 : (i < nB) = True := eq_true hin.1
    clear hcc hcl hcell hb hin hi
    by_cases hbig : 100 < b.length
    · have b1 : decide (100 < (b.length : Int)) = true := decide_eq_true (by omega)
      have b2 : decide (100 < b.length) = true := decide_eq_true hbig
      have c1 : ((100 : Int) ≤ (pc : Int)) = True := eq_true (by omega)
      have c2 : (100 ≤ pc) = True := eq_true (by omega)
      obtain ⟨B', hB'⟩ : ∃ B', B' = b.take 100 := ⟨_, rfl⟩
      have HBL := Aside0.mk (show B'.length = 100 by rw [hB', List.length_take]; omega)
      have HPC := Aside0.mk (show B'.length ≤ pc by rw [HBL.out]; omega)
      have HL100 := Aside0.mk (show 100 ≤ 100 by omega)
      have HBI := Aside0.mk (show bs.getD i [] = B' by rw [hBg, hB'])
      have HRow := Aside0.mk (fun W (hW : Below w.heap.size w W) => show Kd.C (Kd.int .u8) W PA 100 B' by have := Kd.C_take (m := 100) (Kd.C_below hpC hW) (by omega); rwa [← hB', HBL.out] at this)
      clear hbig hB' hpl hpC hBg
      have HCb := Aside0.mk (fun W (hW : Below w.heap.size w W) => HRow.out W hW)
      have fbd : -9223372036854775808 ≤ fi := HW1.out.1
      by_cases h3 : 2147483647 - (i : Int) < fi
      · have b3 : decide (2147483647 - (i : Int) < fi) = true := decide_eq_true h3
        have hno : ¬ okLog ep fi bs := by
          rintro (h | ⟨_, _, h⟩)
          · have := HI2.out; rw [h] at this; simp at this
          · have := HI2.out; omega
        have HNO := Aside0.mk hno
        clear hno h3 fbd
        go_wp2
        ((try simp only [Exit.inBlock, Exit.then]); refine bodyPost_ret (results_tmp4 rfl _ _ _) rfl ?_)
        exact .inl ⟨HNO.out, rfl, below_of_box HB.out⟩
      have b3 : decide (2147483647 - (i : Int) < fi) = false := decide_eq_false h3
      have e3 : wrap64 (fi + (i : Int)) = fi + (i : Int) := Go.Proofs.YtoehjojipmeagaaDoor.E.w64' (by omega) (by omega)
      have HBytes := Aside0.mk (fun W hT hC => record_Bytes.calls ep (fi + (i : Int)) PA pc B' (WB ep (fi + (i : Int)) B').1 (WB ep (fi + (i : Int)) B').2 W hT hC HPC.out (Bytes_f ep (fi + (i : Int)) B'))
      rw [show B'.length = 100 from HBL.out] at HBytes
      by_cases hn : [ep, fi + (i : Int)].all numB = true
      rotate_left
      · rw [show WB ep (fi + (i : Int)) B' = ([], 2) by rw [WB, if_neg hn]] at HBytes
        have hno : ¬ okLog ep fi bs := by
          rintro (h | ⟨h1, h2, h⟩)
          · have := HI2.out; rw [h] at this; simp at this
          · apply hn
            simp [numB] at h1 h2 ⊢
            omega
        have HNO := Aside0.mk hno
        clear hno h3 fbd hn
        go_wp2_with (first | (go_at_call 11; refine (HBytes.out _ (Kd.C_below HT.out (below_of_box HB.out)) (HCb.out _ (below_of_box HB.out))).mono ?_; rintro e W3 ⟨v11, rfl, ho11, hb11⟩; have HB3 := Aside0.mk (below_step (below_of_box HB.out) hb11); clear ho11 hb11))
        ((try simp only [Exit.inBlock, Exit.then]); refine bodyPost_ret (results_tmp4 rfl _ _ _) rfl ?_)
        exact .inl ⟨HNO.out, rfl, HB3.out⟩
      rw [show WB ep (fi + (i : Int)) B' = (REC ep (fi + (i : Int)) B', 0) by rw [WB, if_pos hn, if_pos (by rw [HBL.out]; have := HL100.out; omega)]; rfl] at HBytes
      have HN := Aside0.mk (show (1 ≤ ep ∧ ep ≤ 2147483647) ∧ 1 ≤ fi + (i : Int) ∧ fi + (i : Int) ≤ 2147483647 by simpa [numB] using hn)
      clear hn h3 fbd
      have HRL := Aside0.mk (REC_length ep (fi + (i : Int)) B')
      obtain ⟨rc, hrc⟩ : ∃ rc, rc = REC ep (fi + (i : Int)) B' := ⟨_, rfl⟩
      rw [← hrc] at HBytes HRL
      have HRC := Aside0.mk hrc
      clear hrc
      go_wp2_with (first | (go_at_call 11; refine (HBytes.out _ (Kd.C_below HT.out (below_of_box HB.out)) (HCb.out _ (below_of_box HB.out))).mono ?_; rintro e W3 ⟨v11, rfl, ho11, hb11⟩; refine of_halt ?_))
      unfold G.Halt
      obtain ⟨A11, c11, rfl, hc11, hC11⟩ := Kd.R_reads ho11
      have HB3 := Aside0.mk (show Below (w.alloc (Obj.cells #[.int .i64 ep, .int .i64 fi, .slice (some ad) nB cB] 43)).heap.size (w.alloc (Obj.cells #[.int .i64 ep, .int .i64 fi, .slice (some ad) nB cB] 43)) W3 from below_step HB.out hb11)
      have HO3 := Aside0.mk (Kd.R_below HO.out hb11)
      have HE3 := Aside0.mk (Kd.R_below HE.out hb11)
      have HH3 := Aside0.mk (Kd.R_below HH.out hb11)
      have HC11 := Aside0.mk hC11
      clear ho11 hb11 hc11 hC11 HO HE HH e3
      go_wp2_with (first | ((with_reducible refine gate_dst (N := 54) rfl ?_); refine of_halt ?_))
      unfold G.Halt
      refine Kd.R_append_row (w0 := w.alloc (Obj.cells #[.int .i64 ep, .int .i64 fi, .slice (some ad) nB cB] 43)) (Value.int .u8) 0 (w.alloc (Obj.cells #[.int .i64 ep, .int .i64 fi, .slice (some ad) nB cB] 43)).heap.size rfl (.tmp 52) (.tmp 53) 22 5 (.int .u8 0) 1 rfl Tryd.underlying22 info5 rfl (by omega) u6 (WR ep fi (bs.take i)) rc A11 rc.length c11 (fun _ => True) rfl rfl (fun _ _ => trivial) HO3.out HC11.out HB3.out HB3.out.size (by have := HWL.out i HI.out; have := HI.out; have := HI20.out; have := HRL.out; have := HBL.out; have := HL100.out; omega) ?_
      intro v6 W4 ho6 hb6 hg6 hat6
      obtain ⟨o6, ho6'⟩ : ∃ o6, o6 = WR ep fi (bs.take i) ++ rc := ⟨_, rfl⟩
      rw [← ho6'] at ho6
      have HO6E := Aside0.mk (show WR ep fi (bs.take (i + 1)) = o6 by rw [ho6', HRC.out]; exact WR_take ep fi bs i B' HI2.out HBI.out)
      clear ho6'
      obtain ⟨A6, c6, rfl⟩ := Kd.R_slice ho6
      have HO4 := Aside0.mk ho6
      have HB4 := Aside0.mk hb6
      have HE4 := Aside0.mk (R_grown_ty HE3.out hg6 (own_ty HO3.out) (by decide))
      have HH4 := Aside0.mk (R_grown_ty HH3.out hg6 (own_ty HO3.out) (by decide))
      clear ho6 hb6 hg6 hat6 HO3 HE3 HH3 HB3 HC11
      go_wp2_with (first | ((with_reducible refine gate_dst (N := 59) rfl ?_); refine of_halt ?_))
      unfold G.Halt
      refine Kd.R_append (Kd.int .i64) (w0 := w.alloc (Obj.cells #[.int .i64 ep, .int .i64 fi, .slice (some ad) nB cB] 43)) (w.alloc (Obj.cells #[.int .i64 ep, .int .i64 fi, .slice (some ad) nB cB] 43)).heap.size rfl (.tmp 55) (.tmp 58) 44 3 (.int .i64 0) 8 rfl Tryd.underlying44 info3 rfl (by decide) (by omega) u7 (EN ep fi bs i) (o6.length : Int) [.int .i64 (o6.length : Int)] (fun _ => True) (fun _ => False) rfl rfl rfl (fun _ hk => hk.elim) (fun _ _ => trivial) HE4.out HB4.out HB4.out.size (by rw [EN_length]; have := HI.out; have := HI20.out; omega) ?_
      intro v7 W5 ho7 hb7 hg7 hat7
      have HE5 := Aside0.mk ho7
      have HB5 := Aside0.mk hb7
      have HO5 := Aside0.mk (R_grown_ty HO4.out hg7 (own_ty HE4.out) (by decide))
      have HH5 := Aside0.mk (R_grown_ty HH4.out hg7 (own_ty HE4.out) (by decide))
      clear ho7 hb7 hg7 hat7 HO4 HE4 HH4 HB4
      go_wp2_with (first | ((with_reducible refine gate_dst (N := 63) rfl ?_); refine of_halt ?_))
      unfold G.Halt
      refine Kd.R_append hdr (w0 := w.alloc (Obj.cells #[.int .i64 ep, .int .i64 fi, .slice (some ad) nB cB] 43)) (w.alloc (Obj.cells #[.int .i64 ep, .int .i64 fi, .slice (some ad) nB cB] 43)).heap.size rfl (.tmp 60) (.tmp 62) 36 22 (.slice none 0 0) 24 rfl Tryd.underlying36 info22 rfl (by decide) (by omega) u8 hs (PA, 100, pc) [.slice PA 100 pc] (fun _ => True) (fun _ => False) rfl rfl rfl (fun _ hk => hk.elim) (fun _ _ => trivial) HH5.out HB5.out HB5.out.size (by have := HST.out.1; rw [List.length_take] at this; have := HI20.out; omega) ?_
      intro v8 W6 ho8 hb8 hg8 hat8
      have HH6 := Aside0.mk ho8
      have HB6 := Aside0.mk hb8
      have HO6 := Aside0.mk (show Kd.R (Kd.int .u8) 5 W6 (w.alloc (Obj.cells #[.int .i64 ep, .int .i64 fi, .slice (some ad) nB cB] 43)).heap.size (fun _ => True) (.slice A6 o6.length c6) (WR ep fi (bs.take (i + 1))) by rw [HO6E.out]; exact R_grown_ty HO5.out hg8 (own_ty HH5.out) (by decide))
      have HE6 := Aside0.mk (show Kd.R (Kd.int .i64) 3 W6 (w.alloc (Obj.cells #[.int .i64 ep, .int .i64 fi, .slice (some ad) nB cB] 43)).heap.size (fun _ => True) v7 (EN ep fi bs (i + 1)) by rw [EN_succ, HO6E.out]; exact R_grown_ty HE5.out hg8 (own_ty HH5.out) (by decide))
      have HS6 := Aside0.mk (show AllStay w (hs ++ [(PA, 100, pc)]) (bs.take (i + 1)) by rw [take_snoc_getD bs i B' HI2.out HBI.out]; exact HST.out.snoc ⟨HBL.out.symm, HBL.out ▸ HPC.out, fun W hW => by rw [HBL.out]; exact HRow.out W hW⟩)
      clear ho8 hb8 hg8 hat8 HO5 HE5 HH5 HB5
      go_wp2
      go_roundg (gk - 1)
      case measure => have := HK.out; have := HI2.out; omega
      case rel => exact ⟨i + 1, hs ++ [(PA, 100, pc)], by first | rfl | (congr 1), by have := HI2.out; have := HI20.out; omega, ⟨by have := HI2.out; omega⟩, ⟨by have := HK.out; have := HI2.out; omega⟩, ⟨fun _ => by have hn := HN.out; have hp := HP.out; clear HN HP; rcases Nat.eq_zero_or_pos i with h | h <;> (try have := hp h) <;> omega⟩, HO6, HE6, HH6, HS6, HB6⟩
    · have b1 : decide (100 < (b.length : Int)) = false := decide_eq_false (by omega)
      have b2 : decide (100 < b.length) = false := decide_eq_false hbig
      obtain ⟨B', hB'⟩ : ∃ B', B' = b := ⟨_, rfl⟩
      subst hB'
      have HBL := Aside0.mk (show B'.length = B'.length from rfl)
      have HPC := Aside0.mk hpl
      have HL100 := Aside0.mk (show B'.length ≤ 100 by omega)
      have HBI := Aside0.mk (show bs.getD i [] = B' by rw [hBg, List.take_of_length_le (by omega)])
      have HRow := Aside0.mk (fun W (hW : Below w.heap.size w W) => Kd.C_below hpC hW)
      clear hbig hpl hpC hBg
      have HCb := Aside0.mk (fun W (hW : Below w.heap.size w W) => HRow.out W hW)
      have fbd : -9223372036854775808 ≤ fi := HW1.out.1
      by_cases h3 : 2147483647 - (i : Int) < fi
      · have b3 : decide (2147483647 - (i : Int) < fi) = true := decide_eq_true h3
        have hno : ¬ okLog ep fi bs := by
          rintro (h | ⟨_, _, h⟩)
          · have := HI2.out; rw [h] at this; simp at this
          · have := HI2.out; omega
        have HNO := Aside0.mk hno
        clear hno h3 fbd
        go_wp2
        ((try simp only [Exit.inBlock, Exit.then]); refine bodyPost_ret (results_tmp4 rfl _ _ _) rfl ?_)
        exact .inl ⟨HNO.out, rfl, below_of_box HB.out⟩
      have b3 : decide (2147483647 - (i : Int) < fi) = false := decide_eq_false h3
      have e3 : wrap64 (fi + (i : Int)) = fi + (i : Int) := Go.Proofs.YtoehjojipmeagaaDoor.E.w64' (by omega) (by omega)
      have HBytes := Aside0.mk (fun W hT hC => record_Bytes.calls ep (fi + (i : Int)) PA pc B' (WB ep (fi + (i : Int)) B').1 (WB ep (fi + (i : Int)) B').2 W hT hC HPC.out (Bytes_f ep (fi + (i : Int)) B'))
      by_cases hn : [ep, fi + (i : Int)].all numB = true
      rotate_left
      · rw [show WB ep (fi + (i : Int)) B' = ([], 2) by rw [WB, if_neg hn]] at HBytes
        have hno : ¬ okLog ep fi bs := by
          rintro (h | ⟨h1, h2, h⟩)
          · have := HI2.out; rw [h] at this; simp at this
          · apply hn
            simp [numB] at h1 h2 ⊢
            omega
        have HNO := Aside0.mk hno
        clear hno h3 fbd hn
        go_wp2_with (first | (go_at_call 11; refine (HBytes.out _ (Kd.C_below HT.out (below_of_box HB.out)) (HCb.out _ (below_of_box HB.out))).mono ?_; rintro e W3 ⟨v11, rfl, ho11, hb11⟩; have HB3 := Aside0.mk (below_step (below_of_box HB.out) hb11); clear ho11 hb11))
        ((try simp only [Exit.inBlock, Exit.then]); refine bodyPost_ret (results_tmp4 rfl _ _ _) rfl ?_)
        exact .inl ⟨HNO.out, rfl, HB3.out⟩
      rw [show WB ep (fi + (i : Int)) B' = (REC ep (fi + (i : Int)) B', 0) by rw [WB, if_pos hn, if_pos (by rw [HBL.out]; have := HL100.out; omega)]; rfl] at HBytes
      have HN := Aside0.mk (show (1 ≤ ep ∧ ep ≤ 2147483647) ∧ 1 ≤ fi + (i : Int) ∧ fi + (i : Int) ≤ 2147483647 by simpa [numB] using hn)
      clear hn h3 fbd
      have HRL := Aside0.mk (REC_length ep (fi + (i : Int)) B')
      obtain ⟨rc, hrc⟩ : ∃ rc, rc = REC ep (fi + (i : Int)) B' := ⟨_, rfl⟩
      rw [← hrc] at HBytes HRL
      have HRC := Aside0.mk hrc
      clear hrc
      go_wp2_with (first | (go_at_call 11; refine (HBytes.out _ (Kd.C_below HT.out (below_of_box HB.out)) (HCb.out _ (below_of_box HB.out))).mono ?_; rintro e W3 ⟨v11, rfl, ho11, hb11⟩; refine of_halt ?_))
      unfold G.Halt
      obtain ⟨A11, c11, rfl, hc11, hC11⟩ := Kd.R_reads ho11
      have HB3 := Aside0.mk (show Below (w.alloc (Obj.cells #[.int .i64 ep, .int .i64 fi, .slice (some ad) nB cB] 43)).heap.size (w.alloc (Obj.cells #[.int .i64 ep, .int .i64 fi, .slice (some ad) nB cB] 43)) W3 from below_step HB.out hb11)
      have HO3 := Aside0.mk (Kd.R_below HO.out hb11)
      have HE3 := Aside0.mk (Kd.R_below HE.out hb11)
      have HH3 := Aside0.mk (Kd.R_below HH.out hb11)
      have HC11 := Aside0.mk hC11
      clear ho11 hb11 hc11 hC11 HO HE HH e3
      go_wp2_with (first | ((with_reducible refine gate_dst (N := 54) rfl ?_); refine of_halt ?_))
      unfold G.Halt
      refine Kd.R_append_row (w0 := w.alloc (Obj.cells #[.int .i64 ep, .int .i64 fi, .slice (some ad) nB cB] 43)) (Value.int .u8) 0 (w.alloc (Obj.cells #[.int .i64 ep, .int .i64 fi, .slice (some ad) nB cB] 43)).heap.size rfl (.tmp 52) (.tmp 53) 22 5 (.int .u8 0) 1 rfl Tryd.underlying22 info5 rfl (by omega) u6 (WR ep fi (bs.take i)) rc A11 rc.length c11 (fun _ => True) rfl rfl (fun _ _ => trivial) HO3.out HC11.out HB3.out HB3.out.size (by have := HWL.out i HI.out; have := HI.out; have := HI20.out; have := HRL.out; have := HBL.out; have := HL100.out; omega) ?_
      intro v6 W4 ho6 hb6 hg6 hat6
      obtain ⟨o6, ho6'⟩ : ∃ o6, o6 = WR ep fi (bs.take i) ++ rc := ⟨_, rfl⟩
      rw [← ho6'] at ho6
      have HO6E := Aside0.mk (show WR ep fi (bs.take (i + 1)) = o6 by rw [ho6', HRC.out]; exact WR_take ep fi bs i B' HI2.out HBI.out)
      clear ho6'
      obtain ⟨A6, c6, rfl⟩ := Kd.R_slice ho6
      have HO4 := Aside0.mk ho6
      have HB4 := Aside0.mk hb6
      have HE4 := Aside0.mk (R_grown_ty HE3.out hg6 (own_ty HO3.out) (by decide))
      have HH4 := Aside0.mk (R_grown_ty HH3.out hg6 (own_ty HO3.out) (by decide))
      clear ho6 hb6 hg6 hat6 HO3 HE3 HH3 HB3 HC11
      go_wp2_with (first | ((with_reducible refine gate_dst (N := 59) rfl ?_); refine of_halt ?_))
      unfold G.Halt
      refine Kd.R_append (Kd.int .i64) (w0 := w.alloc (Obj.cells #[.int .i64 ep, .int .i64 fi, .slice (some ad) nB cB] 43)) (w.alloc (Obj.cells #[.int .i64 ep, .int .i64 fi, .slice (some ad) nB cB] 43)).heap.size rfl (.tmp 55) (.tmp 58) 44 3 (.int .i64 0) 8 rfl Tryd.underlying44 info3 rfl (by decide) (by omega) u7 (EN ep fi bs i) (o6.length : Int) [.int .i64 (o6.length : Int)] (fun _ => True) (fun _ => False) rfl rfl rfl (fun _ hk => hk.elim) (fun _ _ => trivial) HE4.out HB4.out HB4.out.size (by rw [EN_length]; have := HI.out; have := HI20.out; omega) ?_
      intro v7 W5 ho7 hb7 hg7 hat7
      have HE5 := Aside0.mk ho7
      have HB5 := Aside0.mk hb7
      have HO5 := Aside0.mk (R_grown_ty HO4.out hg7 (own_ty HE4.out) (by decide))
      have HH5 := Aside0.mk (R_grown_ty HH4.out hg7 (own_ty HE4.out) (by decide))
      clear ho7 hb7 hg7 hat7 HO4 HE4 HH4 HB4
      go_wp2_with (first | ((with_reducible refine gate_dst (N := 63) rfl ?_); refine of_halt ?_))
      unfold G.Halt
      refine Kd.R_append hdr (w0 := w.alloc (Obj.cells #[.int .i64 ep, .int .i64 fi, .slice (some ad) nB cB] 43)) (w.alloc (Obj.cells #[.int .i64 ep, .int .i64 fi, .slice (some ad) nB cB] 43)).heap.size rfl (.tmp 60) (.tmp 62) 36 22 (.slice none 0 0) 24 rfl Tryd.underlying36 info22 rfl (by decide) (by omega) u8 hs (PA, B'.length, pc) [.slice PA B'.length pc] (fun _ => True) (fun _ => False) rfl rfl rfl (fun _ hk => hk.elim) (fun _ _ => trivial) HH5.out HB5.out HB5.out.size (by have := HST.out.1; rw [List.length_take] at this; have := HI20.out; omega) ?_
      intro v8 W6 ho8 hb8 hg8 hat8
      have HH6 := Aside0.mk ho8
      have HB6 := Aside0.mk hb8
      have HO6 := Aside0.mk (show Kd.R (Kd.int .u8) 5 W6 (w.alloc (Obj.cells #[.int .i64 ep, .int .i64 fi, .slice (some ad) nB cB] 43)).heap.size (fun _ => True) (.slice A6 o6.length c6) (WR ep fi (bs.take (i + 1))) by rw [HO6E.out]; exact R_grown_ty HO5.out hg8 (own_ty HH5.out) (by decide))
      have HE6 := Aside0.mk (show Kd.R (Kd.int .i64) 3 W6 (w.alloc (Obj.cells #[.int .i64 ep, .int .i64 fi, .slice (some ad) nB cB] 43)).heap.size (fun _ => True) v7 (EN ep fi bs (i + 1)) by rw [EN_succ, HO6E.out]; exact R_grown_ty HE5.out hg8 (own_ty HH5.out) (by decide))
      have HS6 := Aside0.mk (show AllStay w (hs ++ [(PA, B'.length, pc)]) (bs.take (i + 1)) by rw [take_snoc_getD bs i B' HI2.out HBI.out]; exact HST.out.snoc ⟨rfl, HPC.out, fun W hW => HRow.out W hW⟩)
      clear ho8 hb8 hg8 hat8 HO5 HE5 HH5 HB5
      go_wp2
      go_roundg (gk - 1)
      case measure => have := HK.out; have := HI2.out; omega
      case rel => exact ⟨i + 1, hs ++ [(PA, B'.length, pc)], by first | rfl | (congr 1), by have := HI2.out; have := HI20.out; omega, ⟨by have := HI2.out; omega⟩, ⟨by have := HK.out; have := HI2.out; omega⟩, ⟨fun _ => by have hn := HN.out; have hp := HP.out; clear HN HP; rcases Nat.eq_zero_or_pos i with h | h <;> (try have := hp h) <;> omega⟩, HO6, HE6, HH6, HS6, HB6⟩
end Go.Proofs.YtoehjojipmeagaaDoor.X
