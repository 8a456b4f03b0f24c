/- Slots: Save, done. By hand (printed by gen_save.py). -/
import Derived.Test.YthpholjelfajiaaDoorHSlSv
import Derived.Test.YthpholjelfajiaaDoorHSlW
namespace Go.Proofs.YthpholjelfajiaaDoor.G
open Go.RowKit Go.Shelf Go.Proofs.YthpholjelfajiaaDoor.X Go.Proofs.YthpholjelfajiaaDoor.E Go.Proofs.YthpholjelfajiaaDoor.C Go.Proofs.YthpholjelfajiaaDoor.T Go.Proofs.YthpholjelfajiaaDoorW.PrintWords Go.Proofs.YthpholjelfajiaaDoorW.PrintLast Go.Proofs.YthpholjelfajiaaDoorW.PrintMore Go.Proofs.YthpholjelfajiaaDoor.Dsk Go.Proofs.YthpholjelfajiaaDoor.Sl
set_option linter.unusedVariables false
set_option linter.unusedSimpArgs false
/-- What a slot is behind a Save into it. -/
def svSlot (d : Dk) (fr ch k : Nat) (l0 : List Int) (e : Int) (s : Slot) : Slot := if (saveD d fr ch k l0 e).2 = 0 then (true, e, l0) else s
/-- What a Save leaves that was tried. -/
def SaveP (F H : Nat → Prop) (g gd fr ch : Nat) (s0 s1 : Slot) (x : Dk × Int) (W : World) (e : Ending) (w' : World) : Prop :=
  e = .returned (.int .i64 x.2) ∧ ∃ F' H' v0 v1, Disk F' gd x.1 w' ∧ SlB H' g gd fr ch s0 s1 v0 v1 w' ∧ (∀ k, F' k → F k ∨ W.heap.size ≤ k) ∧ (∀ k, H' k → H k ∨ W.heap.size ≤ k) ∧ (∀ k, F' k → ¬ H' k) ∧ Kp (fun k => F k ∨ H k) W w'
/-- What the rounds of Save keep. -/
def SvLoop (F : Nat → Prop) (bE bS bA g gd : Nat) (x : (Dk × Int) × Nat) (w6 w' : World) : Prop := ∃ F', Disk F' gd x.1.1 w' ∧ Cap bE bS bA g gd x.1.2 x.2 w' ∧ Free F' bE bS bA g ∧ (∀ k, F' k → F k ∨ w6.heap.size ≤ k) ∧ Kp (fun k => F k ∨ k = bE ∨ k = bA) w6 w'
theorem SvLoop.step {F F1 : Nat → Prop} {bE bS bA g gd : Nat} {x : (Dk × Int) × Nat} {w6 wr w' : World} {e : Ending} (hF : ∀ k, F1 k → F k ∨ w6.heap.size ≤ k) (hk : Kp (fun k => F k ∨ k = bE ∨ k = bA) w6 wr) (h : CapPost F1 bE bS bA g gd x wr e w') : SvLoop F bE bS bA g gd x w6 w' := by
  obtain ⟨_, F2, hD, hC, hf, hF2, hk2⟩ := h
  refine ⟨F2, hD, hC, hf, fun k q => (hF2 k q).elim (hF k) (fun z => .inr (Nat.le_trans hk.size z)), hk.trans hk2 (fun q hq hz => ?_)⟩
  rcases hz with z | z
  · exact (hF q z).elim .inl (fun y => by omega)
  · exact .inr z
/-- A cell that a block has. -/
theorem cell1 {W : World} {b : Nat} {t : TypeId} {v : Value} (h : W.heap[b]? = some (.cells #[v] t (0, 0))) : W.cell? ⟨b, 0, none⟩ = some v := (blk_cell h 0).trans rfl
set_option maxHeartbeats 16000000 in
set_option maxRecDepth 100000 in
theorem Save_do0 (F H : Nat → Prop) (g gd fr ch : Nat) (s0 s1 : Slot) (v0 v1 : Value) (d : Dk) (A : Option Addr) (c : Nat) (l0 : List Int) (e : Int) (W : World) (h : SvIn F H g gd fr ch s0 s1 v0 v1 d A c l0 W) (he : lastE s0 s1 < e ∧ e ≤ 2147483647) (hl : l0.length ≤ 54 * ch) (hwh : which s0 s1 ≠ 0) :
    Calls Tryd.prog 10 #[.pointer (some ⟨g, 0, none⟩), .slice A l0.length c, .int .i64 e] W (SaveP F H g gd fr ch (svSlot d fr ch 0 l0 e s0) s1 (saveD d fr ch 0 l0 e) W) := by
  have HS := Aside0.mk h
  have hlast := lastE_le h.sl.ok0 h.sl.ok1
  obtain ⟨le, hle⟩ : ∃ le, lastE s0 s1 = le := ⟨_, rfl⟩
  rw [hle] at he hlast
  have hb0 := below_alloc (Below.refl W.heap.size W) (.cells #[.pointer (some ⟨g, 0, none⟩)] 26)
  have hk0 := blk_new W (.cells #[.pointer (some ⟨g, 0, none⟩)] 26)
  obtain ⟨W0, hW0⟩ : ∃ W0, W.alloc (.cells #[.pointer (some ⟨g, 0, none⟩)] 26) = W0 := ⟨_, rfl⟩
  obtain ⟨bS, hbS⟩ : ∃ bS, W.heap.size = bS := ⟨_, rfl⟩
  have HL := Aside0.mk hle
  have HW0 := Aside0.mk hW0
  have HBS := Aside0.mk hbS
  rw [hW0] at hb0 hk0
  rw [hbS] at hk0
  have H0 := Aside0.mk (And.intro hb0 hk0)
  have hc := cells9 (h.sl.below hb0).blk
  have hg0 := hc.1
  have hq0 : W0.cell? ⟨bS, 0, none⟩ = some (.pointer (some ⟨g, 0, none⟩)) := cell1 hk0
  have f1 : decide (e ≤ le) = false := decide_eq_false (by omega)
  have f2 : decide (2147483647 < e) = false := decide_eq_false (by omega)
  obtain ⟨c54, hc54⟩ : ∃ c : Nat, c = 54 * ch := ⟨_, rfl⟩
  have hw54 : wrap64 (54 * (ch : Int)) = (c54 : Int) := by have := h.sl.ch_; unfold wrap64; omega
  have f3 : decide ((c54 : Int) < (l0.length : Int)) = false := decide_eq_false (by omega)
  have f3' : decide (c54 < l0.length) = false := decide_eq_false (by omega)
  have HE := Aside0.mk (And.intro (show 1 ≤ e ∧ e ≤ 2147483647 from by omega) (And.intro (show l0.length ≤ 221184 from by have := h.sl.ch_; omega) hl))
  obtain ⟨wh, hwh'⟩ : ∃ wh, which s0 s1 = wh := ⟨_, rfl⟩
  have HWH := Aside0.mk hwh'
  rw [hwh'] at hwh
  have fw : (wh == 0) = false := by rw [beq_eq_false_iff_ne]; exact hwh
  have fw2 : (wh = 0) = False := eq_false hwh
  clear h hle he hb0 hk0 hW0 hc hc54 hl hlast hwh' hwh hbS
  go_enter Tryd.func10, Tryd.ntmps10
  go_upto_region 1 with (fail)
  rw [HW0.out, HBS.out]
  go_wp2_with (first | (go_at_call 8; refine (Latest_c H g gd fr ch s0 s1 v0 v1 W0 (HS.out.sl.below H0.out.1)).mono ?_; rintro e1 w1 ⟨v1_, rfl, hR1, hb1⟩; refine of_halt ?_))
  unfold G.Halt
  rw [HL.out]
  have HB1 := Aside0.mk (H0.out.1.trans (hb1.mono H0.out.1.size))
  have HK1 := Aside0.mk ((hb1.block _ (blk_lt H0.out.2)).trans H0.out.2)
  have hq1 := cell1 HK1.out
  have hg2 := (cells9 (HS.out.sl.below HB1.out).blk).2.2.1
  clear hR1 hb1 hq0 hg0
  go_wp2_with (first | (go_at_call 9; refine (Which_c H g gd fr ch s0 s1 v0 v1 w1 (HS.out.sl.below HB1.out)).mono ?_; rintro e2 w2 ⟨rfl, hb2⟩; refine of_halt ?_))
  unfold G.Halt
  rw [HWH.out]
  have HB2 := Aside0.mk (HB1.out.trans (hb2.mono HB1.out.size))
  have HK2 := Aside0.mk ((hb2.block _ (blk_lt HK1.out)).trans HK1.out)
  have hq2 := cell1 HK2.out
  have HCUT := Aside0.mk (chunk_Cut.calls A c l0 e (chunks l0 e) 0 w2 (HS.out.tab w2 (Kp.of_below HB2.out)) (HS.out.row w2 (Kp.of_below HB2.out)) HS.out.cap (by unfold chunk_Cut.f; rw [if_pos HE.out.1, if_pos HE.out.2.1]))
  clear hb2 hq1 hg2
  go_wp2_with (first | (go_at_call 25; refine (HCUT.out).mono ?_; rintro e3 w3 ⟨v3, rfl, hR3, hb3⟩; refine of_halt ?_))
  unfold G.Halt
  have HB3 := Aside0.mk (HB2.out.trans (hb3.mono HB2.out.size))
  have HK3 := Aside0.mk ((hb3.block _ (blk_lt HK2.out)).trans HK2.out)
  obtain ⟨A3, c3, rfl⟩ := Kd.R_slice (Kd.S_R hR3)
  have HS3 := Aside0.mk (And.intro (Kd.R_bound (Kd.S_R hR3)) HB2.out.size)
  obtain ⟨n, hn⟩ : ∃ n, (chunks l0 e).length = n := ⟨_, rfl⟩
  have HNN := Aside0.mk (And.intro hn (show n ≤ 4096 from by rw [← hn, chunks_length]; have := HE.out.2.1; omega))
  rw [hn]
  clear hn
  have hq3 := cell1 HK3.out
  clear hR3 hb3 hq2 f1 f2 f3 f3' fw fw2
  go_upto_region 12 with (fail)
  have hb4 := below_alloc (Below.refl w3.heap.size w3) (.cells #[.int .i64 0] 37)
  have hk4 := blk_new w3 (.cells #[.int .i64 0] 37)
  obtain ⟨W4, hW4⟩ : ∃ W4, w3.alloc (.cells #[.int .i64 0] 37) = W4 := ⟨_, rfl⟩
  obtain ⟨bE, hbE⟩ : ∃ bE, w3.heap.size = bE := ⟨_, rfl⟩
  rw [hW4] at hb4 hk4
  rw [hW4]
  rw [hbE] at hk4
  rw [hbE]
  have HBE := Aside0.mk hbE
  have H4 := Aside0.mk (And.intro hb4 (And.intro hk4 (And.intro ((hb4.block _ (blk_lt HK3.out)).trans HK3.out) (HB3.out.trans (hb4.mono HB3.out.size)))))
  have he4 := cell1 hk4
  have hq4 := cell1 H4.out.2.2.1
  have HBC := Aside0.mk (begin_c g fr ch 0 W4 (fun V hV => by
    have := cells9 ((HS.out.sl.below H4.out.2.2.2).below hV).blk
    exact ⟨this.2.1, this.2.2.1⟩) HS.out.sl.fr_ HS.out.sl.ch_ (by decide))
  clear hb4 hk4 hW4 hbE hq3
  go_wp2_with (first | (go_at_call 26; refine (HBC.out).mono ?_; rintro e5 w5 ⟨rfl, hb5⟩; refine of_halt ?_))
  unfold G.Halt
  have H5 := Aside0.mk (And.intro (H4.out.2.2.2.trans (hb5.mono H4.out.2.2.2.size)) (And.intro ((hb5.block _ (blk_lt H4.out.2.1)).trans H4.out.2.1) (And.intro ((hb5.block _ (blk_lt H4.out.2.2.1)).trans H4.out.2.2.1) (H4.out.1.trans (hb5.mono H4.out.1.size)))))
  have hbn : bg fr ch 0 ≤ 20000 := by have := HS.out.sl.fr_; have := HS.out.sl.ch_; unfold bg; omega
  obtain ⟨bn, hbn'⟩ : ∃ bn, bg fr ch 0 = bn := ⟨_, rfl⟩
  rw [hbn'] at hbn
  have w1_ : wrap64 ((bn : Int) + 1) = ((bn + 1 : Nat) : Int) := by unfold wrap64; omega
  rw [hbn']
  have HBN := Aside0.mk (And.intro hbn' hbn)
  clear hb5 hbn' hbn he4 hq4
  go_upto_region 15 with (fail)
  have hb6 := below_alloc (Below.refl w5.heap.size w5) (.cells #[.int .i64 ((bn + 1 : Nat) : Int)] 3)
  have hk6 := blk_new w5 (.cells #[.int .i64 ((bn + 1 : Nat) : Int)] 3)
  obtain ⟨w6, hW6⟩ : ∃ w6, w5.alloc (.cells #[.int .i64 ((bn + 1 : Nat) : Int)] 3) = w6 := ⟨_, rfl⟩
  obtain ⟨bA, hbA⟩ : ∃ bA, w5.heap.size = bA := ⟨_, rfl⟩
  rw [show ((bn : Int) + 1) = ((bn + 1 : Nat) : Int) from rfl, hW6, hbA]
  rw [hW6] at hb6 hk6
  rw [hbA] at hk6
  have HBA := Aside0.mk hbA
  have HB6 := Aside0.mk (H5.out.1.trans (hb6.mono H5.out.1.size))
  have hC6 : Cap bE bS bA g gd 0 (bn + 1) w6 := by
    have g1 := blk_lt HS.out.sl.blk
    have e1 := HBS.out
    have e2 := HBE.out
    have e3 := HBA.out
    have l1 := blk_lt HK3.out
    have l2 := blk_lt H5.out.2.1
    refine ⟨(hb6.block _ (blk_lt H5.out.2.1)).trans H5.out.2.1, (hb6.block _ (blk_lt H5.out.2.2.1)).trans H5.out.2.2.1, hk6, (cells9 (HS.out.sl.below HB6.out).blk).1, ?_, ?_, ?_, ?_, ?_⟩
    · omega
    · omega
    · have := blk_lt H5.out.2.2.1; omega
    · have := HB3.out.size; omega
    · have := H5.out.1.size; omega
  have hF6 : Free F bE bS bA g := by
    have e1 := HBS.out
    have e2 := HBE.out
    have e3 := HBA.out
    have l1 := HB3.out.size
    have l2 := H5.out.1.size
    have hlt := HS.out.dk.2
    exact ⟨fun q => by have := hlt _ q; omega, fun q => by have := hlt _ q; omega, fun q => by have := hlt _ q; omega, fun q => HS.out.ap _ q HS.out.sl.hg⟩
  have hR6 : ∀ V, Kp (fun k => F k ∨ k = bE ∨ k = bA) w6 V → Kd.C (Kd.slice 5 (Kd.int .u8)) V A3 n (chunks l0 e) := fun V hV => by
    have hr : (Kd.slice 5 (Kd.int .u8)).R 22 w6 w2.heap.size _ (.slice A3 (chunks l0 e).length c3) (chunks l0 e) := Kd.R_step HS3.out.1 (fun k _ hlt => ((H5.out.2.2.2.trans (hb6.mono H5.out.2.2.2.size)).block k hlt))
    have hr2 := hV.R hr (fun k hk hf => by
      have e2 := HBE.out
      have e3 := HBA.out
      have l2 := H5.out.2.2.2.size
      have l3 := HS3.out.2
      have hlt := HS.out.dk.2
      rcases hf with q | q | q
      · have := hlt _ q; omega
      · omega
      · omega)
    have := (Kd.R_reads' hr2).2.2
    rw [HNN.out.1] at this
    exact this
  have H6 := Aside0.mk (And.intro hC6 (And.intro hF6 (And.intro hR6 (HS.out.dk.below HB6.out))))
  clear hb6 hk6 hW6 hbA hC6 hF6 hR6 w1_
  go_wp2
  go_loopg [70] (n + 1) (fun kq v70 w' => ∃ i : Nat, v70 = .int .i64 (i : Int) ∧ Aside0 (i ≤ n ∧ kq + i = n + 1) ∧ Aside0 (SvLoop F bE bS bA g gd (wrs ((d, 0), bn + 1) ((chunks l0 e).take i)) w6 w'))
  case atStart => exact ⟨0, rfl, ⟨by omega⟩, ⟨F, H6.out.2.2.2, H6.out.1, H6.out.2.1, fun k hk => .inl hk, Kp.refl _ _⟩⟩
  case round =>
    obtain ⟨i, rfl, HI, HV⟩ := hrel
    obtain ⟨x, hx⟩ : ∃ x, wrs ((d, 0), bn + 1) ((chunks l0 e).take i) = x := ⟨_, rfl⟩
    rw [hx] at HV
    obtain ⟨F1, hD1, hC1, hf1, hF1, hk1⟩ := HV.out
    have hrm : Room x.1.1 (10000 - i) := by
      rw [← hx]
      exact Room.wrs _ _ (by
        have hl : ((chunks l0 e).take i).length = i := by rw [List.length_take, HNN.out.1]; have := HI.out.1; omega
        rw [hl, show 10000 - i + i = 10000 by have := HI.out.1; have := HNN.out.2; omega]
        exact HS.out.rm)
    have hnx : x.2 ≤ 100000 := by
      rw [← hx]
      have h1 := wrs_next ((chunks l0 e).take i) ((d, 0), bn + 1)
      have hl : ((chunks l0 e).take i).length ≤ n := by rw [List.length_take, HNN.out.1]; omega
      have := HNN.out.2
      have := HBN.out.2
      have h2 : ((d, (0 : Int)), bn + 1).2 = bn + 1 := rfl
      omega
    have HX := Aside0.mk (And.intro hx (And.intro hrm hnx))
    have H1 := Aside0.mk (And.intro hD1 (And.intro hC1 (And.intro hf1 (And.intro hF1 hk1))))
    clear hx hD1 hC1 hf1 hF1 hk1 hrm hnx HV
    by_cases hi : i < n
    · have y1_ : ((i : Int) < (n : Int)) = True := eq_true (by omega)
      have y2_ : (i < n) = True := eq_true hi
      have y3_ : wrap64 ((i : Int) + 1) = ((i + 1 : Nat) : Int) := by have := HNN.out.2; unfold wrap64; omega
      have HI2 := Aside0.mk hi
      obtain ⟨ad, ys, Kr, ck, hA, hys, hcell, hck, hrow⟩ := hdr_at (H6.out.2.2.1 wr H1.out.2.2.2.2) i hi
      subst hA
      have HYS := Aside0.mk (And.intro hys (And.intro hck hrow))
      clear hi hys hck hrow
      go_wp2_with (first | (go_at_call 27; refine (wr_c F1 bE bS bA g gd x.1.2 x.2 x.1.1 Kr ys.length ck ys wr H1.out.1 HX.out.2.1.small H1.out.2.1 H1.out.2.2.1 HX.out.2.2 HYS.out.2.2).mono ?_; rintro e8 w8 ⟨rfl, h8⟩; refine of_halt ?_))
      unfold G.Halt
      have h8' : SvLoop F bE bS bA g gd (wrs ((d, 0), bn + 1) ((chunks l0 e).take (i + 1))) w6 w8 := by
        rw [wrs_succ _ _ i ys HYS.out.1, HX.out.1]
        exact SvLoop.step (e := .returned (.tuple #[])) H1.out.2.2.2.1 H1.out.2.2.2.2 ⟨rfl, h8⟩
      have HV8 := Aside0.mk h8'
      clear h8 h8' hcell
      go_wp2
      go_roundg (gk - 1)
      case measure => have := HI.out; omega
      case rel => exact ⟨i + 1, by first | rw [y3_] | rfl | simp, ⟨by have := HI.out; have := HI2.out; omega⟩, HV8⟩
    · have y1_ : ((i : Int) < (n : Int)) = False := eq_false (by omega)
      have y2_ : (i < n) = False := eq_false hi
      have hin : i = n := by have := HI.out.1; omega
      subst hin
      have hx0 : wrs ((d, 0), bn + 1) (chunks l0 e) = x := by
        rw [← HX.out.1, List.take_of_length_le (by rw [HNN.out.1]; omega)]
      have hsv : saveD d fr ch 0 l0 e = fl1 (st1 (fl1 x.1, bn) (headB ((0 : Nat) : Int) e l0.length)).1 := by
        unfold saveD
        rw [HBN.out.1, hx0]
      obtain ⟨q, hq⟩ : ∃ q, st1 (fl1 x.1, bn) (headB ((0 : Nat) : Int) e l0.length) = q := ⟨_, rfl⟩
      rw [hq] at hsv
      have HSV := Aside0.mk (And.intro hsv hq)
      have hrm1 : Room (fl1 x.1).1 5000 := Room.fl1 (by
        have h1 := HX.out.2.1
        have h2 := HNN.out.2
        exact ⟨by have := h1.steps; omega, h1.left, by have := h1.waits; omega, h1.lies⟩)
      have hrm2 : Room q.1.1 4999 := by rw [← hq]; exact Room.st1 (x := (fl1 x.1, bn)) hrm1 _
      have HRM := Aside0.mk (And.intro hrm1 hrm2)
      clear hi hx0 hsv hq hrm1 hrm2
      go_wp2_with (first | (go_at_call 29; refine (fl_c F1 bE bS bA g gd x.1.2 x.2 x.1.1 wr H1.out.1 HX.out.2.1.small H1.out.2.1 H1.out.2.2.1).mono ?_; rintro e8 w8 ⟨rfl, h8⟩; refine of_halt ?_))
      unfold G.Halt
      have h8' : SvLoop F bE bS bA g gd (fl1 x.1, x.2) w6 w8 := SvLoop.step (e := .returned (.tuple #[])) H1.out.2.2.2.1 H1.out.2.2.2.2 ⟨rfl, h8⟩
      obtain ⟨F2, hD2, hC2, hf2, hF2, hk2⟩ := h8'
      have H2 := Aside0.mk (And.intro hD2 (And.intro hC2 (And.intro hf2 (And.intro hF2 hk2))))
      have hq8 := hC2.cells.2.1
      have HKW := Aside0.mk (show Kp F W w8 from (Kp.of_below HB6.out).trans hk2 (fun z hz hq => by
        have e2 := HBE.out
        have e3 := HBA.out
        have l1 := HB3.out.size
        have l2 := H5.out.1.size
        rcases hq with y | y | y
        · exact y
        · omega
        · omega))
      clear h8 hD2 hC2 hf2 hF2 hk2
      have HBC2 := Aside0.mk (begin_c g fr ch 0 w8 (fun V hV => by
        have := cells9 ((HS.out.sl.kp HKW.out (fun z hz hq => HS.out.ap z hq hz)).below hV).blk
        exact ⟨this.2.1, this.2.2.1⟩) HS.out.sl.fr_ HS.out.sl.ch_ (by decide))
      go_wp2_with (first | (go_at_call 26; refine (HBC2.out).mono ?_; rintro e9 w9 ⟨rfl, hb9⟩; refine of_halt ?_))
      unfold G.Halt
      rw [HBN.out.1]
      have hC9 := H2.out.2.1.kp (Kp.of_below (F := fun _ => False) hb9) id id id id
      have HC9 := Aside0.mk hC9
      have HB9 := Aside0.mk hb9
      have ha9 := hC9.cells.2.2.1
      have hz9 := hC9.cells.2.2.2.2.2
      clear hC9 hb9 hq8
      go_upto_region 24 with (fail)
      obtain ⟨W10, hW10⟩ : ∃ W10, w9.setCell ⟨bA, 0, none⟩ (.int .i64 (bn : Int)) = W10 := ⟨_, rfl⟩
      rw [hW10]
      have hC10 : Cap bE bS bA g gd (fl1 x.1).2 bn W10 := by rw [← hW10]; exact HC9.out.setA bn
      have hk10 : Kp (fun k => F k ∨ k = bE ∨ k = bA) w6 W10 := by
        rw [← hW10]
        exact (H2.out.2.2.2.2.trans (Kp.of_below (F := fun k => F k ∨ k = bE ∨ k = bA) HB9.out) (fun _ _ z => z)).set (p := ⟨bA, 0, none⟩) (.inl (.inr (.inr rfl))) _
      have hD10 : Disk F2 gd (fl1 x.1).1 W10 := by
        rw [← hW10]
        exact (H2.out.1.below HB9.out).kp ((Kp.refl (fun k => k = bA) w9).set (p := ⟨bA, 0, none⟩) (.inl rfl) _) (fun k hk e => H2.out.2.2.1.a (e ▸ hk))
      have hFW : ∀ V, Kp (fun k => F k ∨ k = bE ∨ k = bA) w6 V → Kp F W V := fun V hV => (Kp.of_below HB6.out).trans hV (fun z hz hq => by
          have e2 := HBE.out
          have e3 := HBA.out
          have l1 := HB3.out.size
          have l2 := H5.out.1.size
          rcases hq with y | y | y
          · exact y
          · omega
          · omega)
      have HFW := Aside0.mk hFW
      have HT10 := Aside0.mk (HS.out.tab W10 ((hFW W10 hk10).mono (fun z _ hz => .inl hz)))
      have H10 := Aside0.mk (And.intro hD10 (And.intro hC10 hk10))
      clear hW10 hC10 hk10 hD10 hFW ha9 hz9
      go_wp2_with (first | (go_at_call 31; refine (headed_c ((0 : Nat) : Int) e (l0.length : Int) W10 HT10.out).mono ?_; rintro e11 w11 ⟨v11, rfl, hR11, hb11⟩; refine of_halt ?_))
      unfold G.Halt
      obtain ⟨A11, c11, rfl⟩ := Kd.R_slice hR11
      have H11 := Aside0.mk (And.intro (Kd.R_reads' hR11).2.2 (And.intro (H10.out.1.below hb11) (And.intro (H10.out.2.1.kp (Kp.of_below (F := fun _ => False) hb11) id id id id) (H10.out.2.2.trans (Kp.of_below (F := fun k => F k ∨ k = bE ∨ k = bA) hb11) (fun _ _ z => z)))))
      clear hR11 hb11
      go_wp2_with (first | (go_at_call 27; refine (wr_c F2 bE bS bA g gd (fl1 x.1).2 bn (fl1 x.1).1 A11 (headB ((0 : Nat) : Int) e (l0.length : Int)).length c11 (headB ((0 : Nat) : Int) e (l0.length : Int)) w11 H11.out.2.1 HRM.out.1.small H11.out.2.2.1 H2.out.2.2.1 (by have := HBN.out.2; omega) H11.out.1).mono ?_; rintro e12 w12 ⟨rfl, h12⟩; refine of_halt ?_))
      unfold G.Halt
      have h12' : SvLoop F bE bS bA g gd q w6 w12 := by
        rw [← HSV.out.2]
        exact SvLoop.step (e := .returned (.tuple #[])) H2.out.2.2.2.1 H11.out.2.2.2 ⟨rfl, h12⟩
      obtain ⟨F3, hD3, hC3, hf3, hF3, hk3⟩ := h12'
      have H3 := Aside0.mk (And.intro hD3 (And.intro hC3 (And.intro hf3 (And.intro hF3 hk3))))
      clear h12 hD3 hC3 hf3 hF3 hk3
      go_wp2_with (first | (go_at_call 29; refine (fl_c F3 bE bS bA g gd q.1.2 q.2 q.1.1 w12 H3.out.1 HRM.out.2.small H3.out.2.1 H3.out.2.2.1).mono ?_; rintro e13 w13 ⟨rfl, h13⟩; refine of_halt ?_))
      unfold G.Halt
      have h13' : SvLoop F bE bS bA g gd (fl1 q.1, q.2) w6 w13 := SvLoop.step (e := .returned (.tuple #[])) H3.out.2.2.2.1 H3.out.2.2.2.2 ⟨rfl, h13⟩
      obtain ⟨F4, hD4, hC4, hf4, hF4, hk4⟩ := h13'
      obtain ⟨z, hz⟩ : ∃ z, fl1 q.1 = z := ⟨_, rfl⟩
      rw [hz] at hD4 hC4
      have hD4 : Disk F4 gd z.1 w13 := hD4
      have hC4 : Cap bE bS bA g gd z.2 q.2 w13 := hC4
      have hKW := HFW.out w13 hk4
      have hF4W : ∀ k, F4 k → F k ∨ W.heap.size ≤ k := fun k hk => (hF4 k hk).imp id (fun y => Nat.le_trans HB6.out.size y)
      have hsl := HS.out.sl.kp hKW (fun k hq hz => HS.out.ap k hz hq)
      have hap : ∀ k, F4 k → ¬ H k := fun k hk hh => (hF4W k hk).elim (fun y => HS.out.ap k y hh) (fun y => by have := HS.out.sl.lt k hh; omega)
      have he13 := hC4.cells.1
      have hs13 := hC4.cells.2.1
      have hsv2 : saveD d fr ch 0 l0 e = z := HSV.out.1.trans hz
      have H4' := Aside0.mk (And.intro hD4 (And.intro hC4 (And.intro hF4W (And.intro hap (And.intro hKW (And.intro hsl hsv2))))))
      clear h13 hD4 hC4 hf4 hF4 hk4 hKW hF4W hsl hap hz hsv2
      by_cases hz0 : z.2 = 0
      · have HZ0 := Aside0.mk hz0
        rw [hz0] at he13
        clear hz0 hC4 hD4
        have hO : (Kd.int .u8).R 5 (w13.drew.alloc (.cells #[] 5)) w13.heap.size (fun _ => True) (.slice (some ⟨w13.heap.size, 0, none⟩) 0 0) [] := ⟨fun _ _ => trivial, [], World.ownsRow_lit (base := w13.heap.size) (e := 5) (size := 1) w13.drew #[] 0 (Nat.le_refl _) (by simp [maxLen]) rfl, Reps.none _ _⟩
        have HO := Aside0.mk (show (Kd.int .u8).R 5 (w13.alloc (.cells #[] 5)).drew w13.heap.size (fun _ => True) (.slice (some ⟨w13.heap.size, 0, none⟩) 0 0) [] from hO)
        have HB14 := Aside0.mk (show Below w13.heap.size w13 (w13.alloc (.cells #[] 5)).drew from below_drew (below_alloc (Below.refl _ _) _))
        have HRW := Aside0.mk (HS.out.row (w13.alloc (.cells #[] 5)).drew ((H4'.out.2.2.2.2.1.mono (fun _ _ q => .inl q)).trans (Kp.of_below (F := fun k => F k ∨ H k) HB14.out) (fun _ _ q => q)))
        have HSB := Aside0.mk (show ∀ V, Below w13.heap.size w13 V → V.cell? ⟨bS, 0, none⟩ = some (.pointer (some ⟨g, 0, none⟩)) from fun V hV => (H4'.out.2.1.kp (Kp.of_below (F := fun _ => False) hV) id id id id).cells.2.1)
        have hne1 : (g = bE) = False := eq_false (fun q => H4'.out.2.1.n4 q.symm)
        have hne2 : (bE = g) = False := eq_false H4'.out.2.1.n4
        clear hO
        go_upto_region 27 with (fail)
        refine start_ (n := 11) (S := fun w' => w'.cell? ⟨bS, 0, none⟩ = some (.pointer (some ⟨g, 0, none⟩))) (ds := [10]) #[false, false, false, false, false, false, false, false, false, false, false] (by kernel_rfl) rfl rfl (HSB.out _ (below_drew (Below.refl _ _))) (fun hHeld => ?_)
        refine pure_ (i := 1) (N := some 95) (v := ?_) (a' := ?_) #[false, true, false, false, false, false, false, false, false, false, false] rfl rfl (by kernel_rfl) (fun _ _ _ h => h) (Or.inl ⟨by rfl, ?_⟩) ?_ ?_
        rotate_left
        · intro w'
          go_simp
          with_reducible rfl
        rotate_left
        · simp only [Act.put, List.setIfInBounds_toArray, List.set_cons_zero, List.set_cons_succ, i64_w, i32_w]
          rfl
        refine pure_ (i := 2) (N := some 96) (v := ?_) (a' := ?_) #[false, true, true, false, false, false, false, false, false, false, false] rfl rfl (by kernel_rfl) (fun _ _ _ h => h) (Or.inl ⟨by rfl, ?_⟩) ?_ ?_
        rotate_left
        · intro w'
          go_simp
          with_reducible rfl
        rotate_left
        · simp only [Act.put, List.setIfInBounds_toArray, List.set_cons_zero, List.set_cons_succ, i64_w, i32_w]
          rfl
        refine pure_ (i := 4) (N := some 98) (v := ?_) (a' := ?_) #[false, true, true, false, true, false, false, false, false, false, false] rfl rfl (by kernel_rfl) (fun _ _ _ h => h) (Or.inl ⟨by rfl, ?_⟩) ?_ ?_
        rotate_left
        · intro w'
          go_simp
          with_reducible rfl
        rotate_left
        · simp only [Act.put, List.setIfInBounds_toArray, List.set_cons_zero, List.set_cons_succ, i64_w, i32_w]
          rfl
        refine take_ (i := 0) (N := some 94) (v := ?_) (a' := ?_) #[true, true, true, false, true, false, false, false, false, false, false] rfl rfl (by kernel_rfl) (fun _ _ _ h => h) (Or.inl ⟨by rfl, ?_⟩) hHeld ?_ ?_
        rotate_left
        · intro w' s0
          go_simp
          with_reducible rfl
        rotate_left
        · simp only [Act.put, List.setIfInBounds_toArray, List.set_cons_zero, List.set_cons_succ, i64_w, i32_w]
          rfl
        refine pure_ (i := 7) (N := some 101) (v := ?_) (a' := ?_) #[true, true, true, false, true, false, false, true, false, false, false] rfl rfl (by kernel_rfl) (fun _ _ _ h => h) (Or.inl ⟨by rfl, ?_⟩) ?_ ?_
        rotate_left
        · intro w'
          go_simp
          with_reducible rfl
        rotate_left
        · simp only [Act.put, List.setIfInBounds_toArray, List.set_cons_zero, List.set_cons_succ, i64_w, i32_w]
          rfl
        refine pure_ (i := 8) (N := some 102) (v := ?_) (a' := ?_) #[true, true, true, false, true, false, false, true, true, false, false] rfl rfl (by kernel_rfl) (fun _ _ _ h => h) (Or.inl ⟨by rfl, ?_⟩) ?_ ?_
        rotate_left
        · intro w'
          go_simp
          with_reducible rfl
        rotate_left
        · simp only [Act.put, List.setIfInBounds_toArray, List.set_cons_zero, List.set_cons_succ, i64_w, i32_w]
          rfl
        refine one_ (i := 3) (N := some 97) #[true, true, true, true, true, false, false, true, true, false, false] rfl rfl (by kernel_rfl) (by decide) (fun K hK => ?_)
        refine value_ (w1 := ?_) (v := ?_) (by rfl) rfl ?_ ?_
        rotate_left 2
        · go_simp
          constructor
          · rfl
          · rfl
        refine hK.out _ _ (HSB.out _ HB14.out) (fun hHeld => ?_)
        clear hK K
        refine norm_ (a' := ?_) ?_ ?_
        rotate_left
        · show Act.put _ (some 97) _ = _
          simp only [Act.put, List.setIfInBounds_toArray, List.set_cons_zero, List.set_cons_succ, i64_w, i32_w]
          rfl
        refine one_ (i := 5) (N := some 99) #[true, true, true, true, true, true, false, true, true, false, false] rfl rfl (by kernel_rfl) (by decide) (fun K hK => ?_)
        refine step_append_row .u8 (w0 := w13) w13.heap.size (by rfl) (.tmp 97) (.tmp 98) 22 5 1 rfl Tryd.underlying22 info5 (by omega) (.slice (some ⟨w13.heap.size, 0, none⟩) 0 0) [] l0 A l0.length c (fun _ => True) rfl rfl (fun _ _ => trivial) HO.out HRW.out HB14.out HB14.out.size (by have := HE.out.2.1; simp; omega) ?_
        intro v15 w15 ho15 hb15 hg15 hat15
        rw [List.nil_append] at ho15
        obtain ⟨A15, c15, rfl⟩ := Kd.R_slice ho15
        have HR15 := Aside0.mk (And.intro ho15 hb15)
        obtain ⟨c0_, c1_, c2_, c3_, c4_, c5_, c6_, c7_, c8_⟩ := cells9 (H4'.out.2.2.2.2.2.1.below hb15).blk
        have hz_a := blk_frozen (H4'.out.2.2.2.2.2.1.below hb15).blk 3
        have hz_b := blk_frozen (H4'.out.2.2.2.2.2.1.below hb15).blk 4
        have hz_c := blk_frozen (H4'.out.2.2.2.2.2.1.below hb15).blk 5
        have he15 := (H4'.out.2.1.kp (Kp.of_below (F := fun _ => False) hb15) id id id id).cells.1
        rw [HZ0.out] at he15
        clear ho15 hb15 hg15 hat15
        refine hK.out _ _ (HSB.out _ HR15.out.2) (fun hHeld => ?_)
        clear hK K
        refine norm_ (a' := ?_) ?_ ?_
        rotate_left
        · show Act.put _ (some 99) _ = _
          simp only [Act.put, List.setIfInBounds_toArray, List.set_cons_zero, List.set_cons_succ, i64_w, i32_w]
          rfl
        refine pure_ (i := 6) (N := some 100) (v := ?_) (a' := ?_) #[true, true, true, true, true, true, true, true, true, false, false] rfl rfl (by kernel_rfl) (fun _ _ _ h => h) (Or.inl ⟨by rfl, ?_⟩) ?_ ?_
        rotate_left
        · intro w'
          go_simp
          with_reducible rfl
        rotate_left
        · simp only [Act.put, List.setIfInBounds_toArray, List.set_cons_zero, List.set_cons_succ, i64_w, i32_w]
          rfl
        refine pure_ (i := 9) (N := some 103) (v := ?_) (a' := ?_) #[true, true, true, true, true, true, true, true, true, true, false] rfl rfl (by kernel_rfl) (fun _ _ _ h => h) (Or.inl ⟨by rfl, ?_⟩) ?_ ?_
        rotate_left
        · intro w'
          go_simp
          with_reducible rfl
        rotate_left
        · simp only [Act.put, List.setIfInBounds_toArray, List.set_cons_zero, List.set_cons_succ, i64_w, i32_w]
          rfl
        refine last_ (i := 10) (N := none) #[true, true, true, true, true, true, true, true, true, true, true] rfl rfl (by kernel_rfl) (by decide) (fun K hK => ?_)
        refine skip_ (w1 := ?_) (by rfl) rfl ?_ ?_
        rotate_left
        · go_simp
          rfl
        refine hK.out _ _ ?_
        clear hK K
        refine done_ (by kernel_rfl) ?_
        have HSK := Aside0.mk (show svSlot d fr ch 0 l0 e s0 = (true, e, l0) from by unfold svSlot; rw [H4'.out.2.2.2.2.2.2, if_pos HZ0.out])
        have hsl := H4'.out.2.2.2.2.2.1.below HR15.out.2
        have hpa := blk_put hsl.blk 3 (.bool true) rfl
        have hpb := blk_put hpa 4 (.int .i64 e) rfl
        have hpc := blk_put hpb 5 (.slice A15 l0.length c15) rfl
        have rset : ∀ (ok : Nat → Prop) (v : Value) (l : List Int), (Kd.int .u8).R 5 w15 0 ok v l → (Kd.int .u8).R 5 (((w15.setCell ⟨g, 3, none⟩ (.bool true)).setCell ⟨g, 4, none⟩ (.int .i64 e)).setCell ⟨g, 5, none⟩ (.slice A15 l0.length c15)) 0 ok v l := fun ok v l hr => Kd.R_set (Kd.R_set (Kd.R_set hr hsl.blk (by decide) 3 _) hpa (by decide) 4 _) hpb (by decide) 5 _
        have hgl := blk_lt H4'.out.2.2.2.2.2.1.blk
        have hrN : (Kd.int .u8).R 5 w15 0 (fun k => (H k ∨ (w13.heap.size ≤ k ∧ k < w15.heap.size)) ∧ k ≠ g) (.slice A15 l0.length c15) l0 := Kd.R_lower (Kd.R_mono (Kd.R_bound HR15.out.1) (fun k hk => ⟨.inr ⟨hk.2.1, hk.2.2.1⟩, by omega⟩)) (Nat.zero_le _)
        have hrO : (Kd.int .u8).R 5 w15 0 (fun k => (H k ∨ (w13.heap.size ≤ k ∧ k < w15.heap.size)) ∧ k ≠ g) v1 s1.2.2 := Kd.R_mono hsl.r1 (fun k hk => ⟨.inl hk.1, hk.2⟩)
        have hokN : SlotOk (true, e, l0) := ⟨⟨by have := HE.out.1; show 0 ≤ e; omega, HE.out.1.2⟩, HE.out.2.1⟩
        have HSL := Aside0.mk (show SlB (fun k => H k ∨ (w13.heap.size ≤ k ∧ k < w15.heap.size)) g gd fr ch (true, e, l0) s1 (.slice A15 l0.length c15) v1 _ from ⟨hpc, .inl hsl.hg, rset _ _ _ hrN, rset _ _ _ hrO, fun k hk => by
          rw [World.size_setCell, World.size_setCell, World.size_setCell]
          exact hk.elim (hsl.lt k) (fun q => q.2), hokN, hsl.ok1, hsl.fr_, hsl.ch_⟩)
        have HD15 := Aside0.mk (show Disk F4 gd z.1 (((w15.setCell ⟨g, 3, none⟩ (.bool true)).setCell ⟨g, 4, none⟩ (.int .i64 e)).setCell ⟨g, 5, none⟩ (.slice A15 l0.length c15)) from (H4'.out.1.below HR15.out.2).kp ((((Kp.refl (fun k => k = g) w15).set (p := ⟨g, 3, none⟩) (.inl rfl) _).set (p := ⟨g, 4, none⟩) (.inl rfl) _).set (p := ⟨g, 5, none⟩) (.inl rfl) _) (fun k hk q => H4'.out.2.2.2.1 k hk (q ▸ hsl.hg)))
        have HK15 := Aside0.mk (show Kp (fun k => F k ∨ H k) W (((w15.setCell ⟨g, 3, none⟩ (.bool true)).setCell ⟨g, 4, none⟩ (.int .i64 e)).setCell ⟨g, 5, none⟩ (.slice A15 l0.length c15)) from ((((H4'.out.2.2.2.2.1.mono (fun _ _ q => .inl q)).trans (Kp.of_below (F := fun k => F k ∨ H k) HR15.out.2) (fun _ _ q => q)).set (p := ⟨g, 3, none⟩) (.inl (.inr hsl.hg)) _).set (p := ⟨g, 4, none⟩) (.inl (.inr hsl.hg)) _).set (p := ⟨g, 5, none⟩) (.inl (.inr hsl.hg)) _)
        clear hsl hpa hpb hpc rset hgl hrN hrO hokN hHeld c0_ c1_ c2_ c3_ c4_ c5_ c6_ c7_ c8_ hz_a hz_b hz_c he13 hs13
        go_wp2
        go_ret
        rw [HSK.out, H4'.out.2.2.2.2.2.2]
        exact ⟨by rw [HZ0.out]; rfl, F4, _, _, _, HD15.out, HSL.out, H4'.out.2.2.1, fun k hk => hk.elim .inl (fun q => .inr (Nat.le_trans H4'.out.2.2.2.2.1.size q.1)), fun k hk hh => hh.elim (H4'.out.2.2.2.1 k hk) (fun q => by have := H4'.out.1.2 k hk; omega), HK15.out⟩
      · have g1 : (z.2 == 0) = false := by rw [beq_eq_false_iff_ne]; exact hz0
        have g2 : (z.2 = 0) = False := eq_false hz0
        have hsvk : svSlot d fr ch 0 l0 e s0 = s0 := by unfold svSlot; rw [H4'.out.2.2.2.2.2.2, if_neg hz0]
        have HSK := Aside0.mk hsvk
        have hz1 := H4'.out.2.1.cells.1
        clear hz0 hsvk he13
        go_wp2
        go_ret
        rw [HSK.out, H4'.out.2.2.2.2.2.2]
        exact ⟨rfl, F4, H, v0, v1, H4'.out.1, H4'.out.2.2.2.2.2.1, H4'.out.2.2.1, fun k hk => .inl hk, H4'.out.2.2.2.1, H4'.out.2.2.2.2.1.mono (fun q _ hq => .inl hq)⟩
set_option maxHeartbeats 16000000 in
set_option maxRecDepth 100000 in
theorem Save_do1 (F H : Nat → Prop) (g gd fr ch : Nat) (s0 s1 : Slot) (v0 v1 : Value) (d : Dk) (A : Option Addr) (c : Nat) (l0 : List Int) (e : Int) (W : World) (h : SvIn F H g gd fr ch s0 s1 v0 v1 d A c l0 W) (he : lastE s0 s1 < e ∧ e ≤ 2147483647) (hl : l0.length ≤ 54 * ch) (hwh : which s0 s1 = 0) :
    Calls Tryd.prog 10 #[.pointer (some ⟨g, 0, none⟩), .slice A l0.length c, .int .i64 e] W (SaveP F H g gd fr ch s0 (svSlot d fr ch 1 l0 e s1) (saveD d fr ch 1 l0 e) W) := by
  have HS := Aside0.mk h
  have hlast := lastE_le h.sl.ok0 h.sl.ok1
  obtain ⟨le, hle⟩ : ∃ le, lastE s0 s1 = le := ⟨_, rfl⟩
  rw [hle] at he hlast
  have hb0 := below_alloc (Below.refl W.heap.size W) (.cells #[.pointer (some ⟨g, 0, none⟩)] 26)
  have hk0 := blk_new W (.cells #[.pointer (some ⟨g, 0, none⟩)] 26)
  obtain ⟨W0, hW0⟩ : ∃ W0, W.alloc (.cells #[.pointer (some ⟨g, 0, none⟩)] 26) = W0 := ⟨_, rfl⟩
  obtain ⟨bS, hbS⟩ : ∃ bS, W.heap.size = bS := ⟨_, rfl⟩
  have HL := Aside0.mk hle
  have HW0 := Aside0.mk hW0
  have HBS := Aside0.mk hbS
  rw [hW0] at hb0 hk0
  rw [hbS] at hk0
  have H0 := Aside0.mk (And.intro hb0 hk0)
  have hc := cells9 (h.sl.below hb0).blk
  have hg0 := hc.1
  have hq0 : W0.cell? ⟨bS, 0, none⟩ = some (.pointer (some ⟨g, 0, none⟩)) := cell1 hk0
  have f1 : decide (e ≤ le) = false := decide_eq_false (by omega)
  have f2 : decide (2147483647 < e) = false := decide_eq_false (by omega)
  obtain ⟨c54, hc54⟩ : ∃ c : Nat, c = 54 * ch := ⟨_, rfl⟩
  have hw54 : wrap64 (54 * (ch : Int)) = (c54 : Int) := by have := h.sl.ch_; unfold wrap64; omega
  have f3 : decide ((c54 : Int) < (l0.length : Int)) = false := decide_eq_false (by omega)
  have f3' : decide (c54 < l0.length) = false := decide_eq_false (by omega)
  have HE := Aside0.mk (And.intro (show 1 ≤ e ∧ e ≤ 2147483647 from by omega) (And.intro (show l0.length ≤ 221184 from by have := h.sl.ch_; omega) hl))
  obtain ⟨wh, hwh'⟩ : ∃ wh, which s0 s1 = wh := ⟨_, rfl⟩
  have HWH := Aside0.mk hwh'
  rw [hwh'] at hwh
  have fw : (wh == 0) = true := by rw [hwh]; rfl
  have fw2 : (wh = 0) = True := eq_true hwh
  clear h hle he hb0 hk0 hW0 hc hc54 hl hlast hwh' hwh hbS
  go_enter Tryd.func10, Tryd.ntmps10
  go_upto_region 1 with (fail)
  rw [HW0.out, HBS.out]
  go_wp2_with (first | (go_at_call 8; refine (Latest_c H g gd fr ch s0 s1 v0 v1 W0 (HS.out.sl.below H0.out.1)).mono ?_; rintro e1 w1 ⟨v1_, rfl, hR1, hb1⟩; refine of_halt ?_))
  unfold G.Halt
  rw [HL.out]
  have HB1 := Aside0.mk (H0.out.1.trans (hb1.mono H0.out.1.size))
  have HK1 := Aside0.mk ((hb1.block _ (blk_lt H0.out.2)).trans H0.out.2)
  have hq1 := cell1 HK1.out
  have hg2 := (cells9 (HS.out.sl.below HB1.out).blk).2.2.1
  clear hR1 hb1 hq0 hg0
  go_wp2_with (first | (go_at_call 9; refine (Which_c H g gd fr ch s0 s1 v0 v1 w1 (HS.out.sl.below HB1.out)).mono ?_; rintro e2 w2 ⟨rfl, hb2⟩; refine of_halt ?_))
  unfold G.Halt
  rw [HWH.out]
  have HB2 := Aside0.mk (HB1.out.trans (hb2.mono HB1.out.size))
  have HK2 := Aside0.mk ((hb2.block _ (blk_lt HK1.out)).trans HK1.out)
  have hq2 := cell1 HK2.out
  have HCUT := Aside0.mk (chunk_Cut.calls A c l0 e (chunks l0 e) 0 w2 (HS.out.tab w2 (Kp.of_below HB2.out)) (HS.out.row w2 (Kp.of_below HB2.out)) HS.out.cap (by unfold chunk_Cut.f; rw [if_pos HE.out.1, if_pos HE.out.2.1]))
  clear hb2 hq1 hg2
  go_wp2_with (first | (go_at_call 25; refine (HCUT.out).mono ?_; rintro e3 w3 ⟨v3, rfl, hR3, hb3⟩; refine of_halt ?_))
  unfold G.Halt
  have HB3 := Aside0.mk (HB2.out.trans (hb3.mono HB2.out.size))
  have HK3 := Aside0.mk ((hb3.block _ (blk_lt HK2.out)).trans HK2.out)
  obtain ⟨A3, c3, rfl⟩ := Kd.R_slice (Kd.S_R hR3)
  have HS3 := Aside0.mk (And.intro (Kd.R_bound (Kd.S_R hR3)) HB2.out.size)
  obtain ⟨n, hn⟩ : ∃ n, (chunks l0 e).length = n := ⟨_, rfl⟩
  have HNN := Aside0.mk (And.intro hn (show n ≤ 4096 from by rw [← hn, chunks_length]; have := HE.out.2.1; omega))
  rw [hn]
  clear hn
  have hq3 := cell1 HK3.out
  clear hR3 hb3 hq2 f1 f2 f3 f3' fw fw2
  go_upto_region 12 with (fail)
  have hb4 := below_alloc (Below.refl w3.heap.size w3) (.cells #[.int .i64 0] 37)
  have hk4 := blk_new w3 (.cells #[.int .i64 0] 37)
  obtain ⟨W4, hW4⟩ : ∃ W4, w3.alloc (.cells #[.int .i64 0] 37) = W4 := ⟨_, rfl⟩
  obtain ⟨bE, hbE⟩ : ∃ bE, w3.heap.size = bE := ⟨_, rfl⟩
  rw [hW4] at hb4 hk4
  rw [hW4]
  rw [hbE] at hk4
  rw [hbE]
  have HBE := Aside0.mk hbE
  have H4 := Aside0.mk (And.intro hb4 (And.intro hk4 (And.intro ((hb4.block _ (blk_lt HK3.out)).trans HK3.out) (HB3.out.trans (hb4.mono HB3.out.size)))))
  have he4 := cell1 hk4
  have hq4 := cell1 H4.out.2.2.1
  have HBC := Aside0.mk (begin_c g fr ch 1 W4 (fun V hV => by
    have := cells9 ((HS.out.sl.below H4.out.2.2.2).below hV).blk
    exact ⟨this.2.1, this.2.2.1⟩) HS.out.sl.fr_ HS.out.sl.ch_ (by decide))
  clear hb4 hk4 hW4 hbE hq3
  go_wp2_with (first | (go_at_call 26; refine (HBC.out).mono ?_; rintro e5 w5 ⟨rfl, hb5⟩; refine of_halt ?_))
  unfold G.Halt
  have H5 := Aside0.mk (And.intro (H4.out.2.2.2.trans (hb5.mono H4.out.2.2.2.size)) (And.intro ((hb5.block _ (blk_lt H4.out.2.1)).trans H4.out.2.1) (And.intro ((hb5.block _ (blk_lt H4.out.2.2.1)).trans H4.out.2.2.1) (H4.out.1.trans (hb5.mono H4.out.1.size)))))
  have hbn : bg fr ch 1 ≤ 20000 := by have := HS.out.sl.fr_; have := HS.out.sl.ch_; unfold bg; omega
  obtain ⟨bn, hbn'⟩ : ∃ bn, bg fr ch 1 = bn := ⟨_, rfl⟩
  rw [hbn'] at hbn
  have w1_ : wrap64 ((bn : Int) + 1) = ((bn + 1 : Nat) : Int) := by unfold wrap64; omega
  rw [hbn']
  have HBN := Aside0.mk (And.intro hbn' hbn)
  clear hb5 hbn' hbn he4 hq4
  go_upto_region 15 with (fail)
  have hb6 := below_alloc (Below.refl w5.heap.size w5) (.cells #[.int .i64 ((bn + 1 : Nat) : Int)] 3)
  have hk6 := blk_new w5 (.cells #[.int .i64 ((bn + 1 : Nat) : Int)] 3)
  obtain ⟨w6, hW6⟩ : ∃ w6, w5.alloc (.cells #[.int .i64 ((bn + 1 : Nat) : Int)] 3) = w6 := ⟨_, rfl⟩
  obtain ⟨bA, hbA⟩ : ∃ bA, w5.heap.size = bA := ⟨_, rfl⟩
  rw [show ((bn : Int) + 1) = ((bn + 1 : Nat) : Int) from rfl, hW6, hbA]
  rw [hW6] at hb6 hk6
  rw [hbA] at hk6
  have HBA := Aside0.mk hbA
  have HB6 := Aside0.mk (H5.out.1.trans (hb6.mono H5.out.1.size))
  have hC6 : Cap bE bS bA g gd 0 (bn + 1) w6 := by
    have g1 := blk_lt HS.out.sl.blk
    have e1 := HBS.out
    have e2 := HBE.out
    have e3 := HBA.out
    have l1 := blk_lt HK3.out
    have l2 := blk_lt H5.out.2.1
    refine ⟨(hb6.block _ (blk_lt H5.out.2.1)).trans H5.out.2.1, (hb6.block _ (blk_lt H5.out.2.2.1)).trans H5.out.2.2.1, hk6, (cells9 (HS.out.sl.below HB6.out).blk).1, ?_, ?_, ?_, ?_, ?_⟩
    · omega
    · omega
    · have := blk_lt H5.out.2.2.1; omega
    · have := HB3.out.size; omega
    · have := H5.out.1.size; omega
  have hF6 : Free F bE bS bA g := by
    have e1 := HBS.out
    have e2 := HBE.out
    have e3 := HBA.out
    have l1 := HB3.out.size
    have l2 := H5.out.1.size
    have hlt := HS.out.dk.2
    exact ⟨fun q => by have := hlt _ q; omega, fun q => by have := hlt _ q; omega, fun q => by have := hlt _ q; omega, fun q => HS.out.ap _ q HS.out.sl.hg⟩
  have hR6 : ∀ V, Kp (fun k => F k ∨ k = bE ∨ k = bA) w6 V → Kd.C (Kd.slice 5 (Kd.int .u8)) V A3 n (chunks l0 e) := fun V hV => by
    have hr : (Kd.slice 5 (Kd.int .u8)).R 22 w6 w2.heap.size _ (.slice A3 (chunks l0 e).length c3) (chunks l0 e) := Kd.R_step HS3.out.1 (fun k _ hlt => ((H5.out.2.2.2.trans (hb6.mono H5.out.2.2.2.size)).block k hlt))
    have hr2 := hV.R hr (fun k hk hf => by
      have e2 := HBE.out
      have e3 := HBA.out
      have l2 := H5.out.2.2.2.size
      have l3 := HS3.out.2
      have hlt := HS.out.dk.2
      rcases hf with q | q | q
      · have := hlt _ q; omega
      · omega
      · omega)
    have := (Kd.R_reads' hr2).2.2
    rw [HNN.out.1] at this
    exact this
  have H6 := Aside0.mk (And.intro hC6 (And.intro hF6 (And.intro hR6 (HS.out.dk.below HB6.out))))
  clear hb6 hk6 hW6 hbA hC6 hF6 hR6 w1_
  go_wp2
  go_loopg [70] (n + 1) (fun kq v70 w' => ∃ i : Nat, v70 = .int .i64 (i : Int) ∧ Aside0 (i ≤ n ∧ kq + i = n + 1) ∧ Aside0 (SvLoop F bE bS bA g gd (wrs ((d, 0), bn + 1) ((chunks l0 e).take i)) w6 w'))
  case atStart => exact ⟨0, rfl, ⟨by omega⟩, ⟨F, H6.out.2.2.2, H6.out.1, H6.out.2.1, fun k hk => .inl hk, Kp.refl _ _⟩⟩
  case round =>
    obtain ⟨i, rfl, HI, HV⟩ := hrel
    obtain ⟨x, hx⟩ : ∃ x, wrs ((d, 0), bn + 1) ((chunks l0 e).take i) = x := ⟨_, rfl⟩
    rw [hx] at HV
    obtain ⟨F1, hD1, hC1, hf1, hF1, hk1⟩ := HV.out
    have hrm : Room x.1.1 (10000 - i) := by
      rw [← hx]
      exact Room.wrs _ _ (by
        have hl : ((chunks l0 e).take i).length = i := by rw [List.length_take, HNN.out.1]; have := HI.out.1; omega
        rw [hl, show 10000 - i + i = 10000 by have := HI.out.1; have := HNN.out.2; omega]
        exact HS.out.rm)
    have hnx : x.2 ≤ 100000 := by
      rw [← hx]
      have h1 := wrs_next ((chunks l0 e).take i) ((d, 0), bn + 1)
      have hl : ((chunks l0 e).take i).length ≤ n := by rw [List.length_take, HNN.out.1]; omega
      have := HNN.out.2
      have := HBN.out.2
      have h2 : ((d, (0 : Int)), bn + 1).2 = bn + 1 := rfl
      omega
    have HX := Aside0.mk (And.intro hx (And.intro hrm hnx))
    have H1 := Aside0.mk (And.intro hD1 (And.intro hC1 (And.intro hf1 (And.intro hF1 hk1))))
    clear hx hD1 hC1 hf1 hF1 hk1 hrm hnx HV
    by_cases hi : i < n
    · have y1_ : ((i : Int) < (n : Int)) = True := eq_true (by omega)
      have y2_ : (i < n) = True := eq_true hi
      have y3_ : wrap64 ((i : Int) + 1) = ((i + 1 : Nat) : Int) := by have := HNN.out.2; unfold wrap64; omega
      have HI2 := Aside0.mk hi
      obtain ⟨ad, ys, Kr, ck, hA, hys, hcell, hck, hrow⟩ := hdr_at (H6.out.2.2.1 wr H1.out.2.2.2.2) i hi
      subst hA
      have HYS := Aside0.mk (And.intro hys (And.intro hck hrow))
      clear hi hys hck hrow
      go_wp2_with (first | (go_at_call 27; refine (wr_c F1 bE bS bA g gd x.1.2 x.2 x.1.1 Kr ys.length ck ys wr H1.out.1 HX.out.2.1.small H1.out.2.1 H1.out.2.2.1 HX.out.2.2 HYS.out.2.2).mono ?_; rintro e8 w8 ⟨rfl, h8⟩; refine of_halt ?_))
      unfold G.Halt
      have h8' : SvLoop F bE bS bA g gd (wrs ((d, 0), bn + 1) ((chunks l0 e).take (i + 1))) w6 w8 := by
        rw [wrs_succ _ _ i ys HYS.out.1, HX.out.1]
        exact SvLoop.step (e := .returned (.tuple #[])) H1.out.2.2.2.1 H1.out.2.2.2.2 ⟨rfl, h8⟩
      have HV8 := Aside0.mk h8'
      clear h8 h8' hcell
      go_wp2
      go_roundg (gk - 1)
      case measure => have := HI.out; omega
      case rel => exact ⟨i + 1, by first | rw [y3_] | rfl | simp, ⟨by have := HI.out; have := HI2.out; omega⟩, HV8⟩
    · have y1_ : ((i : Int) < (n : Int)) = False := eq_false (by omega)
      have y2_ : (i < n) = False := eq_false hi
      have hin : i = n := by have := HI.out.1; omega
      subst hin
      have hx0 : wrs ((d, 0), bn + 1) (chunks l0 e) = x := by
        rw [← HX.out.1, List.take_of_length_le (by rw [HNN.out.1]; omega)]
      have hsv : saveD d fr ch 1 l0 e = fl1 (st1 (fl1 x.1, bn) (headB ((1 : Nat) : Int) e l0.length)).1 := by
        unfold saveD
        rw [HBN.out.1, hx0]
      obtain ⟨q, hq⟩ : ∃ q, st1 (fl1 x.1, bn) (headB ((1 : Nat) : Int) e l0.length) = q := ⟨_, rfl⟩
      rw [hq] at hsv
      have HSV := Aside0.mk (And.intro hsv hq)
      have hrm1 : Room (fl1 x.1).1 5000 := Room.fl1 (by
        have h1 := HX.out.2.1
        have h2 := HNN.out.2
        exact ⟨by have := h1.steps; omega, h1.left, by have := h1.waits; omega, h1.lies⟩)
      have hrm2 : Room q.1.1 4999 := by rw [← hq]; exact Room.st1 (x := (fl1 x.1, bn)) hrm1 _
      have HRM := Aside0.mk (And.intro hrm1 hrm2)
      clear hi hx0 hsv hq hrm1 hrm2
      go_wp2_with (first | (go_at_call 29; refine (fl_c F1 bE bS bA g gd x.1.2 x.2 x.1.1 wr H1.out.1 HX.out.2.1.small H1.out.2.1 H1.out.2.2.1).mono ?_; rintro e8 w8 ⟨rfl, h8⟩; refine of_halt ?_))
      unfold G.Halt
      have h8' : SvLoop F bE bS bA g gd (fl1 x.1, x.2) w6 w8 := SvLoop.step (e := .returned (.tuple #[])) H1.out.2.2.2.1 H1.out.2.2.2.2 ⟨rfl, h8⟩
      obtain ⟨F2, hD2, hC2, hf2, hF2, hk2⟩ := h8'
      have H2 := Aside0.mk (And.intro hD2 (And.intro hC2 (And.intro hf2 (And.intro hF2 hk2))))
      have hq8 := hC2.cells.2.1
      have HKW := Aside0.mk (show Kp F W w8 from (Kp.of_below HB6.out).trans hk2 (fun z hz hq => by
        have e2 := HBE.out
        have e3 := HBA.out
        have l1 := HB3.out.size
        have l2 := H5.out.1.size
        rcases hq with y | y | y
        · exact y
        · omega
        · omega))
      clear h8 hD2 hC2 hf2 hF2 hk2
      have HBC2 := Aside0.mk (begin_c g fr ch 1 w8 (fun V hV => by
        have := cells9 ((HS.out.sl.kp HKW.out (fun z hz hq => HS.out.ap z hq hz)).below hV).blk
        exact ⟨this.2.1, this.2.2.1⟩) HS.out.sl.fr_ HS.out.sl.ch_ (by decide))
      go_wp2_with (first | (go_at_call 26; refine (HBC2.out).mono ?_; rintro e9 w9 ⟨rfl, hb9⟩; refine of_halt ?_))
      unfold G.Halt
      rw [HBN.out.1]
      have hC9 := H2.out.2.1.kp (Kp.of_below (F := fun _ => False) hb9) id id id id
      have HC9 := Aside0.mk hC9
      have HB9 := Aside0.mk hb9
      have ha9 := hC9.cells.2.2.1
      have hz9 := hC9.cells.2.2.2.2.2
      clear hC9 hb9 hq8
      go_upto_region 24 with (fail)
      obtain ⟨W10, hW10⟩ : ∃ W10, w9.setCell ⟨bA, 0, none⟩ (.int .i64 (bn : Int)) = W10 := ⟨_, rfl⟩
      rw [hW10]
      have hC10 : Cap bE bS bA g gd (fl1 x.1).2 bn W10 := by rw [← hW10]; exact HC9.out.setA bn
      have hk10 : Kp (fun k => F k ∨ k = bE ∨ k = bA) w6 W10 := by
        rw [← hW10]
        exact (H2.out.2.2.2.2.trans (Kp.of_below (F := fun k => F k ∨ k = bE ∨ k = bA) HB9.out) (fun _ _ z => z)).set (p := ⟨bA, 0, none⟩) (.inl (.inr (.inr rfl))) _
      have hD10 : Disk F2 gd (fl1 x.1).1 W10 := by
        rw [← hW10]
        exact (H2.out.1.below HB9.out).kp ((Kp.refl (fun k => k = bA) w9).set (p := ⟨bA, 0, none⟩) (.inl rfl) _) (fun k hk e => H2.out.2.2.1.a (e ▸ hk))
      have hFW : ∀ V, Kp (fun k => F k ∨ k = bE ∨ k = bA) w6 V → Kp F W V := fun V hV => (Kp.of_below HB6.out).trans hV (fun z hz hq => by
          have e2 := HBE.out
          have e3 := HBA.out
          have l1 := HB3.out.size
          have l2 := H5.out.1.size
          rcases hq with y | y | y
          · exact y
          · omega
          · omega)
      have HFW := Aside0.mk hFW
      have HT10 := Aside0.mk (HS.out.tab W10 ((hFW W10 hk10).mono (fun z _ hz => .inl hz)))
      have H10 := Aside0.mk (And.intro hD10 (And.intro hC10 hk10))
      clear hW10 hC10 hk10 hD10 hFW ha9 hz9
      go_wp2_with (first | (go_at_call 31; refine (headed_c ((1 : Nat) : Int) e (l0.length : Int) W10 HT10.out).mono ?_; rintro e11 w11 ⟨v11, rfl, hR11, hb11⟩; refine of_halt ?_))
      unfold G.Halt
      obtain ⟨A11, c11, rfl⟩ := Kd.R_slice hR11
      have H11 := Aside0.mk (And.intro (Kd.R_reads' hR11).2.2 (And.intro (H10.out.1.below hb11) (And.intro (H10.out.2.1.kp (Kp.of_below (F := fun _ => False) hb11) id id id id) (H10.out.2.2.trans (Kp.of_below (F := fun k => F k ∨ k = bE ∨ k = bA) hb11) (fun _ _ z => z)))))
      clear hR11 hb11
      go_wp2_with (first | (go_at_call 27; refine (wr_c F2 bE bS bA g gd (fl1 x.1).2 bn (fl1 x.1).1 A11 (headB ((1 : Nat) : Int) e (l0.length : Int)).length c11 (headB ((1 : Nat) : Int) e (l0.length : Int)) w11 H11.out.2.1 HRM.out.1.small H11.out.2.2.1 H2.out.2.2.1 (by have := HBN.out.2; omega) H11.out.1).mono ?_; rintro e12 w12 ⟨rfl, h12⟩; refine of_halt ?_))
      unfold G.Halt
      have h12' : SvLoop F bE bS bA g gd q w6 w12 := by
        rw [← HSV.out.2]
        exact SvLoop.step (e := .returned (.tuple #[])) H2.out.2.2.2.1 H11.out.2.2.2 ⟨rfl, h12⟩
      obtain ⟨F3, hD3, hC3, hf3, hF3, hk3⟩ := h12'
      have H3 := Aside0.mk (And.intro hD3 (And.intro hC3 (And.intro hf3 (And.intro hF3 hk3))))
      clear h12 hD3 hC3 hf3 hF3 hk3
      go_wp2_with (first | (go_at_call 29; refine (fl_c F3 bE bS bA g gd q.1.2 q.2 q.1.1 w12 H3.out.1 HRM.out.2.small H3.out.2.1 H3.out.2.2.1).mono ?_; rintro e13 w13 ⟨rfl, h13⟩; refine of_halt ?_))
      unfold G.Halt
      have h13' : SvLoop F bE bS bA g gd (fl1 q.1, q.2) w6 w13 := SvLoop.step (e := .returned (.tuple #[])) H3.out.2.2.2.1 H3.out.2.2.2.2 ⟨rfl, h13⟩
      obtain ⟨F4, hD4, hC4, hf4, hF4, hk4⟩ := h13'
      obtain ⟨z, hz⟩ : ∃ z, fl1 q.1 = z := ⟨_, rfl⟩
      rw [hz] at hD4 hC4
      have hD4 : Disk F4 gd z.1 w13 := hD4
      have hC4 : Cap bE bS bA g gd z.2 q.2 w13 := hC4
      have hKW := HFW.out w13 hk4
      have hF4W : ∀ k, F4 k → F k ∨ W.heap.size ≤ k := fun k hk => (hF4 k hk).imp id (fun y => Nat.le_trans HB6.out.size y)
      have hsl := HS.out.sl.kp hKW (fun k hq hz => HS.out.ap k hz hq)
      have hap : ∀ k, F4 k → ¬ H k := fun k hk hh => (hF4W k hk).elim (fun y => HS.out.ap k y hh) (fun y => by have := HS.out.sl.lt k hh; omega)
      have he13 := hC4.cells.1
      have hs13 := hC4.cells.2.1
      have hsv2 : saveD d fr ch 1 l0 e = z := HSV.out.1.trans hz
      have H4' := Aside0.mk (And.intro hD4 (And.intro hC4 (And.intro hF4W (And.intro hap (And.intro hKW (And.intro hsl hsv2))))))
      clear h13 hD4 hC4 hf4 hF4 hk4 hKW hF4W hsl hap hz hsv2
      by_cases hz0 : z.2 = 0
      · have HZ0 := Aside0.mk hz0
        rw [hz0] at he13
        clear hz0 hC4 hD4
        have hO : (Kd.int .u8).R 5 (w13.drew.alloc (.cells #[] 5)) w13.heap.size (fun _ => True) (.slice (some ⟨w13.heap.size, 0, none⟩) 0 0) [] := ⟨fun _ _ => trivial, [], World.ownsRow_lit (base := w13.heap.size) (e := 5) (size := 1) w13.drew #[] 0 (Nat.le_refl _) (by simp [maxLen]) rfl, Reps.none _ _⟩
        have HO := Aside0.mk (show (Kd.int .u8).R 5 (w13.alloc (.cells #[] 5)).drew w13.heap.size (fun _ => True) (.slice (some ⟨w13.heap.size, 0, none⟩) 0 0) [] from hO)
        have HB14 := Aside0.mk (show Below w13.heap.size w13 (w13.alloc (.cells #[] 5)).drew from below_drew (below_alloc (Below.refl _ _) _))
        have HRW := Aside0.mk (HS.out.row (w13.alloc (.cells #[] 5)).drew ((H4'.out.2.2.2.2.1.mono (fun _ _ q => .inl q)).trans (Kp.of_below (F := fun k => F k ∨ H k) HB14.out) (fun _ _ q => q)))
        have HSB := Aside0.mk (show ∀ V, Below w13.heap.size w13 V → V.cell? ⟨bS, 0, none⟩ = some (.pointer (some ⟨g, 0, none⟩)) from fun V hV => (H4'.out.2.1.kp (Kp.of_below (F := fun _ => False) hV) id id id id).cells.2.1)
        have hne1 : (g = bE) = False := eq_false (fun q => H4'.out.2.1.n4 q.symm)
        have hne2 : (bE = g) = False := eq_false H4'.out.2.1.n4
        clear hO
        go_upto_region 27 with (fail)
        refine start_ (n := 11) (S := fun w' => w'.cell? ⟨bS, 0, none⟩ = some (.pointer (some ⟨g, 0, none⟩))) (ds := [10]) #[false, false, false, false, false, false, false, false, false, false, false] (by kernel_rfl) rfl rfl (HSB.out _ (below_drew (Below.refl _ _))) (fun hHeld => ?_)
        refine pure_ (i := 1) (N := some 95) (v := ?_) (a' := ?_) #[false, true, false, false, false, false, false, false, false, false, false] rfl rfl (by kernel_rfl) (fun _ _ _ h => h) (Or.inl ⟨by rfl, ?_⟩) ?_ ?_
        rotate_left
        · intro w'
          go_simp
          with_reducible rfl
        rotate_left
        · simp only [Act.put, List.setIfInBounds_toArray, List.set_cons_zero, List.set_cons_succ, i64_w, i32_w]
          rfl
        refine pure_ (i := 2) (N := some 96) (v := ?_) (a' := ?_) #[false, true, true, false, false, false, false, false, false, false, false] rfl rfl (by kernel_rfl) (fun _ _ _ h => h) (Or.inl ⟨by rfl, ?_⟩) ?_ ?_
        rotate_left
        · intro w'
          go_simp
          with_reducible rfl
        rotate_left
        · simp only [Act.put, List.setIfInBounds_toArray, List.set_cons_zero, List.set_cons_succ, i64_w, i32_w]
          rfl
        refine pure_ (i := 4) (N := some 98) (v := ?_) (a' := ?_) #[false, true, true, false, true, false, false, false, false, false, false] rfl rfl (by kernel_rfl) (fun _ _ _ h => h) (Or.inl ⟨by rfl, ?_⟩) ?_ ?_
        rotate_left
        · intro w'
          go_simp
          with_reducible rfl
        rotate_left
        · simp only [Act.put, List.setIfInBounds_toArray, List.set_cons_zero, List.set_cons_succ, i64_w, i32_w]
          rfl
        refine take_ (i := 0) (N := some 94) (v := ?_) (a' := ?_) #[true, true, true, false, true, false, false, false, false, false, false] rfl rfl (by kernel_rfl) (fun _ _ _ h => h) (Or.inl ⟨by rfl, ?_⟩) hHeld ?_ ?_
        rotate_left
        · intro w' s0
          go_simp
          with_reducible rfl
        rotate_left
        · simp only [Act.put, List.setIfInBounds_toArray, List.set_cons_zero, List.set_cons_succ, i64_w, i32_w]
          rfl
        refine pure_ (i := 7) (N := some 101) (v := ?_) (a' := ?_) #[true, true, true, false, true, false, false, true, false, false, false] rfl rfl (by kernel_rfl) (fun _ _ _ h => h) (Or.inl ⟨by rfl, ?_⟩) ?_ ?_
        rotate_left
        · intro w'
          go_simp
          with_reducible rfl
        rotate_left
        · simp only [Act.put, List.setIfInBounds_toArray, List.set_cons_zero, List.set_cons_succ, i64_w, i32_w]
          rfl
        refine pure_ (i := 8) (N := some 102) (v := ?_) (a' := ?_) #[true, true, true, false, true, false, false, true, true, false, false] rfl rfl (by kernel_rfl) (fun _ _ _ h => h) (Or.inl ⟨by rfl, ?_⟩) ?_ ?_
        rotate_left
        · intro w'
          go_simp
          with_reducible rfl
        rotate_left
        · simp only [Act.put, List.setIfInBounds_toArray, List.set_cons_zero, List.set_cons_succ, i64_w, i32_w]
          rfl
        refine one_ (i := 3) (N := some 97) #[true, true, true, true, true, false, false, true, true, false, false] rfl rfl (by kernel_rfl) (by decide) (fun K hK => ?_)
        refine value_ (w1 := ?_) (v := ?_) (by rfl) rfl ?_ ?_
        rotate_left 2
        · go_simp
          constructor
          · rfl
          · rfl
        refine hK.out _ _ (HSB.out _ HB14.out) (fun hHeld => ?_)
        clear hK K
        refine norm_ (a' := ?_) ?_ ?_
        rotate_left
        · show Act.put _ (some 97) _ = _
          simp only [Act.put, List.setIfInBounds_toArray, List.set_cons_zero, List.set_cons_succ, i64_w, i32_w]
          rfl
        refine one_ (i := 5) (N := some 99) #[true, true, true, true, true, true, false, true, true, false, false] rfl rfl (by kernel_rfl) (by decide) (fun K hK => ?_)
        refine step_append_row .u8 (w0 := w13) w13.heap.size (by rfl) (.tmp 97) (.tmp 98) 22 5 1 rfl Tryd.underlying22 info5 (by omega) (.slice (some ⟨w13.heap.size, 0, none⟩) 0 0) [] l0 A l0.length c (fun _ => True) rfl rfl (fun _ _ => trivial) HO.out HRW.out HB14.out HB14.out.size (by have := HE.out.2.1; simp; omega) ?_
        intro v15 w15 ho15 hb15 hg15 hat15
        rw [List.nil_append] at ho15
        obtain ⟨A15, c15, rfl⟩ := Kd.R_slice ho15
        have HR15 := Aside0.mk (And.intro ho15 hb15)
        obtain ⟨c0_, c1_, c2_, c3_, c4_, c5_, c6_, c7_, c8_⟩ := cells9 (H4'.out.2.2.2.2.2.1.below hb15).blk
        have hz_a := blk_frozen (H4'.out.2.2.2.2.2.1.below hb15).blk 6
        have hz_b := blk_frozen (H4'.out.2.2.2.2.2.1.below hb15).blk 7
        have hz_c := blk_frozen (H4'.out.2.2.2.2.2.1.below hb15).blk 8
        have he15 := (H4'.out.2.1.kp (Kp.of_below (F := fun _ => False) hb15) id id id id).cells.1
        rw [HZ0.out] at he15
        clear ho15 hb15 hg15 hat15
        refine hK.out _ _ (HSB.out _ HR15.out.2) (fun hHeld => ?_)
        clear hK K
        refine norm_ (a' := ?_) ?_ ?_
        rotate_left
        · show Act.put _ (some 99) _ = _
          simp only [Act.put, List.setIfInBounds_toArray, List.set_cons_zero, List.set_cons_succ, i64_w, i32_w]
          rfl
        refine pure_ (i := 6) (N := some 100) (v := ?_) (a' := ?_) #[true, true, true, true, true, true, true, true, true, false, false] rfl rfl (by kernel_rfl) (fun _ _ _ h => h) (Or.inl ⟨by rfl, ?_⟩) ?_ ?_
        rotate_left
        · intro w'
          go_simp
          with_reducible rfl
        rotate_left
        · simp only [Act.put, List.setIfInBounds_toArray, List.set_cons_zero, List.set_cons_succ, i64_w, i32_w]
          rfl
        refine pure_ (i := 9) (N := some 103) (v := ?_) (a' := ?_) #[true, true, true, true, true, true, true, true, true, true, false] rfl rfl (by kernel_rfl) (fun _ _ _ h => h) (Or.inl ⟨by rfl, ?_⟩) ?_ ?_
        rotate_left
        · intro w'
          go_simp
          with_reducible rfl
        rotate_left
        · simp only [Act.put, List.setIfInBounds_toArray, List.set_cons_zero, List.set_cons_succ, i64_w, i32_w]
          rfl
        refine last_ (i := 10) (N := none) #[true, true, true, true, true, true, true, true, true, true, true] rfl rfl (by kernel_rfl) (by decide) (fun K hK => ?_)
        refine skip_ (w1 := ?_) (by rfl) rfl ?_ ?_
        rotate_left
        · go_simp
          rfl
        refine hK.out _ _ ?_
        clear hK K
        refine done_ (by kernel_rfl) ?_
        have HSK := Aside0.mk (show svSlot d fr ch 1 l0 e s1 = (true, e, l0) from by unfold svSlot; rw [H4'.out.2.2.2.2.2.2, if_pos HZ0.out])
        have hsl := H4'.out.2.2.2.2.2.1.below HR15.out.2
        have hpa := blk_put hsl.blk 6 (.bool true) rfl
        have hpb := blk_put hpa 7 (.int .i64 e) rfl
        have hpc := blk_put hpb 8 (.slice A15 l0.length c15) rfl
        have rset : ∀ (ok : Nat → Prop) (v : Value) (l : List Int), (Kd.int .u8).R 5 w15 0 ok v l → (Kd.int .u8).R 5 (((w15.setCell ⟨g, 6, none⟩ (.bool true)).setCell ⟨g, 7, none⟩ (.int .i64 e)).setCell ⟨g, 8, none⟩ (.slice A15 l0.length c15)) 0 ok v l := fun ok v l hr => Kd.R_set (Kd.R_set (Kd.R_set hr hsl.blk (by decide) 6 _) hpa (by decide) 7 _) hpb (by decide) 8 _
        have hgl := blk_lt H4'.out.2.2.2.2.2.1.blk
        have hrN : (Kd.int .u8).R 5 w15 0 (fun k => (H k ∨ (w13.heap.size ≤ k ∧ k < w15.heap.size)) ∧ k ≠ g) (.slice A15 l0.length c15) l0 := Kd.R_lower (Kd.R_mono (Kd.R_bound HR15.out.1) (fun k hk => ⟨.inr ⟨hk.2.1, hk.2.2.1⟩, by omega⟩)) (Nat.zero_le _)
        have hrO : (Kd.int .u8).R 5 w15 0 (fun k => (H k ∨ (w13.heap.size ≤ k ∧ k < w15.heap.size)) ∧ k ≠ g) v0 s0.2.2 := Kd.R_mono hsl.r0 (fun k hk => ⟨.inl hk.1, hk.2⟩)
        have hokN : SlotOk (true, e, l0) := ⟨⟨by have := HE.out.1; show 0 ≤ e; omega, HE.out.1.2⟩, HE.out.2.1⟩
        have HSL := Aside0.mk (show SlB (fun k => H k ∨ (w13.heap.size ≤ k ∧ k < w15.heap.size)) g gd fr ch s0 (true, e, l0) v0 (.slice A15 l0.length c15) _ from ⟨hpc, .inl hsl.hg, rset _ _ _ hrO, rset _ _ _ hrN, fun k hk => by
          rw [World.size_setCell, World.size_setCell, World.size_setCell]
          exact hk.elim (hsl.lt k) (fun q => q.2), hsl.ok0, hokN, hsl.fr_, hsl.ch_⟩)
        have HD15 := Aside0.mk (show Disk F4 gd z.1 (((w15.setCell ⟨g, 6, none⟩ (.bool true)).setCell ⟨g, 7, none⟩ (.int .i64 e)).setCell ⟨g, 8, none⟩ (.slice A15 l0.length c15)) from (H4'.out.1.below HR15.out.2).kp ((((Kp.refl (fun k => k = g) w15).set (p := ⟨g, 6, none⟩) (.inl rfl) _).set (p := ⟨g, 7, none⟩) (.inl rfl) _).set (p := ⟨g, 8, none⟩) (.inl rfl) _) (fun k hk q => H4'.out.2.2.2.1 k hk (q ▸ hsl.hg)))
        have HK15 := Aside0.mk (show Kp (fun k => F k ∨ H k) W (((w15.setCell ⟨g, 6, none⟩ (.bool true)).setCell ⟨g, 7, none⟩ (.int .i64 e)).setCell ⟨g, 8, none⟩ (.slice A15 l0.length c15)) from ((((H4'.out.2.2.2.2.1.mono (fun _ _ q => .inl q)).trans (Kp.of_below (F := fun k => F k ∨ H k) HR15.out.2) (fun _ _ q => q)).set (p := ⟨g, 6, none⟩) (.inl (.inr hsl.hg)) _).set (p := ⟨g, 7, none⟩) (.inl (.inr hsl.hg)) _).set (p := ⟨g, 8, none⟩) (.inl (.inr hsl.hg)) _)
        clear hsl hpa hpb hpc rset hgl hrN hrO hokN hHeld c0_ c1_ c2_ c3_ c4_ c5_ c6_ c7_ c8_ hz_a hz_b hz_c he13 hs13
        go_wp2
        go_ret
        rw [HSK.out, H4'.out.2.2.2.2.2.2]
        exact ⟨by rw [HZ0.out]; rfl, F4, _, _, _, HD15.out, HSL.out, H4'.out.2.2.1, fun k hk => hk.elim .inl (fun q => .inr (Nat.le_trans H4'.out.2.2.2.2.1.size q.1)), fun k hk hh => hh.elim (H4'.out.2.2.2.1 k hk) (fun q => by have := H4'.out.1.2 k hk; omega), HK15.out⟩
      · have g1 : (z.2 == 0) = false := by rw [beq_eq_false_iff_ne]; exact hz0
        have g2 : (z.2 = 0) = False := eq_false hz0
        have hsvk : svSlot d fr ch 1 l0 e s1 = s1 := by unfold svSlot; rw [H4'.out.2.2.2.2.2.2, if_neg hz0]
        have HSK := Aside0.mk hsvk
        have hz1 := H4'.out.2.1.cells.1
        clear hz0 hsvk he13
        go_wp2
        go_ret
        rw [HSK.out, H4'.out.2.2.2.2.2.2]
        exact ⟨rfl, F4, H, v0, v1, H4'.out.1, H4'.out.2.2.2.2.2.1, H4'.out.2.2.1, fun k hk => .inl hk, H4'.out.2.2.2.1, H4'.out.2.2.2.2.1.mono (fun q _ hq => .inl hq)⟩
end Go.Proofs.YthpholjelfajiaaDoor.G
