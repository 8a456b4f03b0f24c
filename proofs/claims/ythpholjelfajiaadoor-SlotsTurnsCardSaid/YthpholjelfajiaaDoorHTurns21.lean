/- The law SlotsTurns, walked by hand. -/
import Derived.Test.YthpholjelfajiaaDoorTurnsT
namespace Go.Proofs.YthpholjelfajiaaDoor.X
open Go.RowKit Go.Shelf Go.Proofs.YthpholjelfajiaaDoor.G Go.Proofs.YthpholjelfajiaaDoor.E Go.Proofs.YthpholjelfajiaaDoor.C Go.Proofs.YthpholjelfajiaaDoor.T Go.Proofs.YthpholjelfajiaaDoorW.PrintWords Go.Proofs.YthpholjelfajiaaDoorW.PrintLast Go.Proofs.YthpholjelfajiaaDoorW.PrintMore Go.Proofs.YthpholjelfajiaaDoor.Dsk Go.Proofs.YthpholjelfajiaaDoor.Sl
set_option linter.unusedVariables false
set_option linter.unusedSimpArgs false
theorem cell_lt {w : World} {p : Addr} {v : Value} (h : w.cell? p = some v) : p.block < w.heap.size := by
  rcases Nat.lt_or_ge p.block w.heap.size with hl | hl
  · exact hl
  · rw [World.cell?, Array.getElem?_eq_none hl] at h
    cases h
theorem wn {a : Int} {n : Nat} (h : a = (n : Int)) (hn : n < 1000000) : wrap64 a = (n : Int) := by rw [h]; unfold wrap64; omega
theorem elim_e {a : Int} {E e : Nat} (h : a = (E : Int)) (h1 : E < e) (h2 : e ≤ 20000) : a < (e : Int) ∧ (e : Int) ≤ 2147483647 := by rw [h]; omega
theorem stepr (a : Int) : ∃ r : Nat, r < 1000 ∧ wrap64 (Int.tmod (IntKind.u64.wrap a) 1000) = (r : Int) ∧ wrap64 (IntKind.u64.wrap a % 1000) = (r : Int) := by
  have h : IntKind.u64.wrap a = a % 18446744073709551616 := by simp [IntKind.wrap, IntKind.bits, IntKind.signed]
  have h0 : 0 ≤ a % 18446744073709551616 := Int.emod_nonneg _ (by decide)
  obtain ⟨z, hz⟩ := Int.eq_ofNat_of_zero_le h0
  refine ⟨z % 1000, Nat.mod_lt _ (by decide), ?_, ?_⟩
  · rw [h, Int.tmod_eq_emod_of_nonneg h0, hz]
    unfold wrap64
    omega
  · rw [h, hz]
    unfold wrap64
    omega
set_option maxHeartbeats 16000000 in
set_option maxRecDepth 100000 in
theorem colophonlaw21_SlotsTurns.walk (A0 : Option Addr) (c0 : Nat) (l0 : List (List Int)) (A1 : Option Addr) (c1 : Nat) (l1 : List Int) (w : World) (hT : Tab w) (hr0 : Kd.C (Kd.slice 5 (Kd.int .u8)) w A0 l0.length l0) (hc0 : l0.length ≤ c0) {Θ : List Int → Prop} {Ψ : Prop} (hp0 : (∀ y ∈ l0, (∀ n ∈ y, (Lit.int .u8 n).wf = true) ∧ Θ y) ∧ Ψ) (hr1 : Kd.C (Kd.int .i64) w A1 l1.length l1) (hc1 : l1.length ≤ c1) {Φ : Prop} (hp1 : Φ) :
    Calls Tryd.prog 4 #[.slice A0 l0.length c0, .slice A1 l1.length c1] w fun e w' => e = .returned (.bool true) ∧ Below w.heap.size w w' := by
  have HT := Aside0.mk hT
  have HR0 := Aside0.mk (And.intro hr0 hc0)
  have HR1 := Aside0.mk (And.intro hr1 hc1)
  have HBY := Aside0.mk (show ∀ y ∈ l0, Bytes y from fun y hy => bytes_wf (hp0.1 y hy).1)
  clear hT hr0 hc0 hp0 hr1 hc1 hp1
  go_enter Tryd.func4, Tryd.ntmps4
  go_wp2_with (first | (go_at_call 12; refine (works_s w HT.out).mono ?_; rintro e w1 ⟨rfl, hb1⟩; refine of_halt ?_))
  unfold G.Halt
  have HB1 := Aside0.mk hb1
  clear hb1
  go_wp2_with (first | (go_at_call 13; refine (opened_s 4 w w1 (Kd.C_below HT.out HB1.out) HB1.out (by decide) (by decide)).mono ?_; rintro e w2 ⟨gd, g, F, H, v0, v1, rfl, hS, hb2⟩; refine of_halt ?_))
  unfold G.Halt
  have HS := Aside0.mk (show SlD F H w gd g 1 4 (new 12) slot0 slot0 v0 v1 w2 from hS)
  clear hS hb2
  go_wp2
  go_loopg [8, 7] 11 (fun kq v8 v7 w' => ∃ i E : Nat, v8 = .int .i64 (i : Int) ∧ v7 = .int .i64 (E : Int) ∧ Aside0 (i ≤ 10 ∧ i ≤ l0.length ∧ kq + i = 11) ∧ Aside0 (∃ F H d s0 s1 v0 v1, SlD F H w gd g 1 4 d s0 s1 v0 v1 w' ∧ TurnI i E d s0 s1))
  case atStart => exact ⟨0, 0, rfl, rfl, ⟨by omega⟩, ⟨F, H, _, _, _, _, _, HS.out, TurnI.start⟩⟩
  case round =>
    obtain ⟨i, E, rfl, rfl, HI, HD⟩ := hrel
    obtain ⟨F1, H1, d, s0, s1, u0, u1, hS, hT⟩ := HD.out
    have HS1 := Aside0.mk hS
    have HTI := Aside0.mk hT
    clear HD hS hT
    have hlen0 : l0.length ≤ 9223372036854775807 := Kd.C_max HR0.out.1
    have hlen1 : l1.length ≤ 9223372036854775807 := Kd.C_max HR1.out.1
    by_cases hi : i < l0.length ∧ i < 10
    · have x1_ : ((i : Int) < (l0.length : Int)) = True := eq_true (by omega)
      have x2_ : (i < l0.length) = True := eq_true hi.1
      have x3_ : ((i : Int) < 10) = True := eq_true (by omega)
      have x4_ : (i < 10) = True := eq_true hi.2
      have hE := HTI.out.e
      obtain ⟨ad, ys, Kr, ck, hA, hys, hcell0, hck, hrow⟩ := hdr_at HR0.out.1 i hi.1
      subst hA
      have hby := HBY.out ys (List.mem_of_getElem? hys)
      have hcell : wr.cell? (ad.add i) = some (.slice Kr ys.length ck) := (Below.cell HS1.out.fr_.below (cell_lt hcell0)).trans hcell0
      have HYS := Aside0.mk (And.intro hck (And.intro hrow hby))
      have HI2 := Aside0.mk hi
      have wi_ : wrap64 ((i : Int) + 1) = ((i + 1 : Nat) : Int) := wn rfl (by have := HI.out; omega)
      have hsteps : ∃ e : Nat, (E < e ∧ e ≤ E + 1000) ∧ ((((i : Int) < (l1.length : Int)) = False ∧ (i < l1.length) = False ∧ e = E + 1) ∨ (((i : Int) < (l1.length : Int)) = True ∧ (i < l1.length) = True ∧ ∃ q a r, A1 = some q ∧ wr.cell? (q.add i) = some (.int .i64 a) ∧ e = E + 1 + r ∧ wrap64 (Int.tmod (IntKind.u64.wrap a) 1000) = ((r : Nat) : Int) ∧ wrap64 (IntKind.u64.wrap a % 1000) = ((r : Nat) : Int))) := by
        by_cases h : i < l1.length
        · obtain ⟨q, e, hx⟩ := Kd.at_int (Kd.C_below HR1.out.1 HS1.out.fr_.below) (i : Int) (by omega) (by omega)
          rw [Int.toNat_natCast] at hx
          obtain ⟨r, hr, h1, h2⟩ := stepr (rd l1 (i : Int))
          exact ⟨E + 1 + r, by omega, .inr ⟨eq_true (by omega), eq_true h, q, _, r, e, hx, rfl, h1, h2⟩⟩
        · exact ⟨E + 1, by omega, .inl ⟨eq_false (by omega), eq_false h, rfl⟩⟩
      obtain ⟨e, he, hways⟩ := hsteps
      have HEE := Aside0.mk (And.intro he hE)
      have HBD := Aside0.mk (show e ≤ 20000 from by have := HI.out.1; omega)
      clear hcell0 hck hrow hby hys he hE hi hlen0 hlen1
      rcases hways with ⟨y1_, y2_, he⟩ | ⟨y1_, y2_, q, a, r, rfl, hc, he, m1, m2⟩
      · have w1_ : wrap64 ((E : Int) + 1) = (e : Int) := wn (by rw [he]; rfl) (Nat.lt_of_le_of_lt HBD.out (by decide))
        clear he
        have hrow := fun V (hV : Fr w V) => Kd.C_below HYS.out.2.1 hV.below
        have HRW := Aside0.mk hrow
        clear hrow
        by_cases hbig : 216 < ys.length
        · have z1_ : ((216 : Int) < (ys.length : Int)) = True := eq_true (by omega)
          have z2_ : (216 < ys.length) = True := eq_true hbig
          have HSV := Aside0.mk (HS1.out.save_big HT.out (HTI.out.room (Nat.le_trans HI.out.1 (by decide))) Kr ck ys (fun V hV => HRW.out V (HS1.out.kpFr hV)) HYS.out.1 (e : Int) (elim_e HTI.out.last HEE.out.1.1 HBD.out) (by omega))
          clear hbig
          go_wp2_with (first | (go_at_call 10; refine (HSV.out).mono ?_; rintro e5 w5 ⟨rfl, hb5⟩; refine of_halt ?_))
          unfold G.Halt
          have HF5 := Aside0.mk (HS1.out.fr_.then_below hb5)
          clear hb5
          go_wp2
          go_ret
          exact ⟨rfl, HF5.out.below⟩
        · have z1_ : ((216 : Int) < (ys.length : Int)) = False := eq_false (by omega)
          have z2_ : (216 < ys.length) = False := eq_false hbig
          have HSV := Aside0.mk (HS1.out.save_c HT.out (HTI.out.room (Nat.le_trans HI.out.1 (by decide))) Kr ck ys (fun V hV => HRW.out V (HS1.out.kpFr hV)) HYS.out.1 (e : Int) (elim_e HTI.out.last HEE.out.1.1 HBD.out) (by omega) HTI.out.left (by rw [HTI.out.len]; decide))
          have HBG := Aside0.mk hbig
          clear hbig
          go_wp2_with (first | (go_at_call 10; refine (HSV.out).mono ?_; rintro e5 w5 ⟨rfl, F5, H5, x0, x1, d5, hS5, hd5, hk5, hF5, hH5⟩; refine of_halt ?_))
          unfold G.Halt
          have hst := HTI.out.step hd5 HEE.out.1 (Nat.le_trans HI.out.1 (by decide)) (Nat.le_of_not_lt HBG.out) HYS.out.2.2
          obtain ⟨t0, ht0⟩ : ∃ t0, putS (saveK s0 s1) 0 (e : Int) ys s0 = t0 := ⟨_, rfl⟩
          obtain ⟨t1, ht1⟩ : ∃ t1, putS (saveK s0 s1) 1 (e : Int) ys s1 = t1 := ⟨_, rfl⟩
          rw [ht0, ht1] at hst hS5
          have HS5 := Aside0.mk hS5
          have HST := Aside0.mk hst
          clear hS5 hd5 hk5 hF5 hH5 hst ht0 ht1
          have HOP := Aside0.mk (SOpen_c F5 gd 1 4 d5 w5 (Kd.C_below HT.out HS5.out.fr_.below) HS5.out.dk (HST.out.1.room (Nat.le_trans (Nat.succ_le_succ HI.out.1) (by decide))).small (down_none HST.out.1.left) (by decide) (by rw [HST.out.1.len]; decide) (by rw [HST.out.1.len]; decide) HST.out.1.bytes)
          go_wp2_with (first | (go_at_call 11; refine (HOP.out).mono ?_; rintro e6 w6 ⟨H6, g6, y0, y1, rfl, hS6, hH6, hb6⟩; refine of_halt ?_))
          unfold G.Halt
          rw [HST.out.1.r0, HST.out.1.r1] at hS6
          have HS6 := Aside0.mk (HS5.out.below hb6)
          have HO6 := Aside0.mk hS6
          clear hS6 hH6 hb6
          have hq : ((i % 2 : Nat) : Int) = (i : Int) % 2 := by omega
          obtain ⟨p, hp⟩ : ∃ p : Nat, p = i % 2 := ⟨_, rfl⟩
          have p1_ : Int.tmod (i : Int) 2 = (p : Int) := by rw [Int.tmod_eq_emod_of_nonneg (by omega), hp]; omega
          have p2_ : (i : Int) % 2 = (p : Int) := by rw [hp]; omega
          have p3_ : wrap64 (p : Int) = (p : Int) := wn rfl (by omega)
          have hwh := HST.out.2.1
          rw [← hp] at hwh
          have HWH := Aside0.mk hwh
          clear hq hp hwh
          go_wp2_with (first | (go_at_call 9; refine (HS6.out.which_c).mono ?_; rintro e7 w7 ⟨rfl, hb7⟩; refine of_halt ?_))
          unfold G.Halt
          rw [HWH.out]
          have HS7 := Aside0.mk (And.intro (HS6.out.below hb7) (HO6.out.below hb7))
          clear hb7
          go_wp2_with (first | (go_at_call 9; refine (Which_c H6 g6 gd 1 4 t0 t1 y0 y1 w7 HS7.out.2).mono ?_; rintro e8 w8 ⟨rfl, hb8⟩; refine of_halt ?_))
          unfold G.Halt
          rw [HWH.out]
          have HS8 := Aside0.mk (And.intro (HS7.out.1.below hb8) (HS7.out.2.below hb8))
          clear hb8
          go_wp2_with (first | (go_at_call 8; refine (Latest_c H6 g6 gd 1 4 t0 t1 y0 y1 w8 HS8.out.2).mono ?_; rintro e9 w9 ⟨v9, rfl, hR9, hb9⟩; refine of_halt ?_))
          unfold G.Halt
          rw [HST.out.1.last, HWH.out, show decide ((0 : Int) ≤ (p : Int)) = true from decide_eq_true (Int.natCast_nonneg p)]
          rw [HST.out.2.2] at hR9
          obtain ⟨A9, c9, rfl⟩ := Kd.R_slice hR9
          have HS9 := Aside0.mk (HS8.out.1.below hb9)
          have hs9 := own_string (P := Tryd.prog) (src := 22) (dst := 9) Tryd.underlying22 Tryd.underlying5 Tryd.underlying9 (Kd.own_of_R hR9)
          have hy9 := Kd.C_string (P := Tryd.prog) (src := 22) (dst := 9) Tryd.underlying22 Tryd.underlying5 Tryd.underlying9 (c := ck) (HRW.out w9 HS9.out.fr_)
          clear hR9 hb9 p1_ p2_ p3_
          have HNO := Aside0.mk (HS9.out.save_no HT.out (HST.out.1.room (Nat.le_trans (Nat.succ_le_succ HI.out.1) (by decide))) Kr ck ys (fun V hV => HRW.out V (HS9.out.kpFr hV)) HYS.out.1 (e : Int) (.inl (by rw [HST.out.1.last]; exact Int.le_refl _)))
          go_wp2_with (first | (go_at_call 10; refine (HNO.out).mono ?_; rintro e10 w10 ⟨rfl, hb10⟩; refine of_halt ?_))
          unfold G.Halt
          have HS10 := Aside0.mk (HS9.out.below hb10)
          clear hb10 hs9 hy9
          go_wp2
          go_roundg (gk - 1)
          case measure => have := HI.out; omega
          case rel => exact ⟨i + 1, e, by first | rw [wi_] | rfl | simp, rfl, ⟨by have := HI.out; have := HI2.out; omega⟩, ⟨F5, H5, d5, t0, t1, x0, x1, HS10.out, HST.out.1⟩⟩
      · obtain ⟨e1, he1⟩ : ∃ e1 : Nat, e1 = E + 1 := ⟨_, rfl⟩
        have w1_ : wrap64 ((E : Int) + 1) = (e1 : Int) := wn (by rw [he1]; rfl) (Nat.lt_of_le_of_lt (Nat.le_trans (by rw [he1]; exact HEE.out.1.1) HBD.out) (by decide))
        have w2_ : wrap64 ((e1 : Int) + (r : Int)) = (e : Int) := wn (by rw [he, he1]; rfl) (Nat.lt_of_le_of_lt HBD.out (by decide))
        clear he he1
        have hrow := fun V (hV : Fr w V) => Kd.C_below HYS.out.2.1 hV.below
        have HRW := Aside0.mk hrow
        clear hrow
        by_cases hbig : 216 < ys.length
        · have z1_ : ((216 : Int) < (ys.length : Int)) = True := eq_true (by omega)
          have z2_ : (216 < ys.length) = True := eq_true hbig
          have HSV := Aside0.mk (HS1.out.save_big HT.out (HTI.out.room (Nat.le_trans HI.out.1 (by decide))) Kr ck ys (fun V hV => HRW.out V (HS1.out.kpFr hV)) HYS.out.1 (e : Int) (elim_e HTI.out.last HEE.out.1.1 HBD.out) (by omega))
          clear hbig
          go_wp2_with (first | (go_at_call 10; refine (HSV.out).mono ?_; rintro e5 w5 ⟨rfl, hb5⟩; refine of_halt ?_))
          unfold G.Halt
          have HF5 := Aside0.mk (HS1.out.fr_.then_below hb5)
          clear hb5
          go_wp2
          go_ret
          exact ⟨rfl, HF5.out.below⟩
        · have z1_ : ((216 : Int) < (ys.length : Int)) = False := eq_false (by omega)
          have z2_ : (216 < ys.length) = False := eq_false hbig
          have HSV := Aside0.mk (HS1.out.save_c HT.out (HTI.out.room (Nat.le_trans HI.out.1 (by decide))) Kr ck ys (fun V hV => HRW.out V (HS1.out.kpFr hV)) HYS.out.1 (e : Int) (elim_e HTI.out.last HEE.out.1.1 HBD.out) (by omega) HTI.out.left (by rw [HTI.out.len]; decide))
          have HBG := Aside0.mk hbig
          clear hbig
          go_wp2_with (first | (go_at_call 10; refine (HSV.out).mono ?_; rintro e5 w5 ⟨rfl, F5, H5, x0, x1, d5, hS5, hd5, hk5, hF5, hH5⟩; refine of_halt ?_))
          unfold G.Halt
          have hst := HTI.out.step hd5 HEE.out.1 (Nat.le_trans HI.out.1 (by decide)) (Nat.le_of_not_lt HBG.out) HYS.out.2.2
          obtain ⟨t0, ht0⟩ : ∃ t0, putS (saveK s0 s1) 0 (e : Int) ys s0 = t0 := ⟨_, rfl⟩
          obtain ⟨t1, ht1⟩ : ∃ t1, putS (saveK s0 s1) 1 (e : Int) ys s1 = t1 := ⟨_, rfl⟩
          rw [ht0, ht1] at hst hS5
          have HS5 := Aside0.mk hS5
          have HST := Aside0.mk hst
          clear hS5 hd5 hk5 hF5 hH5 hst ht0 ht1
          have HOP := Aside0.mk (SOpen_c F5 gd 1 4 d5 w5 (Kd.C_below HT.out HS5.out.fr_.below) HS5.out.dk (HST.out.1.room (Nat.le_trans (Nat.succ_le_succ HI.out.1) (by decide))).small (down_none HST.out.1.left) (by decide) (by rw [HST.out.1.len]; decide) (by rw [HST.out.1.len]; decide) HST.out.1.bytes)
          go_wp2_with (first | (go_at_call 11; refine (HOP.out).mono ?_; rintro e6 w6 ⟨H6, g6, y0, y1, rfl, hS6, hH6, hb6⟩; refine of_halt ?_))
          unfold G.Halt
          rw [HST.out.1.r0, HST.out.1.r1] at hS6
          have HS6 := Aside0.mk (HS5.out.below hb6)
          have HO6 := Aside0.mk hS6
          clear hS6 hH6 hb6
          have hq : ((i % 2 : Nat) : Int) = (i : Int) % 2 := by omega
          obtain ⟨p, hp⟩ : ∃ p : Nat, p = i % 2 := ⟨_, rfl⟩
          have p1_ : Int.tmod (i : Int) 2 = (p : Int) := by rw [Int.tmod_eq_emod_of_nonneg (by omega), hp]; omega
          have p2_ : (i : Int) % 2 = (p : Int) := by rw [hp]; omega
          have p3_ : wrap64 (p : Int) = (p : Int) := wn rfl (by omega)
          have hwh := HST.out.2.1
          rw [← hp] at hwh
          have HWH := Aside0.mk hwh
          clear hq hp hwh
          go_wp2_with (first | (go_at_call 9; refine (HS6.out.which_c).mono ?_; rintro e7 w7 ⟨rfl, hb7⟩; refine of_halt ?_))
          unfold G.Halt
          rw [HWH.out]
          have HS7 := Aside0.mk (And.intro (HS6.out.below hb7) (HO6.out.below hb7))
          clear hb7
          go_wp2_with (first | (go_at_call 9; refine (Which_c H6 g6 gd 1 4 t0 t1 y0 y1 w7 HS7.out.2).mono ?_; rintro e8 w8 ⟨rfl, hb8⟩; refine of_halt ?_))
          unfold G.Halt
          rw [HWH.out]
          have HS8 := Aside0.mk (And.intro (HS7.out.1.below hb8) (HS7.out.2.below hb8))
          clear hb8
          go_wp2_with (first | (go_at_call 8; refine (Latest_c H6 g6 gd 1 4 t0 t1 y0 y1 w8 HS8.out.2).mono ?_; rintro e9 w9 ⟨v9, rfl, hR9, hb9⟩; refine of_halt ?_))
          unfold G.Halt
          rw [HST.out.1.last, HWH.out, show decide ((0 : Int) ≤ (p : Int)) = true from decide_eq_true (Int.natCast_nonneg p)]
          rw [HST.out.2.2] at hR9
          obtain ⟨A9, c9, rfl⟩ := Kd.R_slice hR9
          have HS9 := Aside0.mk (HS8.out.1.below hb9)
          have hs9 := own_string (P := Tryd.prog) (src := 22) (dst := 9) Tryd.underlying22 Tryd.underlying5 Tryd.underlying9 (Kd.own_of_R hR9)
          have hy9 := Kd.C_string (P := Tryd.prog) (src := 22) (dst := 9) Tryd.underlying22 Tryd.underlying5 Tryd.underlying9 (c := ck) (HRW.out w9 HS9.out.fr_)
          clear hR9 hb9 p1_ p2_ p3_
          have HNO := Aside0.mk (HS9.out.save_no HT.out (HST.out.1.room (Nat.le_trans (Nat.succ_le_succ HI.out.1) (by decide))) Kr ck ys (fun V hV => HRW.out V (HS9.out.kpFr hV)) HYS.out.1 (e : Int) (.inl (by rw [HST.out.1.last]; exact Int.le_refl _)))
          go_wp2_with (first | (go_at_call 10; refine (HNO.out).mono ?_; rintro e10 w10 ⟨rfl, hb10⟩; refine of_halt ?_))
          unfold G.Halt
          have HS10 := Aside0.mk (HS9.out.below hb10)
          clear hb10 hs9 hy9
          go_wp2
          go_roundg (gk - 1)
          case measure => have := HI.out; omega
          case rel => exact ⟨i + 1, e, by first | rw [wi_] | rfl | simp, rfl, ⟨by have := HI.out; have := HI2.out; omega⟩, ⟨F5, H5, d5, t0, t1, x0, x1, HS10.out, HST.out.1⟩⟩
    · have hx : ((i < l0.length) = False ∧ ((i : Int) < (l0.length : Int)) = False) ∨ ((i < l0.length) = True ∧ ((i : Int) < (l0.length : Int)) = True ∧ (i < 10) = False ∧ ((i : Int) < 10) = False) := by
        by_cases h : i < l0.length
        · exact .inr ⟨eq_true h, eq_true (by omega), eq_false (by omega), eq_false (by omega)⟩
        · exact .inl ⟨eq_false h, eq_false (by omega)⟩
      clear hi
      rcases hx with ⟨e1, e2⟩ | ⟨e1, e2, e3, e4⟩
      all_goals
        go_wp2
        go_ret
        exact ⟨rfl, HS1.out.fr_.below⟩
end Go.Proofs.YthpholjelfajiaaDoor.X
