/- RunsLinks, walked. By hand. -/
import Derived.Test.YteldofimjklckaaWorksT
import Derived.Test.YteldofimjklckaaX2
import Derived.Test.YteldofimjklckaaX12
import Derived.Deep.QuietTactic
import Derived.BigQuiet
import Derived.IntWalk
namespace Go.Proofs.Yteldofimjklckaa.G
open Go.RowKit Go.Proofs.Yteldofimjklckaa.X Go.Proofs.YteldofimjklckaaW.PrintWords Go.Proofs.YteldofimjklckaaW.PrintLast Go.Proofs.YteldofimjklckaaW.PrintMore Go.Proofs.Yteldofimjklckaa.Exp Go.Proofs.Yteldofimjklckaa.Run Go.Proofs.Yteldofimjklckaa.Iso
set_option linter.unusedVariables false
set_option linter.unusedSimpArgs false

theorem lstarts_eq (x : Int) : colophonlaw08_starts.f x = some (st x) := by
  unfold colophonlaw08_starts.f st
  by_cases h1 : x = 20
  · simp [h1]
  · by_cases h2 : x = 21
    · simp [h2]
    · simp [h1, h2]
/-- Is something kept among so many places? -/
def anyK (l : List Int) (p : Nat) : Nat → Bool
  | 0 => false
  | d + 1 => anyK l p d || decide (0 ≤ rd l ((p + d : Nat) : Int))
theorem anyK_false (l : List Int) (p : Nat) : ∀ d, (∀ j, p ≤ j → j < p + d → j < l.length ∧ kp l j = false) → anyK l p d = false
  | 0, _ => rfl
  | d + 1, h => by
    have h1 := anyK_false l p d (fun j a b => h j a (by omega))
    obtain ⟨h2, h3⟩ := h (p + d) (by omega) (by omega)
    simp only [anyK, h1, Bool.false_or]
    rw [rd_nat, ← getD_same l _ h2]
    exact h3
def LawPost (w : World) (e : Ending) (w' : World) : Prop := e = .returned (.bool true) ∧ Below w.heap.size w w'
set_option maxHeartbeats 16000000 in
set_option maxRecDepth 100000 in
theorem links_main (A0 : Option Addr) (c0 : Nat) (c : List Int) (base : Int) (w : World) (hr0 : Kd.C (Kd.int .i64) w A0 c.length c) (hc0 : c.length ≤ c0) (hl : c.length ≤ 2000) (hB : base = 0 ∨ base = 1) (hf : formed c) :
    Calls Try.prog 6 #[.slice A0 c.length c0, .int .i64 base] w (LawPost w) := by
  have hb0 : 0 ≤ base := by rcases hB with rfl | rfl <;> decide
  have hb : base ≤ 125 := by rcases hB with rfl | rfl <;> decide
  have hSeq := seq_ok c base (by omega) hB hf
  have hRes := res_ok c base (by omega) hB hf
  obtain ⟨km, hkm⟩ := Ev.rounds (Iso.Match_ev c (by omega))
  have b1 : decide ((2000 : Int) < (c.length : Int)) = false := decide_eq_false (by omega)
  have b2 : decide (2000 < c.length) = false := decide_eq_false (by omega)
  obtain ⟨S, hS⟩ : ∃ S, (seqList c base).map toS = S := ⟨_, rfl⟩
  have hSl : S.length = (roots c base).length := by rw [← hS]; simp [seqList]
  have hrl : (roots c base).length ≤ 2000 := by
    have := sorted_len (roots c base) 0 c.length roots_sorted (fun x hx => ⟨Nat.zero_le _, (mem_roots.1 hx).1⟩)
    omega
  rw [hS] at hSeq
  have HS := Aside0.mk (And.intro hS (And.intro hSl hrl))
  have HSQ := Aside0.mk hSeq
  have HRS := Aside0.mk hRes
  have HKM := Aside0.mk hkm
  have HR0 := Aside0.mk hr0
  have HC0 := Aside0.mk hc0
  have HL := Aside0.mk hl
  have HF := Aside0.mk (And.intro hf (And.intro hb0 hb))
  clear hSeq hRes hkm hr0 hc0 hl hB hf hb0 hb hS hSl hrl
  go_enter Try.func6, Try.ntmps6
  go_wp2_with (first | (go_at_call 9; refine (works_calls _).mono ?_; rintro e w1 ⟨rfl, hb1⟩; refine of_halt ?_))
  unfold Halt
  have HB1 := Aside0.mk hb1
  clear hb1
  go_wp2_with (first | (go_at_call 14; refine of_halt ?_))
  unfold Halt
  refine (runs_Sequences.calls A0 c0 c base _ _ _ (Kd.C_below HR0.out HB1.out) HC0.out HSQ.out).mono ?_
  rintro e w2 ⟨vs, rfl, hos, hb2⟩
  obtain ⟨As, cs, rfl, hcs, hCs⟩ := Kd.S_reads hos
  have HB2 := Aside0.mk (below_step HB1.out hb2)
  have HOS := Aside0.mk hCs
  clear hos hb2 hcs hCs
  dsimp only
  go_wp2_with (first | (go_at_call 16; refine of_halt ?_))
  unfold Halt
  refine (explicit_Resolve.calls A0 c0 c base _ _ _ _ (Kd.C_below HR0.out HB2.out) HC0.out HRS.out).mono ?_
  rintro e w3 ⟨vl, vt, rfl, hol, hot, hb3⟩
  obtain ⟨Al, cl, rfl, hcl, hCl⟩ := Kd.R_reads hol
  rw [lvs_length] at hcl hCl ⊢
  have HB3 := Aside0.mk (below_step HB2.out hb3)
  have HOS3 := Aside0.mk (Kd.C_below HOS.out hb3)
  have HOL := Aside0.mk hCl
  clear hol hot hb3 hcl hCl HOS
  dsimp only
  go_wp2_with (first | (go_at_call 17; refine of_halt ?_))
  unfold Halt
  refine (isolate_Match.calls km A0 c0 c (mts c) _ (Kd.C_below HR0.out HB3.out) HC0.out HKM.out).mono ?_
  rintro e w4 ⟨vm, rfl, hom, hb4⟩
  obtain ⟨Am, cm, rfl, hcm, hCm⟩ := Kd.R_reads hom
  rw [mts_length] at hcm hCm ⊢
  have HB4 := Aside0.mk (below_step HB3.out hb4)
  have HOS4 := Aside0.mk (Kd.C_below HOS3.out hb4)
  have HOL4 := Aside0.mk (Kd.C_below HOL.out hb4)
  have HOM4 := Aside0.mk hCm
  have HOC4 := Aside0.mk (Kd.C_below HR0.out HB4.out)
  clear hom hb4 hcm hCm HOS3 HOL
  dsimp only
  go_wp2
  obtain ⟨Ln, hLn⟩ : ∃ n, S.length = n := ⟨_, rfl⟩
  rw [hLn]
  have HLn := Aside0.mk hLn
  have hOS := HOS4.out
  rw [hLn] at hOS
  have HOSn := Aside0.mk hOS
  clear hLn hOS
  go_loopg [46] (Ln + 1) (fun kq v46 w' => ∃ j : Nat, v46 = .int .i64 (j : Int) ∧ Aside0 (j ≤ Ln) ∧ Aside0 (kq + j = Ln + 1) ∧ Aside0 (Below w4.heap.size w4 w'))
  case atStart => exact ⟨0, rfl, ⟨Nat.zero_le _⟩, ⟨rfl⟩, ⟨Below.refl _ _⟩⟩
  case round =>
    obtain ⟨j, rfl, HJ, HJQ, HBJ⟩ := hrel
    obtain ⟨gj, hgj⟩ : ∃ n, n = gk := ⟨_, rfl⟩
    rw [← hgj] at HJQ
    have HGJ := Aside0.mk hgj
    clear hgj
    by_cases hlt : j < Ln
    · have hjr : j < (roots c base).length := by rw [← HS.out.2.1, HLn.out]; exact hlt
      obtain ⟨g, hg⟩ : ∃ g, (roots c base)[j] = g := ⟨_, rfl⟩
      obtain ⟨g1, g2, g3⟩ := mem_roots.1 (hg ▸ List.getElem_mem hjr : g ∈ roots c base)
      have hel : rd_T36 S (j : Int) = toS (seqOf c base g) := by
        unfold rd_T36
        rw [← HS.out.1, Int.toNat_natCast]
        unfold seqList
        rw [List.map_map, List.getD_eq_getElem?_getD, List.getElem?_map, List.getElem?_eq_getElem hjr, hg]
        rfl
      obtain ⟨ads, Aj, cj, eAs, hx0, hx1, hx2, hx3, hlj, hrj⟩ := at_T36 (Kd.C_below HOSn.out HBJ.out) (j : Int) (by omega) (by omega)
      subst eAs
      rw [hel] at hx0 hx1 hx2 hx3 hlj hrj
      change _ = some (Value.slice Aj (toI (places c base c.length g)).length cj) at hx0
      change (Kd.int .i64).C wr Aj (toI (places c base c.length g)).length (toI (places c base c.length g)) at hrj
      generalize (toS (seqOf c base g)).f1 = y1 at hx1
      generalize (toS (seqOf c base g)).f2 = y2 at hx2
      generalize (toS (seqOf c base g)).f3 = y3 at hx3
      rw [Int.toNat_natCast] at hx0 hx1 hx2 hx3
      obtain ⟨q1, q2, q3, q4, q5⟩ := seq_places HF.out.1 HF.out.2.1 HF.out.2.2 g g2
      obtain ⟨m, N, hN, hm⟩ : ∃ m N, (toI (places c base c.length g)).length = N ∧ N = m + 1 := ⟨(toI (places c base c.length g)).length - 1, _, rfl, by
        have := List.length_pos_iff.2 q3
        rw [toI_length]; omega⟩
      rw [hN] at hx0 hrj
      have bN : ((N : Int) == 0) = false := beq_eq_false_iff_ne.2 (by omega)
      have i1 : ((j : Int) < (Ln : Int)) = True := eq_true (by omega)
      have i2 : (j < Ln) = True := eq_true hlt
      have HRJ := Aside0.mk hrj
      have HG := Aside0.mk (And.intro g1 (And.intro g2 g3))
      have HN := Aside0.mk (And.intro hN (And.intro hm (And.intro q1 (And.intro q3 q4))))
      have HLT := Aside0.mk hlt
      clear hjr hg g1 g2 g3 hel hlj hrj q1 q2 q3 q4 q5 hN hm hlt
      go_upto_region 16 with (fail)
      have hbx := blk_new wr (.cells #[.slice Aj N cj, .int .i64 y1, .int .i64 y2, .int .i64 y3] 36)
      have hBX := below_alloc (Below.refl wr.heap.size wr) (.cells #[.slice Aj N cj, .int .i64 y1, .int .i64 y2, .int .i64 y3] 36)
      generalize wr.alloc (.cells #[.slice Aj N cj, .int .i64 y1, .int .i64 y2, .int .i64 y3] 36) = WX at *
      generalize wr.heap.size = bx at hbx ⊢
      have hb4 := HBJ.out.trans (hBX.mono HBJ.out.size)
      obtain ⟨e, he⟩ : ∃ e, (places c base c.length g).getLastD 0 = e := ⟨_, rfl⟩
      have hlast := last_get HN.out.2.2.2.1 [] m (by rw [List.nil_append]; exact HN.out.1.trans HN.out.2.1)
      rw [he, List.nil_append] at hlast
      have hel : e < c.length := by rw [← he]; exact HN.out.2.2.2.2
      have hfirst : rd (toI (places c base c.length g)) 0 = (g : Int) := by
        obtain ⟨m', hm'⟩ : ∃ m', c.length = m' + 1 := ⟨c.length - 1, by have := HG.out.1; omega⟩
        obtain ⟨t, ht⟩ := places_head (c := c) (base := base) m' g HG.out.2.1
        rw [hm', ht]
        rfl
      have hrx := Kd.C_below HRJ.out hBX
      obtain ⟨ada, eAj, hf0⟩ := Kd.at_int hrx 0 (by omega) (by have := HN.out.2.1; omega)
      subst eAj
      rw [hfirst] at hf0
      have hf0' : WX.cell? ada = some (.int .i64 (g : Int)) := by simpa [Addr.add] using hf0
      obtain ⟨ada', eAj', hfm⟩ := Kd.at_int hrx (m : Int) (by omega) (by have := HN.out.2.1; omega)
      injection eAj' with eAj'
      subst eAj'
      rw [hlast, Int.toNat_natCast] at hfm
      have hcx := (blk_cell hbx 0).trans (show _ = some (Value.slice (some ada) N cj) from rfl)
      have e1 : IntKind.i64.wrap ((N : Int) - 1) = (m : Int) := by rw [IntWalk.i64_in _ (by have := HN.out.1; have := HN.out.2.1; have := HN.out.2.2.1; have := HL.out; rw [toI_length] at *; omega)]; have := HN.out.2.1; omega
      have p1 : ((0 : Int) ≤ (m : Int)) = True := eq_true (by omega)
      have p2 : ((m : Int) < (N : Int)) = True := eq_true (by have := HN.out.2.1; omega)
      have p3 : (m < N) = True := eq_true (by have := HN.out.2.1; omega)
      have p4 : ((0 : Int) < (N : Int)) = True := eq_true (by have := HN.out.2.1; omega)
      have p5 : (0 < N) = True := eq_true (by have := HN.out.2.1; omega)
      have HBX := Aside0.mk hbx
      have HB4X := Aside0.mk hb4
      have HRX := Aside0.mk hrx
      have HE := Aside0.mk (And.intro he hel)
      clear hbx hBX hb4 he hlast hel hfirst hrx hf0 hx0 hx1 hx2 hx3
      go_quiet (fail)
      rename Nat => nqa
      clear e1 hf0' hfm hcx p1 p2 p3 p4 p5
      have hbd := pw_below_drewN (Below.refl WX.heap.size WX) nqa
      generalize World.drewN WX nqa = WY at *
      have HBY := Aside0.mk hbd
      have hb4Y := HB4X.out.trans (hbd.mono HB4X.out.size)
      have HB4Y := Aside0.mk hb4Y
      obtain ⟨adc, eA0, hxc⟩ := Kd.at_int (Kd.C_below HOC4.out hb4Y) (g : Int) (by omega) (by have := HG.out.1; omega)
      subst eA0
      obtain ⟨adm, eAm, hxm⟩ := Kd.at_int (Kd.C_below HOM4.out hb4Y) (g : Int) (by omega) (by have := HG.out.1; omega)
      subst eAm
      obtain ⟨adc', eA0', hxe⟩ := Kd.at_int (Kd.C_below HOC4.out hb4Y) (e : Int) (by omega) (by have := HE.out.2; omega)
      injection eA0' with eA0'
      subst eA0'
      obtain ⟨adm', eAm', hme⟩ := Kd.at_int (Kd.C_below HOM4.out hb4Y) (e : Int) (by omega) (by have := HE.out.2; omega)
      injection eAm' with eAm'
      subst eAm'
      rw [Int.toNat_natCast] at hxc hxm hxe hme
      have hmte := mts_rd c e HE.out.2
      have how : owned c g = ((rd c (g : Int) == 23) && decide (0 ≤ rd (mts c) (g : Int))) := by unfold owned; rw [rd_nat, mts_rd c g HG.out.1]
      rw [HG.out.2.2] at how
      have hcA : ((rd c (g : Int) == 23) = true ∧ decide (0 ≤ rd (mts c) (g : Int)) = false) ∨ (rd c (g : Int) == 23) = false := by
        revert how
        cases (rd c (g : Int) == 23) <;> cases decide (0 ≤ rd (mts c) (g : Int)) <;> simp
      have hend := ends HF.out.1 HF.out.2.1 HF.out.2.2 c.length g HG.out.2.1 (by omega)
      rw [HE.out.1] at hend
      have hcB : st (rd c (e : Int)) = false ∨ st (rd c (e : Int)) = true ∧ decide (rd (mts c) (e : Int) < (c.length : Int)) = false := by
        cases hs : st (rd c (e : Int)) with
        | false => exact .inl rfl
        | true =>
          right
          refine ⟨rfl, ?_⟩
          rw [rd_nat] at hs
          have hp : ¬ partner c e < c.length := fun h => hend ⟨hs, h⟩
          rw [hmte]
          unfold mtc
          rw [if_pos hs]
          exact decide_eq_false (by omega)
      have i3 : ((g : Int) < (c.length : Int)) = True := eq_true (by have := HG.out.1; omega)
      have i4 : (g < c.length) = True := eq_true HG.out.1
      have i5 : ((e : Int) < (c.length : Int)) = True := eq_true (by have := HE.out.2; omega)
      have i6 : (e < c.length) = True := eq_true HE.out.2
      have hst : ∀ V, Calls Try.prog 18 #[.int .i64 (rd c (e : Int))] V (fun e' w' => e' = .returned (.bool (st (rd c (e : Int)))) ∧ Drawn0 V w') := fun V => colophonlaw08_starts.calls (rd c (e : Int)) _ V (lstarts_eq _)
      generalize rd (mts c) (e : Int) = me at *
      generalize rd (mts c) (g : Int) = mg at *
      generalize hcg : rd c (g : Int) = cg at *
      generalize hce : rd c (e : Int) = ce at *
      generalize hsb : st ce = sb at *
      have HST := Aside0.mk hst
      clear hmte how hend hst hbd hb4Y hcg hce hsb
      rcases hcA with ⟨a1, a2⟩ | a1
      all_goals
        rcases hcB with rfl | ⟨rfl, a3⟩
      all_goals
        go_upto_region 19 with (first | (go_at_call 18; refine (HST.out _).mono ?_; rintro e' w17 ⟨rfl, ⟨nd17, rfl⟩⟩))
        have hB17 := below_step HBY.out (pw_below_drewN (Below.refl WY.heap.size WY) nd17)
        generalize World.drewN WY nd17 = W17 at *
        have HB17 := Aside0.mk hB17
        clear hB17 hxc hxm hxe hme a1 i3 i4 i5 i6
        go_wp2
        go_loopg [16] (N + 1) (fun kq v16 w' => ∃ k : Nat, v16 = .int .i64 (k : Int) ∧ Aside0 (1 ≤ k ∧ k ≤ N) ∧ Aside0 (kq + k = N + 2) ∧ Aside0 (Below WX.heap.size WX w'))
        case atStart => exact ⟨1, rfl, ⟨⟨Nat.le_refl _, by have := HN.out.2.1; omega⟩⟩, ⟨by omega⟩, HB17⟩
        case round =>
          obtain ⟨k, rfl, HK, HKQ, HBK⟩ := hrel
          by_cases hkn : k < N
          · obtain ⟨k1, hk1⟩ : ∃ k1, k = k1 + 1 := ⟨k - 1, by have := HK.out; omega⟩
            have hlen : (places c base c.length g).length = N := by have := HN.out.1; rw [toI_length] at this; exact this
            obtain ⟨p, hp⟩ : ∃ p, (places c base c.length g)[k1]'(by omega) = p := ⟨_, rfl⟩
            obtain ⟨q, hq⟩ : ∃ q, (places c base c.length g)[k1 + 1]'(by omega) = q := ⟨_, rfl⟩
            have hlk := links HF.out.1 HF.out.2.1 HF.out.2.2 c.length g HG.out.2.1 k1 (by omega)
            rw [hp, hq] at hlk
            have hpm := (mem_places HF.out.1 HF.out.2.1 HF.out.2.2 c.length g HG.out.2.1 p).1 (hp ▸ List.getElem_mem _)
            have hqm := (mem_places HF.out.1 HF.out.2.1 HF.out.2.2 c.length g HG.out.2.1 q).1 (hq ▸ List.getElem_mem _)
            have hpq : p < q := by
              rw [← hp, ← hq]
              exact List.pairwise_iff_getElem.1 (places_sorted HF.out.1 HF.out.2.1 HF.out.2.2 c.length g HG.out.2.1) k1 (k1 + 1) (by omega) (by omega) (by omega)
            have hrp : rd (toI (places c base c.length g)) (k1 : Int) = (p : Int) := by rw [rd_nat]; simp [toI, ← hp, show k1 < (places c base c.length g).length by omega]
            have hrq : rd (toI (places c base c.length g)) (k : Int) = (q : Int) := by rw [hk1, rd_nat]; simp [toI, ← hq, show k1 + 1 < (places c base c.length g).length by omega]
            have HCX : ∀ V, Below WX.heap.size WX V → V.cell? ⟨bx, 0, none⟩ = some (.slice (some ada) N cj) ∧ V.cell? (ada.add k1) = some (.int .i64 (p : Int)) ∧ V.cell? (ada.add k) = some (.int .i64 (q : Int)) := fun V hV => by
              refine ⟨(blk_cell (blk_below HBX.out hV) 0).trans rfl, ?_, ?_⟩
              · obtain ⟨a_, e_, h_⟩ := Kd.at_int (Kd.C_below HRX.out hV) (k1 : Int) (by omega) (by omega)
                injection e_ with e_
                subst e_
                rw [hrp, Int.toNat_natCast] at h_
                exact h_
              · obtain ⟨a_, e_, h_⟩ := Kd.at_int (Kd.C_below HRX.out hV) (k : Int) (by omega) (by omega)
                injection e_ with e_
                subst e_
                rw [hrq, Int.toNat_natCast] at h_
                exact h_
            have HCX := Aside0.mk HCX
            have HPQ := Aside0.mk (And.intro hpq (And.intro hpm.1 hqm.1))
            have HLK := Aside0.mk hlk
            have HK1 := Aside0.mk (And.intro hk1 hkn)
            obtain ⟨hc1, hc2, hc3⟩ := HCX.out _ HBK.out
            have e1 : wrap64 ((k : Int) - 1) = (k1 : Int) := by have := HL.out; have := HN.out.2.2.1; unfold wrap64; omega
            have e2 : wrap64 ((p : Int) + 1) = ((p + 1 : Nat) : Int) := by have := HL.out; have := hpm.1; unfold wrap64; omega
            have n1 : ((k : Int) < (N : Int)) = True := eq_true (by omega)
            have n2 : (k < N) = True := eq_true hkn
            have n3 : ((k1 : Int) < (N : Int)) = True := eq_true (by omega)
            have n4 : (k1 < N) = True := eq_true (by omega)
            have n5 : ((0 : Int) ≤ (k1 : Int)) = True := eq_true (by omega)
            clear hlen hp hq hlk hpm hqm hpq hrp hrq hk1 hkn
            go_wp2
            obtain ⟨gk2, hgk2⟩ : ∃ n, n = gk := ⟨_, rfl⟩
            rw [← hgk2] at HKQ
            have HGK2 := Aside0.mk hgk2
            clear hgk2 hc1 hc2 hc3
            go_loopg [17, 18] (q + 1) (fun kq v17 v18 w' => ∃ d : Nat, v17 = .bool (anyK (lvs c base) (p + 1) d) ∧ v18 = .int .i64 ((p + 1 + d : Nat) : Int) ∧ Aside0 (p + 1 + d ≤ q) ∧ Aside0 (kq + (p + 1 + d) = q + 1 + (p + 1)) ∧ Aside0 (Below WX.heap.size WX w'))
            case atStart => exact ⟨0, rfl, congrArg (Value.int .i64) e2, ⟨by have := HPQ.out.1; omega⟩, ⟨by omega⟩, HBK⟩
            case round =>
              obtain ⟨d, rfl, rfl, HD, HDQ, HBD⟩ := hrel
              obtain ⟨hc1, hc2, hc3⟩ := HCX.out _ HBD.out
              obtain ⟨i, hi⟩ : ∃ i, p + 1 + d = i := ⟨_, rfl⟩
              have HI := Aside0.mk hi
              rw [hi] at HD HDQ ⊢
              have hak : anyK (lvs c base) (p + 1) (d + 1) = (anyK (lvs c base) (p + 1) d || decide (0 ≤ rd (lvs c base) (i : Int))) := by rw [anyK, hi]
              have HAK := Aside0.mk hak
              clear hak hi
              by_cases hiq : i < q
              · have hil : i < c.length := by have := HPQ.out.2.2; omega
                obtain ⟨adl, eAl, hxl⟩ := Kd.at_int (Kd.C_below HOL4.out (HB4X.out.trans (HBD.out.mono HB4X.out.size))) (i : Int) (by omega) (by omega)
                subst eAl
                rw [Int.toNat_natCast] at hxl
                have n6 : ((i : Int) < (q : Int)) = True := eq_true (by omega)
                have n7 : (i < q) = True := eq_true hiq
                have n8 : ((i : Int) < (c.length : Int)) = True := eq_true (by omega)
                have n9 : (i < c.length) = True := eq_true hil
                have e3 : wrap64 ((i : Int) + 1) = ((i + 1 : Nat) : Int) := by have := HL.out; unfold wrap64; omega
                have HIQ := Aside0.mk (And.intro hiq hil)
                clear hiq hil
                cases hba : anyK (lvs c base) (p + 1) d with
                | true =>
                  rw [hba, Bool.true_or] at HAK
                  clear hba
                  go_wp2
                  go_roundg (gk - 1)
                  case measure => have := HDQ.out; have := HIQ.out; have := HI.out; omega
                  case rel => exact ⟨d + 1, by rw [HAK.out], congrArg (Value.int .i64) (e3.trans (by have := HI.out; omega)), ⟨by have := HIQ.out; have := HI.out; omega⟩, ⟨by have := HDQ.out; have := HIQ.out; have := HI.out; omega⟩, HBD⟩
                | false =>
                  rw [hba, Bool.false_or] at HAK
                  clear hba
                  generalize rd (lvs c base) (i : Int) = x at *
                  cases hbx : decide (0 ≤ x) with
                  | true =>
                    rw [hbx] at HAK
                    go_wp2
                    go_roundg (gk - 1)
                    case measure => have := HDQ.out; have := HIQ.out; have := HI.out; omega
                    case rel => exact ⟨d + 1, by rw [HAK.out], congrArg (Value.int .i64) (e3.trans (by have := HI.out; omega)), ⟨by have := HIQ.out; have := HI.out; omega⟩, ⟨by have := HDQ.out; have := HIQ.out; have := HI.out; omega⟩, HBD⟩
                  | false =>
                    rw [hbx] at HAK
                    go_wp2
                    go_roundg (gk - 1)
                    case measure => have := HDQ.out; have := HIQ.out; have := HI.out; omega
                    case rel => exact ⟨d + 1, by rw [HAK.out], congrArg (Value.int .i64) (e3.trans (by have := HI.out; omega)), ⟨by have := HIQ.out; have := HI.out; omega⟩, ⟨by have := HDQ.out; have := HIQ.out; have := HI.out; omega⟩, HBD⟩
              · obtain rfl : i = q := by have := HD.out; omega
                have n6 : decide ((i : Int) < (i : Int)) = false := decide_eq_false (by omega)
                have n7 : decide (i < i) = false := decide_eq_false (by omega)
                clear hiq
                have hcase : anyK (lvs c base) (p + 1) d = false ∨ anyK (lvs c base) (p + 1) d = true ∧ st (rd c (p : Int)) = true ∧ rd (mts c) (p : Int) = (i : Int) := by
                  cases hba : anyK (lvs c base) (p + 1) d with
                  | false => exact .inl rfl
                  | true =>
                    right
                    rcases HLK.out with h | ⟨h1, h2⟩
                    · have := anyK_false (lvs c base) (p + 1) d (fun z a b => ⟨by rw [lvs_length]; have := HI.out; have := HPQ.out.2.2; omega, h z (by omega) (by have := HI.out; omega)⟩)
                      rw [this] at hba
                      cases hba
                    · refine ⟨rfl, by rw [rd_nat]; exact h1, ?_⟩
                      rw [mts_rd c p HPQ.out.2.1]
                      unfold mtc
                      rw [if_pos h1, h2]
                rcases hcase with ha | ⟨ha, hs1, hm1⟩
                · rw [ha]
                  clear ha
                  go_upto_region 27 with (fail)
                  go_quiet (fail)
                  go_wp2
                  go_roundg (gk2 - 1)
                  case measure => have := HKQ.out; have := HGK2.out; have := HK1.out.2; omega
                  case rel => exact ⟨k + 1, by rw [show wrap64 ((k : Int) + 1) = ((k + 1 : Nat) : Int) from by have := HK1.out.2; have := HN.out.2.2.1; have := HN.out.1; have := HL.out; have hq_ := toI_length (places c base c.length g); unfold wrap64; omega], ⟨⟨by omega, HK1.out.2⟩⟩, ⟨by have := HKQ.out; have := HK1.out.2; omega⟩, ⟨HBD.out.trans ((pw_below_drewN (Below.refl wr.heap.size wr) _).mono HBD.out.size)⟩⟩
                · rw [ha]
                  clear ha
                  obtain ⟨adc', eA0', hxp⟩ := Kd.at_int (Kd.C_below HOC4.out (HB4X.out.trans (HBD.out.mono HB4X.out.size))) (p : Int) (by omega) (by have := HPQ.out.2.1; omega)
                  injection eA0' with eA0'
                  subst eA0'
                  obtain ⟨adm', eAm', hmp⟩ := Kd.at_int (Kd.C_below HOM4.out (HB4X.out.trans (HBD.out.mono HB4X.out.size))) (p : Int) (by omega) (by have := HPQ.out.2.1; omega)
                  injection eAm' with eAm'
                  subst eAm'
                  rw [Int.toNat_natCast] at hxp hmp
                  rw [hm1] at hmp
                  have hsq : ∀ (V : World) (z : Nat), Calls Try.prog 18 #[.int .i64 (rd c (p : Int))] (V.drewN z) fun e w'' => e = .returned (.bool true) ∧ ∃ m, w'' = V.drewN m := fun V z => Calls.quiet_of ((colophonlaw08_starts.calls (rd c (p : Int)) true _ ((lstarts_eq _).trans (congrArg some hs1))).mono fun _ _ h => ⟨h.1, h.2.out⟩)
                  have HSQQ := Aside0.mk hsq
                  have n10 : ((p : Int) < (c.length : Int)) = True := eq_true (by have := HPQ.out.2.1; omega)
                  have n11 : (p < c.length) = True := eq_true HPQ.out.2.1
                  have n12 : ((i : Int) != (i : Int)) = false := by simp
                  have e4 : IntKind.i64.wrap ((k : Int) - 1) = (k1 : Int) := by rw [IntWalk.i64_in _ (by have := HK1.out; have := HN.out.2.2.1; have := HN.out.1; have := HL.out; have hq_ := toI_length (places c base c.length g); omega)]; have := HK1.out.1; omega
                  clear hs1 hm1 hsq e1
                  go_upto_region 27 with (fail)
                  go_quiet ((go_at_call 18; exact HSQQ.out _ _))
                  clear e4
                  go_wp2
                  go_roundg (gk2 - 1)
                  case measure => have := HKQ.out; have := HGK2.out; have := HK1.out.2; omega
                  case rel => exact ⟨k + 1, by rw [show wrap64 ((k : Int) + 1) = ((k + 1 : Nat) : Int) from by have := HK1.out.2; have := HN.out.2.2.1; have := HN.out.1; have := HL.out; have hq_ := toI_length (places c base c.length g); unfold wrap64; omega], ⟨⟨by omega, HK1.out.2⟩⟩, ⟨by have := HKQ.out; have := HK1.out.2; omega⟩, ⟨HBD.out.trans ((pw_below_drewN (Below.refl wr.heap.size wr) _).mono HBD.out.size)⟩⟩
          · obtain rfl : k = N := by have := HK.out; omega
            have p3 : decide ((k : Int) < (k : Int)) = false := decide_eq_false (by omega)
            have p4 : decide (k < k) = false := decide_eq_false (by omega)
            clear hkn
            go_wp2
            go_roundg (gj - 1)
            case measure => have := HJQ.out; have := HLT.out; have := HGJ.out; omega
            case rel => exact ⟨j + 1, by rw [show wrap64 ((j : Int) + 1) = ((j + 1 : Nat) : Int) from by have := HLT.out; have := HS.out.2; have := HLn.out; unfold wrap64; omega], ⟨HLT.out⟩, ⟨by have := HJQ.out; have := HLT.out; omega⟩, ⟨HB4X.out.trans (HBK.out.mono HB4X.out.size)⟩⟩
    · obtain rfl : j = Ln := by have := HJ.out; omega
      have p3 : decide ((j : Int) < (j : Int)) = false := decide_eq_false (by omega)
      have p4 : decide (j < j) = false := decide_eq_false (by omega)
      clear hlt
      go_wp2
      go_ret
      exact ⟨rfl, below_step HB4.out HBJ.out⟩
end Go.Proofs.Yteldofimjklckaa.G
