/- RunsLevels, walked. By hand. -/
import Derived.Test.YteldofimjklckaaWorksT
import Derived.Test.YteldofimjklckaaRefLevT
import Derived.Test.YteldofimjklckaaHRowsM
import Derived.Test.YteldofimjklckaaX5
namespace Go.Proofs.Yteldofimjklckaa.G
open Go.RowKit Go.Proofs.Yteldofimjklckaa.X Go.Proofs.YteldofimjklckaaW.PrintWords Go.Proofs.YteldofimjklckaaW.PrintLast Go.Proofs.YteldofimjklckaaW.PrintMore Go.Proofs.Yteldofimjklckaa.Exp Go.Proofs.Yteldofimjklckaa.Run Go.Proofs.Yteldofimjklckaa.Iso
set_option linter.unusedVariables false
set_option linter.unusedSimpArgs false

theorem same_l0 (X : List (List Int)) (hX : X.length ≤ 1048576) (hr : ∀ r ∈ X, r.length ≤ 1048576) : ∀ (d i : Nat), i + d = X.length → Ev (fun k => colophonlaw08_same.l0 k X X (X.length : Int) (i : Int)) true := by
  intro d
  induction d with
  | zero =>
    intro i hi
    refine ev_succ ?_
    simp only [colophonlaw08_same.l0, if_neg (show ¬ (i : Int) < (X.length : Int) by omega)]
    exact Ev.now _
  | succ d ih =>
    intro i hi
    have hgo := ih (i + 1) (by omega)
    refine ev_succ ?_
    simp only [colophonlaw08_same.l0, if_pos (show (i : Int) < (X.length : Int) by omega), if_pos (Int.natCast_nonneg i)]
    have hm : rd_L1 X (i : Int) ∈ X := by
      unfold rd_L1
      rw [Int.toNat_natCast, List.getD_eq_getElem?_getD, List.getElem?_eq_getElem (by omega)]
      exact List.getElem_mem _
    refine Ev.bind (T.Ints_same (rd_L1 X (i : Int)) (by have := hr _ hm; omega)) ?_
    simp only [if_true, w64 (show i < 9223372036854775807 by omega)]
    exact hgo
theorem same_ev (X : List (List Int)) (hX : X.length ≤ 1048576) (hr : ∀ r ∈ X, r.length ≤ 1048576) : Ev (fun k => colophonlaw08_same.f k X X) true := by
  simp only [colophonlaw08_same.f, if_true]
  exact same_l0 X hX hr X.length 0 (Nat.zero_add _)
theorem levI_small (l : List Int) (hl : l.length ≤ 300) : (levI l l.length).length ≤ 300 ∧ ∀ r ∈ levI l l.length, r.length ≤ 300 := by
  refine ⟨by rw [levI_length]; have := lev_count l l.length; omega, fun r hr => ?_⟩
  obtain ⟨q, hq, rfl⟩ := List.mem_map.1 hr
  have := lev_lens l l.length q hq
  rw [toI_length]
  omega
def LawPost3 (w : World) (e : Ending) (w' : World) : Prop := e = .returned (.bool true) ∧ Below w.heap.size w w'
set_option maxHeartbeats 16000000 in
set_option maxRecDepth 100000 in
theorem levels_main (A0 : Option Addr) (c0 : Nat) (l : List Int) (w : World) (hr0 : Kd.C (Kd.int .i64) w A0 l.length l) (hc0 : l.length ≤ c0) (hl : l.length ≤ 300) :
    Calls Try.prog 3 #[.slice A0 l.length c0] w (LawPost3 w) := by
  have info3 : (Try.prog.info? 3).map (fun i => (i.zero, i.size, i.bytes)) = some (some (.int .i64 0), 1, 8) := by kernel_rfl
  obtain ⟨kl, hkl⟩ := Ev.rounds (Levels_ev l (by omega))
  obtain ⟨kr, hkr⟩ := Ev.rounds (refLevels_ev l (by omega))
  have hsm := levI_small l hl
  obtain ⟨ks, hks⟩ := Ev.rounds (same_ev (levI l l.length) (by omega) (fun r hr => by have := hsm.2 r hr; omega))
  obtain ⟨ki, hki⟩ := Ev.rounds (T.Ints_same l (by omega))
  have b1 : decide ((300 : Int) < (l.length : Int)) = false := decide_eq_false (by omega)
  have b2 : decide (300 < l.length) = false := decide_eq_false (by omega)
  have HKL := Aside0.mk hkl
  have HKR := Aside0.mk hkr
  have HKS := Aside0.mk hks
  have HKI := Aside0.mk hki
  have HR0 := Aside0.mk hr0
  have HC0 := Aside0.mk hc0
  have HL := Aside0.mk (And.intro hl hsm)
  clear hkl hkr hks hki hr0 hc0 hl hsm
  go_enter Try.func3, Try.ntmps3
  go_wp2_with (first | ((with_reducible refine gate_dst (N := 12) rfl ?_); refine of_halt ?_))
  unfold Halt
  refine Kd.R_lit (Kd.int .i64) (w0 := w) w.heap.size 3 (by rfl) (N := 12) (by rfl) (xs := ([] : List Int)) (inner := []) (ok := fun _ => True) (okp := fun _ => False) ?hr (Reps.none _ _) (fun _ hk => hk.elim) trivial (Below.refl _ _) (Nat.le_refl _) (by simp) ?_
  case hr => first | (go_simp; done) | (go_simp; rfl)
  intro v12 w12 ho12 hb12 hg12 hn12
  have HO12 := Aside0.mk ho12
  have HB12 := Aside0.mk hb12
  clear ho12 hb12 hg12 hn12
  go_wp2_with (first | ((with_reducible refine gate_builtin (b := .append) (xs := #[.tmp 12, .tmp 13]) rfl ?_); at_builtin; refine of_halt ?_))
  unfold Halt
  refine Kd.R_append_row (Value.int .i64) 0 (h1 := fun _ => rfl) (w0 := w) w.heap.size rfl (.tmp 12) (.tmp 13) 22 3 (.int .i64 0) 8 rfl Try.underlying22 info3 rfl (by decide) v12 [] l A0 l.length c0 (fun _ => True) rfl rfl (fun _ _ => trivial) HO12.out (Kd.C_below HR0.out HB12.out) HB12.out HB12.out.size (by have := HL.out.1; simp; omega) ?_
  intro v14 w14 ho14 hb14 hg14 hat14
  rw [List.nil_append] at ho14
  obtain ⟨Ao, co, rfl, hco, hCo⟩ := Kd.R_reads (d := Kd.int .i64) ho14
  have HB14 := Aside0.mk hb14
  have HOW := Aside0.mk (And.intro hco hCo)
  clear ho14 hb14 hg14 hat14 hco hCo HO12
  go_wp2_with (first | (go_at_call 10; refine of_halt ?_))
  unfold Halt
  refine (runs_Levels.calls kl Ao co l _ _ HOW.out.2 HOW.out.1 HKL.out).mono ?_
  rintro e w16 ⟨va, rfl, hoa, hb16⟩
  obtain ⟨Aa, ca, rfl, hca, hCa⟩ := Kd.S_reads hoa
  have HB16 := Aside0.mk (below_step HB14.out hb16)
  have HOA := Aside0.mk hoa
  have HCA := Aside0.mk (And.intro hca hCa)
  have HOW2 := Aside0.mk (And.intro HOW.out.1 (Kd.C_below HOW.out.2 hb16))
  have HS14 := Aside0.mk (show w.heap.size ≤ w14.heap.size from HB14.out.size)
  clear hoa hb16 hca hCa
  go_wp2_with (first | (go_at_call 11; refine of_halt ?_))
  unfold Halt
  refine (colophonref08_Levels.calls kr A0 c0 l _ _ (Kd.C_below HR0.out HB16.out) HC0.out HKR.out).mono ?_
  rintro e w18 ⟨vb, rfl, hob, hb18⟩
  obtain ⟨Ab, cb, rfl, hcb, hCb⟩ := Kd.S_reads hob
  have HB18 := Aside0.mk (below_step HB16.out hb18)
  have HBB := Aside0.mk hb18
  have HOB := Aside0.mk hob
  have HCB := Aside0.mk (And.intro hcb hCb)
  clear hob hb18 hcb hCb
  go_wp2_with (first | (go_at_call 12; refine of_halt ?_))
  unfold Halt
  refine (colophonlaw08_same.calls ks Aa ca _ Ab cb _ true _ (Kd.C_below HCA.out.2 HBB.out) HCA.out.1 HCB.out.2 HCB.out.1 HKS.out).mono ?_
  rintro e w21 ⟨rfl, ⟨nd21, rfl⟩⟩
  go_wp2_with (first | (go_at_call 13; refine of_halt ?_))
  unfold Halt
  refine (colophonref01_Ints.calls ki Ao co l A0 c0 l true _ (Kd.C_drewN (Kd.C_below HOW2.out.2 HBB.out) _) HOW2.out.1 (Kd.C_drewN (Kd.C_below HR0.out HB18.out) _) HC0.out HKI.out).mono ?_
  rintro e w26 ⟨rfl, ⟨nd26, rfl⟩⟩
  have hbW := pw_below_drewN (pw_below_drewN (Below.refl w18.heap.size w18) nd21) nd26
  generalize World.drewN (World.drewN w18 nd21) nd26 = W5 at *
  obtain ⟨X, hX⟩ : ∃ X, levI l l.length = X := ⟨_, rfl⟩
  have HX := Aside0.mk hX
  rw [hX] at HOA HOB HCA HCB HKS HKL HKR HL ⊢
  obtain ⟨ok, hok⟩ : ∃ ok : Nat → Prop, ok = fun k => w.heap.size ≤ k ∧ (k < w16.heap.size ∨ w18.heap.size ≤ k) := ⟨_, rfl⟩
  have hS : Kd.S (Kd.slice 3 (Kd.int .i64)) 22 W5 w.heap.size ok (.slice Aa X.length ca) X := by
    refine Kd.S_mono (Kd.S_lower (Kd.S_below (Kd.S_below (Kd.S_bound HOA.out) HBB.out) hbW) HS14.out) (fun k hk => ?_)
    rw [hok]
    exact ⟨Nat.le_trans HS14.out hk.2.1, .inl hk.2.2.1⟩
  have hSb : Kd.S (Kd.slice 3 (Kd.int .i64)) 22 W5 w16.heap.size (fun k => w16.heap.size ≤ k ∧ k < w18.heap.size) (.slice Ab X.length cb) X := Kd.S_mono (Kd.S_below (Kd.S_bound HOB.out) hbW) (fun k hk => ⟨hk.2.1, hk.2.2.1⟩)
  obtain ⟨hs0, hR0⟩ := Rws.of_S hS
  obtain ⟨Ln, hLn⟩ : ∃ n, X.length = n := ⟨_, rfl⟩
  rw [hLn] at hR0 hSb ⊢
  have HLN := Aside0.mk hLn
  have HRW := Aside0.mk hR0
  have HSB := Aside0.mk hSb
  have HOK := Aside0.mk hok
  have HBW := Aside0.mk (HB18.out.trans (hbW.mono HB18.out.size))
  have HBW2 := Aside0.mk hbW
  have HS16 := Aside0.mk (show w.heap.size ≤ w16.heap.size from HB16.out.size)
  clear hX hok hS hSb hR0 hLn hbW
  go_wp2
  have HFR : ∀ (V : World), W5.heap.size ≤ V.heap.size → ∀ k, V.heap.size ≤ k → ok k := fun V hV k hk => by
    rw [HOK.out]
    have h1 := HBW2.out.size
    have h2 := HB18.out.size
    exact ⟨by omega, .inr (by omega)⟩
  have HFR := Aside0.mk HFR
  go_loopg [31] (Ln + 1) (fun kq v31 w' => ∃ j : Nat, v31 = .int .i64 (j : Int) ∧ Aside0 (j ≤ Ln) ∧ Aside0 (kq + j = Ln + 1) ∧ Aside0 (∃ hs xss, Rws ok w.heap.size (.slice Aa Ln ca) hs xss w' ∧ hs.length = Ln ∧ ∀ r ∈ xss, r.length ≤ 1000 + j) ∧ Aside0 (Kp ok W5 w'))
  case atStart => exact ⟨0, rfl, ⟨Nat.zero_le _⟩, ⟨rfl⟩, ⟨hs0, X, HRW.out, by rw [HRW.out.len]; exact HLN.out, fun r hr => by have := HL.out.2.2 r hr; omega⟩, ⟨Kp.refl _ _⟩⟩
  case round =>
    obtain ⟨j, rfl, HJ, HJQ, ⟨hs, xss, hrw, hhl, hxl⟩, HKP⟩ := hrel
    obtain ⟨gj, hgj⟩ : ∃ n, n = gk := ⟨_, rfl⟩
    rw [← hgj] at HJQ
    have HGJ := Aside0.mk hgj
    clear hgj HRW
    by_cases hlt : j < Ln
    · obtain ⟨ga, caa, eA, _, _, cells0, hga⟩ := Kd.R_form hrw.head (by omega)
      injection eA with eA eN_ eC
      clear eN_
      subst eA eC
      obtain ⟨p, hp⟩ : ∃ p, hs[j]? = some p := ⟨_, List.getElem?_eq_getElem (by omega)⟩
      obtain ⟨A, n, c⟩ := p
      obtain ⟨xs, hx⟩ : ∃ xs, xss[j]? = some xs := ⟨_, List.getElem?_eq_getElem (by have := hrw.len; omega)⟩
      have hcell : ∀ (V : World) ys, Rws ok w.heap.size (.slice (some ⟨ga, 0, none⟩) Ln ca) hs ys V → V.cell? ⟨ga, j, none⟩ = some (.slice A n c) ∧ V.frozen? ⟨ga, j, none⟩ = false := fun V ys hV => by
        obtain ⟨h1, h2⟩ := Kd.R_celln ((none, 0, 0) : Head) hV.head (j : Int) (by omega) (by omega)
        rw [Int.toNat_natCast] at h1 h2
        refine ⟨h1.trans ?_, h2⟩
        unfold rdOf
        rw [Int.toNat_natCast, List.getD_eq_getElem?_getD, hp]
        rfl
      have HCL := Aside0.mk hcell
      have hc1 := (hcell _ _ hrw).1
      have i1 : ((j : Int) < (Ln : Int)) = True := eq_true (by omega)
      have i2 : (j < Ln) = True := eq_true hlt
      have HLT := Aside0.mk hlt
      have HP := Aside0.mk (And.intro hp hhl)
      have HRJ := Aside0.mk hrw
      have HXL := Aside0.mk hxl
      clear hx hp hrw hhl hxl hcell hlt hga
      go_wp2
      go_loopg [39] (n + 1) (fun kq v39 w' => ∃ k : Nat, v39 = .int .i64 (k : Int) ∧ Aside0 (k ≤ n) ∧ Aside0 (kq + k = n + 1) ∧ Aside0 (∃ ys, Rws ok w.heap.size (.slice (some ⟨ga, 0, none⟩) Ln ca) hs ys w' ∧ ∀ r ∈ ys, r.length ≤ 1000 + j) ∧ Aside0 (Kp ok W5 w'))
      case atStart => exact ⟨0, rfl, ⟨Nat.zero_le _⟩, ⟨by omega⟩, ⟨_, HRJ.out, HXL.out⟩, HKP⟩
      case round =>
        obtain ⟨k, rfl, HK, HKQ, ⟨ys, hys, hyl⟩, HKK⟩ := hrel
        clear hc1
        obtain ⟨hc1, hz1⟩ := HCL.out _ _ hys
        obtain ⟨zs, hzs⟩ : ∃ zs, ys[j]? = some zs := ⟨_, List.getElem?_eq_getElem (by have := hys.len; have := HP.out.2; have := HLT.out; omega)⟩
        have hrow := hys.row j _ zs HP.out.1 hzs
        have hnz : n = zs.length := (Kd.R_reads' hrow).1
        by_cases hkn : k < n
        · obtain ⟨g, cg, eG, _, _, cellsg, hg⟩ := Kd.R_form hrow (by omega)
          injection eG with eG eN_ eC
          clear eN_
          subst eG eC
          replace hrow : Kd.R (Kd.int .i64) 3 wr w.heap.size ok (.slice (some ⟨g, 0, none⟩) n c) zs := hrow
          obtain ⟨hxc, hxz⟩ := Kd.R_celln 0 hrow (k : Int) (by omega) (by omega)
          rw [Int.toNat_natCast] at hxc hxz
          have hnew := hys.cell j g n c HP.out.1 zs hzs k (-7)
          have hokg : ok g := hrow.1 g rfl
          have n1 : ((k : Int) < (n : Int)) = True := eq_true (by omega)
          have n2 : (k < n) = True := eq_true hkn
          have HNW := Aside0.mk hnew
          have HYL := Aside0.mk (show ∀ r ∈ ys.set j (zs.set k (-7)), r.length ≤ 1000 + j from fun r hr => by
            rcases List.mem_or_eq_of_mem_set hr with h | rfl
            · exact hyl r h
            · rw [List.length_set]; exact hyl zs (List.mem_of_getElem? hzs))
          have HOG := Aside0.mk hokg
          have HKN := Aside0.mk (And.intro hkn (show n ≤ 1000 + j by rw [hnz]; exact hyl zs (List.mem_of_getElem? hzs)))
          clear hys hyl hzs hrow hnz hkn hg hnew hokg
          go_wp2
          go_roundg (gk - 1)
          case measure => have := HKQ.out; have := HKN.out; omega
          case rel => exact ⟨k + 1, by rw [show wrap64 ((k : Int) + 1) = ((k + 1 : Nat) : Int) from by have := HKN.out; have := HLT.out; have := HLN.out; have := HL.out.2.1; unfold wrap64; omega], ⟨HKN.out.1⟩, ⟨by have := HKQ.out; have := HKN.out; omega⟩, ⟨_, HNW.out, HYL.out⟩, ⟨HKK.out.set (p := ⟨g, k, none⟩) (.inl HOG.out) _⟩⟩
        · obtain rfl : k = n := by have := HK.out; omega
          have p3 : decide ((k : Int) < (k : Int)) = false := decide_eq_false (by omega)
          have p4 : decide (k < k) = false := decide_eq_false (by omega)
          have HYS := Aside0.mk (And.intro hys (And.intro hyl (And.intro hzs (And.intro hrow hnz))))
          clear hkn hys hyl hzs hrow hnz
          go_wp2_with (first | ((with_reducible refine gate_builtin (b := .append) (xs := #[.tmp 54, .tmp 55]) rfl ?_); at_builtin; refine of_halt ?_))
          unfold Halt
          refine Kd.R_append (Kd.int .i64) (w0 := w) w.heap.size rfl (.tmp 54) (.tmp 55) 22 3 (.int .i64 0) 8 rfl Try.underlying22 info3 rfl (by decide) (by omega) (.slice A k c) zs (-9) [.int .i64 (-9)] ok (fun _ => False) rfl rfl rfl (fun _ hk => hk.elim) (HFR.out _ HKK.out.size) HYS.out.2.2.2.1 (HBW.out.trans (HKK.out.below (Nat.le_trans HBW.out.size (Nat.le_refl _)) (fun q hq h => by rw [HOK.out] at h; have := h.1; omega))) (Nat.le_trans HBW.out.size HKK.out.size) (by have h1_ := HYS.out.2.1 zs (List.mem_of_getElem? HYS.out.2.2.1); have h2_ := HLT.out; have h3_ := HLN.out; have h4_ := HL.out.2.1; omega) ?_
          intro v56 w56 ho56 hb56 hg56 hat56
          obtain ⟨A6, c6, rfl⟩ := Kd.R_slice ho56
          have hrp := (HYS.out.1.row_put j _ HP.out.1 hg56).1
          have hput := HYS.out.1.put (W1 := w56) j _ (A6, (zs ++ [(-9 : Int)]).length, c6) (zs ++ [(-9 : Int)]) HP.out.1 ho56 hg56 hat56
          obtain ⟨hy0, hy1⟩ := Kd.R_celln ((none, 0, 0) : Head) hrp (j : Int) (by omega) (by have := HLT.out; omega)
          rw [Int.toNat_natCast] at hy0 hy1
          have hoka : ok ga := hrp.1 ga rfl
          have HPUT := Aside0.mk hput
          have HKA := Aside0.mk ((HKK.out.trans (Kp.of_grown (F := ok) hg56 (fun g e => HYS.out.2.2.2.1.1 g e)) (fun q _ h => h)).set (p := ⟨ga, j, none⟩) (.inl hoka) (hdv (A6, (zs ++ [(-9 : Int)]).length, c6)))
          have HYL := Aside0.mk (show ∀ r ∈ ys.set j (zs ++ [(-9 : Int)]), r.length ≤ 1000 + (j + 1) from fun r hr => by
            rcases List.mem_or_eq_of_mem_set hr with h | rfl
            · have := HYS.out.2.1 r h; omega
            · rw [List.length_append, List.length_singleton]; have := HYS.out.2.1 zs (List.mem_of_getElem? HYS.out.2.2.1); omega)
          have hi2 : (0 ≤ (j : Int)) = True := eq_true (by omega)
          clear ho56 hb56 hg56 hat56 hrp hput hoka hc1 hz1
          generalize (zs ++ [(-9 : Int)]).length = L6 at *
          go_wp2
          go_roundg (gj - 1)
          case measure => have := HJQ.out; have := HLT.out; have := HGJ.out; omega
          case rel => exact ⟨j + 1, by rw [show wrap64 ((j : Int) + 1) = ((j + 1 : Nat) : Int) from by have := HLT.out; have := HLN.out; have := HL.out.2.1; unfold wrap64; omega], ⟨HLT.out⟩, ⟨by have := HJQ.out; have := HLT.out; omega⟩, ⟨_, _, HPUT.out, by rw [List.length_set]; exact HP.out.2, HYL.out⟩, HKA⟩
    · obtain rfl : j = Ln := by have := HJ.out; omega
      have p3 : decide ((j : Int) < (j : Int)) = false := decide_eq_false (by omega)
      have p4 : decide (j < j) = false := decide_eq_false (by omega)
      have hbw : Below w.heap.size w wr := HBW.out.trans (HKP.out.below HBW.out.size (fun q hq h => by rw [HOK.out] at h; have := h.1; omega))
      have hsb : Kd.S (Kd.slice 3 (Kd.int .i64)) 22 wr w16.heap.size (fun k => w16.heap.size ≤ k ∧ k < w18.heap.size) (.slice Ab j cb) X := Kd.S_step HSB.out (fun q hq hlt => HKP.out.block q hlt (fun h => by rw [HOK.out] at h; rcases h.2 with h | h <;> omega))
      have HBR := Aside0.mk hbw
      have HSBR := Aside0.mk hsb
      clear hlt hrw hhl hxl hbw hsb
      go_wp2_with (first | (go_at_call 10; refine of_halt ?_))
      unfold Halt
      refine (runs_Levels.calls kl A0 c0 l _ _ (Kd.C_below HR0.out HBR.out) HC0.out HKL.out).mono ?_
      rintro e w60 ⟨v60, rfl, ho60, hb60⟩
      obtain ⟨A6, c6, rfl, hc6, hC6⟩ := Kd.S_reads ho60
      have HB60 := Aside0.mk (below_step HBR.out hb60)
      have HC60 := Aside0.mk (And.intro hc6 hC6)
      obtain ⟨hbn, hbc, hbC⟩ := Kd.S_reads' (Kd.S_below HSBR.out hb60)
      have HBC := Aside0.mk (And.intro hbc (And.intro hbC hbn))
      rw [hbn]
      clear ho60 hb60 hc6 hC6 hbn hbc hbC
      go_wp2_with (first | (go_at_call 12; refine of_halt ?_))
      unfold Halt
      refine (colophonlaw08_same.calls ks A6 c6 X Ab cb X true _ HC60.out.2 HC60.out.1 HBC.out.2.1 (by have := HBC.out.1; have := HBC.out.2.2; omega) HKS.out).mono ?_
      rintro e w62 ⟨rfl, ⟨nd62, rfl⟩⟩
      go_wp2_with (first | (go_at_call 9; refine (works_calls _).mono ?_; rintro e w64 ⟨rfl, hb64⟩))
      go_ret
      exact ⟨rfl, below_step (pw_below_drewN HB60.out _) hb64⟩
end Go.Proofs.Yteldofimjklckaa.G
