/- neutral.Resolve by hand. -/
import Derived.Test.YtcjmjggifeaggaaHLasts
import Derived.Test.YtcjmjggifeaggaaHLev
namespace Go.Proofs.Ytcjmjggifeaggaa.X
open Go.RowKit Go.Shelf Go.Proofs.YtcjmjggifeaggaaW.PrintWords Go.Proofs.YtcjmjggifeaggaaW.PrintLast Go.Proofs.YtcjmjggifeaggaaW.PrintMore Go.Proofs.Ytcjmjggifeaggaa.G
set_option linter.unusedVariables false
set_option linter.unusedSimpArgs false

def neutB (x : Int) : Bool := decide (11 ≤ x ∧ x ≤ 14 ∨ 20 ≤ x ∧ x ≤ 23)
set_option maxHeartbeats 4000000 in
theorem neutB_calls (x : Int) (w : World) : Calls Try.prog 17 #[.int .i64 x] w fun e w' => e = .returned (.bool (neutB x)) ∧ w' = w := by
  by_cases hA : x < 11
  · rw [show neutB x = false by simp [neutB]; omega]
    go_enter Try.func17, Try.ntmps17
    go_wp2
    all_goals
      go_ret
      exact ⟨by first | rfl | (congr 2; simp; omega), rfl⟩
  by_cases hB : x ≤ 14
  · rw [show neutB x = true by simp [neutB]; omega]
    go_enter Try.func17, Try.ntmps17
    go_wp2
    all_goals
      go_ret
      exact ⟨by first | rfl | (congr 2; simp; omega), rfl⟩
  by_cases hC : x < 20
  · rw [show neutB x = false by simp [neutB]; omega]
    go_enter Try.func17, Try.ntmps17
    go_wp2
    all_goals
      go_ret
      exact ⟨by first | rfl | (congr 2; simp; omega), rfl⟩
  by_cases hD : x ≤ 23
  · rw [show neutB x = true by simp [neutB]; omega]
    go_enter Try.func17, Try.ntmps17
    go_wp2
    all_goals
      go_ret
      exact ⟨by first | rfl | (congr 2; simp; omega), rfl⟩
  rw [show neutB x = false by simp [neutB]; omega]
  go_enter Try.func17, Try.ntmps17
  go_wp2
  all_goals
    go_ret
    exact ⟨by first | rfl | (congr 2; simp; omega), rfl⟩

def okT (x : Int) : Bool := !(sideOf x == 0 && !neutB x)
/-- what a place gets -/
def resAt (a1 x p q : Int) : Int := if sideOf x ≠ 0 then x else if p = q then p else 1 + a1 % 2
def resOf (l0 : List Int) (a1 a2 a3 : Int) : List Int :=
  (List.range l0.length).map fun (i : Nat) => resAt a1 (rd l0 (i : Int)) (rd (lastsOf l0.length a2 (allOf l0)).2 (i : Int)) (rd (lastsOf l0.length a3 (backOf l0)).2 (i : Int))
def neutral_Resolve.f (l0 : List Int) (a1 a2 a3 : Int) : Option (List Int × Int) :=
  if l0.length < 17592186044416 then some (if a1 < 0 ∨ 126 < a1 ∨ (a2 ≠ 1 ∧ a2 ≠ 2) ∨ (a3 ≠ 1 ∧ a3 ≠ 2) then ([], 2) else if l0.all okT then (resOf l0 a1 a2 a3, 0) else ([], 50)) else none
theorem resOf_length (l0 : List Int) (a1 a2 a3 : Int) : (resOf l0 a1 a2 a3).length = l0.length := by simp [resOf]
theorem resOf_at (l0 : List Int) (a1 a2 a3 : Int) (x : Int) (h0 : 0 ≤ x) (h1 : x < l0.length) : rd (resOf l0 a1 a2 a3) x = resAt a1 (rd l0 x) (rd (lastsOf l0.length a2 (allOf l0)).2 x) (rd (lastsOf l0.length a3 (backOf l0)).2 x) := by
  obtain ⟨i, rfl⟩ := Int.eq_ofNat_of_zero_le h0
  have : i < l0.length := by omega
  rw [rd, Int.toNat_natCast]
  simp [resOf, List.getD, this]
/-- half way -/
def mix (r l : List Int) (k : Nat) : List Int := r.take k ++ l.drop k
theorem mix_length (r l : List Int) (k : Nat) (h : r.length = l.length) (hk : k ≤ l.length) : (mix r l k).length = l.length := by simp [mix]; omega
theorem mix_step (r l : List Int) (k : Nat) (h : r.length = l.length) (hk : k < l.length) (v : Int) (hv : v = rd r (k : Int)) : (mix r l k).set k v = mix r l (k + 1) := by
  have hk' : k < r.length := by omega
  subst hv
  have e1 : (r.take k).length = k := by rw [List.length_take]; omega
  rw [mix, mix, List.set_append_right _ _ (by omega), e1, List.drop_eq_getElem_cons hk, List.take_succ_eq_append_getElem hk', Nat.sub_self, List.set_cons_zero, List.append_assoc]
  simp [rd, hk']
theorem mix_keep (r l : List Int) (k : Nat) (h : r.length = l.length) (hk : k < l.length) (hv : rd l (k : Int) = rd r (k : Int)) : mix r l k = mix r l (k + 1) := by
  have hk' : k < r.length := by omega
  rw [mix, mix, List.drop_eq_getElem_cons hk, List.take_succ_eq_append_getElem hk', List.append_assoc]
  simp [rd, hk', hk] at hv
  rw [hv]
  rfl

set_option maxHeartbeats 16000000 in
set_option maxRecDepth 100000 in
theorem neutral_Resolve.calls (A0 : Option Addr) (c0 : Nat) (l0 : List Int) (a1 a2 a3 : Int) (r1 : List Int) (r2 : Int) (w : World) (hr0 : Kd.C (Kd.int .i64) w A0 l0.length l0) (hc0 : l0.length ≤ c0) (h : neutral_Resolve.f l0 a1 a2 a3 = some (r1, r2)) :
    Calls Try.prog 10 #[.slice A0 l0.length c0, .int .i64 a1, .int .i64 a2, .int .i64 a3] w fun e w' => ∃ v0_ : Value, e = .returned (.tuple #[v0_, .int .i64 r2]) ∧ Kd.R (Kd.int .i64) 3 w' w.heap.size (fun _ => True) v0_ r1 ∧ Below w.heap.size w w' := by
  have hl : l0.length < 17592186044416 := by unfold neutral_Resolve.f at h; split at h; assumption; simp at h
  rw [neutral_Resolve.f, if_pos hl] at h
  have info3 : (Try.prog.info? 3).map (fun i => (i.zero, i.size, i.bytes)) = some (some (.int .i64 0), 1, 8) := by kernel_rfl
  obtain ⟨i3, hi3, hi3z, hi3s, hi3b⟩ := info_parts info3
  by_cases c0_ : a1 < 0 ∨ 126 < a1 ∨ (a2 ≠ 1 ∧ a2 ≠ 2) ∨ (a3 ≠ 1 ∧ a3 ≠ 2)
  · rw [if_pos c0_] at h
    simp only [Option.some.injEq, Prod.mk.injEq] at h
    obtain ⟨rfl, rfl⟩ := h
    by_cases d0 : a1 < 0
    · have b0 : decide (a1 < 0) = true := decide_eq_true d0
      clear c0_
      go_enter Try.func10, Try.ntmps10
      go_wp2
      go_ret2
      exact ⟨_, rfl, Kd.R_nil _ _ _ _ _, Below.refl _ _⟩
    have b0 : decide (a1 < 0) = false := decide_eq_false d0
    by_cases d1 : 126 < a1
    · have b1 : decide (126 < a1) = true := decide_eq_true d1
      clear c0_
      go_enter Try.func10, Try.ntmps10
      go_wp2
      go_ret2
      exact ⟨_, rfl, Kd.R_nil _ _ _ _ _, Below.refl _ _⟩
    have b1 : decide (126 < a1) = false := decide_eq_false d1
    by_cases d2 : a2 ≠ 1 ∧ a2 ≠ 2
    · have b2 : (a2 != 1) = true := by simpa using d2.1
      have b3 : (a2 != 2) = true := by simpa using d2.2
      clear c0_ d2
      go_enter Try.func10, Try.ntmps10
      go_wp2
      go_ret2
      exact ⟨_, rfl, Kd.R_nil _ _ _ _ _, Below.refl _ _⟩
    have d3 : a3 ≠ 1 ∧ a3 ≠ 2 := by omega
    have b2 : (a3 != 1) = true := by simpa using d3.1
    have b3 : (a3 != 2) = true := by simpa using d3.2
    have d4 : a2 = 1 ∨ a2 = 2 := by omega
    clear c0_ d3 d2
    rcases d4 with rfl | rfl
    all_goals
      go_enter Try.func10, Try.ntmps10
      go_wp2
      go_ret2
      exact ⟨_, rfl, Kd.R_nil _ _ _ _ _, Below.refl _ _⟩
  rw [if_neg c0_] at h
  have b0 : decide (a1 < 0) = false := decide_eq_false (by omega)
  have b1 : decide (126 < a1) = false := decide_eq_false (by omega)
  have g0 : 0 ≤ a1 := by omega
  have g1 : a1 ≤ 126 := by omega
  obtain ⟨bb, hbb⟩ : ∃ b, b = l0.all okT := ⟨_, rfl⟩
  have H : Aside0 ((if bb = true then (resOf l0 a1 a2 a3, 0) else ([], 50)) = (r1, r2)) := ⟨by rw [hbb]; exact Option.some.inj h⟩
  have HBB : Aside0 (l0.all okT = bb) := ⟨hbb.symm⟩
  have HR := Aside0.mk hr0
  have HL := Aside0.mk hl
  have HC0 := Aside0.mk hc0
  have d2 : a2 = 1 ∨ a2 = 2 := by omega
  have d3 : a3 = 1 ∨ a3 = 2 := by omega
  have B2 : (a2 != 1) = false ∨ (a2 != 1) = true ∧ (a2 != 2) = false := by rcases d2 with rfl | rfl <;> decide
  have B3 : (a3 != 1) = false ∨ (a3 != 1) = true ∧ (a3 != 2) = false := by rcases d3 with rfl | rfl <;> decide
  clear hr0 h hl c0_ hbb hc0 d2 d3
  go_enter Try.func10, Try.ntmps10
  go_upto_region 1 with (fail)
  go_cut [39] (fun v39 wc => v39 = .bool false ∧ Aside0 (wc = w))
  case first =>
    rcases B2 with e2 | ⟨e2, e2'⟩ <;> rcases B3 with e3 | ⟨e3, e3'⟩
    all_goals
      go_wp2
      go_meet
      case rel => exact ⟨by first | rfl | simp [*], ⟨rfl⟩⟩
  case rest =>
    clear B2 B3 b0 b1
    obtain ⟨rfl, ⟨rfl⟩⟩ := hcut
    go_wp2_with (first | (go_at_call 16; refine (sides_calls _).mono ?_; rintro e w1 ⟨rfl, rfl⟩))
    have HB0 := Aside0.mk (below_alloc (Below.refl wc.heap.size wc) sidesObj)
    have HM0 := Aside0.mk (alloc_new wc sidesObj)
    obtain ⟨gm, hgm⟩ : ∃ g, g = wc.heap.size := ⟨_, rfl⟩
    generalize wc.alloc sidesObj = w1 at *
    rw [← hgm] at HM0 ⊢
    have HG := Aside0.mk hgm
    clear hgm
    have hc0' := HC0.out
    go_loopg [43] (l0.length + 1) (fun kq v43 w' => ∃ (x : Int), v43 = .int .i64 x ∧ Aside0 (0 ≤ x ∧ x ≤ l0.length) ∧ Aside0 (kq + x.toNat = l0.length + 1) ∧ Aside0 ((l0.drop x.toNat).all okT = bb) ∧ Aside0 (w'.heap[gm]? = some sidesObj) ∧ Aside0 (Below wc.heap.size wc w'))
    case atStart => exact ⟨0, rfl, ⟨by omega⟩, ⟨rfl⟩, HBB, HM0, HB0⟩
    case round =>
      clear HBB HM0 HB0
      obtain ⟨x, rfl, HI, HK, HA, HM, HB⟩ := hrel
      by_cases c2 : x < (l0.length : Int)
      · have c2b : decide (x < (l0.length : Int)) = true := decide_eq_true c2
        obtain ⟨ad, e, hx⟩ := Kd.at_int (Kd.C_below HR.out HB.out) x HI.out.1 c2
        cases e
        have p1 : (0 ≤ x) = True := eq_true HI.out.1
        have q1 : (x < (l0.length : Int)) = True := eq_true c2
        have HC2 := Aside0.mk c2
        have HA2 := HA.out
        rw [drop_rd HI.out.1 c2, List.all_cons] at HA2
        clear c2 HA
        generalize hz : rd l0 x = z at *
        clear hz
        have hl1 := sideLook wr gm HM.out z
        by_cases c3 : okT z = true
        · rw [c3, Bool.true_and] at HA2
          have HA3 := Aside0.mk HA2
          clear HA2
          by_cases c4 : sideOf z = 0
          · have b4 : (sideOf z == 0) = true := by simpa using c4
            have b5 : neutB z = true := by simpa [okT, c4] using c3
            rw [c4] at hl1
            clear c3 c4
            go_wp2_with (first | (go_at_call 17; refine (neutB_calls z _).mono ?_; rintro e w' ⟨rfl, rfl⟩))
            go_roundg (gk - 1)
            case measure => have := HK.out; have := HI.out; have := HC2.out; omega
            case rel => exact ⟨x + 1, by rw [show wrap64 (x + 1) = x + 1 from by have := HI.out; have := HL.out; unfold wrap64; omega], ⟨by have := HI.out; have := HC2.out; omega⟩, ⟨by have := HK.out; have := HI.out; have := HC2.out; omega⟩, HA3, HM, HB⟩
          · have b4 : (sideOf z == 0) = false := by simpa using c4
            clear c3 c4
            go_wp2
            go_roundg (gk - 1)
            case measure => have := HK.out; have := HI.out; have := HC2.out; omega
            case rel => exact ⟨x + 1, by rw [show wrap64 (x + 1) = x + 1 from by have := HI.out; have := HL.out; unfold wrap64; omega], ⟨by have := HI.out; have := HC2.out; omega⟩, ⟨by have := HK.out; have := HI.out; have := HC2.out; omega⟩, HA3, HM, HB⟩
        · have c3' : okT z = false := Bool.eq_false_iff.2 c3
          rw [c3', Bool.false_and] at HA2
          have c4 : sideOf z = 0 ∧ neutB z = false := by simpa [okT] using c3'
          have b4 : (sideOf z == 0) = true := by simpa using c4.1
          have b5 : neutB z = false := c4.2
          rw [c4.1] at hl1
          have HH := H.out
          rw [← HA2] at HH
          simp only [Bool.false_eq_true, if_false, Prod.mk.injEq] at HH
          obtain ⟨rfl, rfl⟩ := HH
          clear c3 c3' c4 HA2
          go_wp2_with (first | (go_at_call 17; refine (neutB_calls z _).mono ?_; rintro e w' ⟨rfl, rfl⟩))
          go_ret2
          exact ⟨_, rfl, Kd.R_nil _ _ _ _ _, HB.out⟩
      · have h4 : x = l0.length := by have := HI.out; omega
        have c2b : decide (x < (l0.length : Int)) = false := decide_eq_false c2
        have HA2 := HA.out
        rw [List.drop_of_length_le (by have := HI.out; omega), List.all_nil] at HA2
        have HH := H.out
        rw [← HA2] at HH
        simp only [if_true, Prod.mk.injEq] at HH
        obtain ⟨rfl, rfl⟩ := HH
        clear HA2 HA H HI HK h4 c2
        obtain ⟨wa, hwa⟩ : ∃ wa, wa = wr.alloc (.cells #[.slice A0 l0.length c0] 22) := ⟨_, rfl⟩
        have HBa := Aside0.mk (show Below wc.heap.size wc wa by rw [hwa]; exact below_alloc HB.out _)
        have HMa := Aside0.mk (show wa.heap[gm]? = some sidesObj by rw [hwa]; exact blk_alloc HM.out _)
        have hca : wa.cell? ⟨wr.heap.size, 0, none⟩ = some (.slice A0 l0.length c0) := by rw [hwa]; exact (blk_cell (blk_new _ _) 0).trans rfl
        have HSA := Aside0.mk (lasts_calls 24 wr.heap.size l0.length a2 (allOf l0) wa HL.out (enters_of Try.func24 (by kernel_rfl) rfl) (all_stops Fence.wide 5 trivial rfl (by omega) wr.heap.size c0 A0 l0 wa HL.out (Kd.C_below HR.out HBa.out) hca))
        clear hca
        have HWA := Aside0.mk hwa
        clear hwa HM HB
        go_wp2_with (first | (go_at_call 19; refine (all_calls _ _ _ _).mono ?_; rintro e w' ⟨rfl, rfl⟩; rw [← HWA.out]) | (go_at_call 18; refine HSA.out.mono ?_; rintro e w3 ⟨v13, rfl, ho13, hb13⟩; refine of_halt ?_))
        unfold G.Halt
        obtain ⟨A13, c13, rfl, hc13, hC13⟩ := Kd.R_reads ho13
        have HB3 := Aside0.mk (HBa.out.trans (hb13.mono HBa.out.size))
        have HM3 := Aside0.mk (blk_below HMa.out hb13)
        have HC13 := Aside0.mk hC13
        have HLe13 := Aside0.mk hc13
        clear ho13 hb13 HBa HMa HSA HWA hC13 hc13
        obtain ⟨wb, hwb⟩ : ∃ wb, wb = w3.alloc (.cells #[.slice A0 l0.length c0] 22) := ⟨_, rfl⟩
        have HBb := Aside0.mk (show Below wc.heap.size wc wb by rw [hwb]; exact below_alloc HB3.out _)
        have HMb := Aside0.mk (show wb.heap[gm]? = some sidesObj by rw [hwb]; exact blk_alloc HM3.out _)
        have HCb := Aside0.mk (show Kd.C (Kd.int .i64) wb A13 _ _ by rw [hwb]; exact Kd.C_alloc HC13.out _)
        have hca : wb.cell? ⟨w3.heap.size, 0, none⟩ = some (.slice A0 l0.length c0) := by rw [hwb]; exact (blk_cell (blk_new _ _) 0).trans rfl
        have HSA := Aside0.mk (lasts_calls 25 w3.heap.size l0.length a3 (backOf l0) wb HL.out (enters_of Try.func25 (by kernel_rfl) rfl) (back_stops Fence.wide 5 trivial rfl (by omega) w3.heap.size c0 A0 l0 wb HL.out (Kd.C_below HR.out HBb.out) hca))
        clear hca
        have HWB := Aside0.mk hwb
        clear hwb HM3 HB3 HC13
        go_wp2_with (first | (go_at_call 20; refine (back_calls _ _ _ _).mono ?_; rintro e w' ⟨rfl, rfl⟩; rw [← HWB.out]) | (go_at_call 18; refine HSA.out.mono ?_; rintro e w5 ⟨v14, rfl, ho14, hb14⟩; refine of_halt ?_))
        unfold G.Halt
        obtain ⟨A14, c14, rfl, hc14, hC14⟩ := Kd.R_reads ho14
        have HB5 := Aside0.mk (HBb.out.trans (hb14.mono HBb.out.size))
        have HM5 := Aside0.mk (blk_below HMb.out hb14)
        have HC14 := Aside0.mk hC14
        have HC13 := Aside0.mk (Kd.C_below HCb.out hb14)
        have HLe14 := Aside0.mk hc14
        clear ho14 hb14 HBb HMb HSA HWB hC14 hc14 HCb
        have hRL := resOf_length l0 a1 a2 a3
        have hRA := resOf_at l0 a1 a2 a3
        have hl13 := lastsOf_length l0.length a2 (allOf l0)
        have hl14 := lastsOf_length l0.length a3 (backOf l0)
        generalize (lastsOf l0.length a2 (allOf l0)).2 = L13 at *
        generalize (lastsOf l0.length a3 (backOf l0)).2 = L14 at *
        obtain ⟨R, hRR⟩ : ∃ R, R = resOf l0 a1 a2 a3 := ⟨_, rfl⟩
        rw [← hRR] at hRL hRA
        have HRR := Aside0.mk hRR
        clear hRR
        rw [hl13, hl14]
        rw [hl13] at HC13 HLe13
        rw [hl14] at HC14 HLe14
        have HRL := Aside0.mk hRL
        have HRA := Aside0.mk hRA
        clear hRL hRA hl13 hl14
        go_wp2_with (first | ((with_reducible refine gate_dst (N := 71) rfl ?_); refine of_halt ?_))
        unfold G.Halt
        have hO : Kd.R (Kd.int .i64) 3 (w5.alloc (Obj.cells #[] 3)) w5.heap.size (fun _ => True) (.slice (some ⟨w5.heap.size, 0, none⟩) 0 0) [] := ⟨fun _ _ => trivial, OwnRow.lit w5 w5.heap.size (ps := []) (inner := []) (Reps.none _ _) (Nat.le_refl _) (by simp)⟩
        refine Kd.R_append_row (w0 := w5) (Value.int .i64) 0 w5.heap.size rfl (.tmp 69) (.tmp 70) 22 3 (.int .i64 0) 8 rfl Try.underlying22 info3 rfl (by omega) (.slice (some ⟨w5.heap.size, 0, none⟩) 0 0) [] l0 A0 l0.length c0 (fun _ => True) rfl rfl (fun _ _ => trivial) hO (Kd.C_alloc (Kd.C_below HR.out HB5.out) _) (below_alloc (Below.refl _ _) _) (by simp) (by have := HL.out; simp; omega) ?_
        intro v15 w6 ho15 hb15 hg15 hat15
        clear hg15 hat15 hO
        have HO6 := Aside0.mk (show Kd.R (Kd.int .i64) 3 w6 w5.heap.size (fun _ => True) v15 (mix R l0 0) by rw [show mix R l0 0 = [] ++ l0 by simp [mix]]; exact ho15)
        have HB6 := Aside0.mk hb15
        clear ho15 hb15
        go_upto_block 2 with (fail)
        go_wp2
        go_loopg [74] (l0.length + 1) (fun kq v74 w' => ∃ (x : Int), v74 = .int .i64 x ∧ Aside0 (0 ≤ x ∧ x ≤ l0.length) ∧ Aside0 (kq + x.toNat = l0.length + 1) ∧ Aside0 (Kd.R (Kd.int .i64) 3 w' w5.heap.size (fun _ => True) v15 (mix R l0 x.toNat)) ∧ Aside0 (Below w5.heap.size w5 w'))
        case atStart => exact ⟨0, rfl, ⟨by omega⟩, ⟨rfl⟩, HO6, HB6⟩
        case round =>
          clear HO6 HB6
          obtain ⟨x, rfl, HI, HK, HO, HBw⟩ := hrel
          have HB := Aside0.mk (HB5.out.trans (HBw.out.mono HB5.out.size))
          by_cases c2 : x < (l0.length : Int)
          · have c2b : decide (x < (l0.length : Int)) = true := decide_eq_true c2
            obtain ⟨ad, e, hx⟩ := Kd.at_int (Kd.C_below HR.out HB.out) x HI.out.1 c2
            cases e
            have hm : (mix R l0 x.toNat).length = l0.length := mix_length _ _ _ HRL.out (by have := HI.out; omega)
            obtain ⟨g15, cap15, e15, _, _, _⟩ := Kd.R_form HO.out (by rw [hm]; have := HI.out; omega)
            rw [hm] at e15
            subst e15
            obtain ⟨hx15, hf15⟩ := Kd.R_celln 0 HO.out x HI.out.1 c2
            have p1 : (0 ≤ x) = True := eq_true HI.out.1
            have q1 : (x < (l0.length : Int)) = True := eq_true c2
            have hra := HRA.out x HI.out.1 c2
            have hxn : x = ((x.toNat : Nat) : Int) := by have := HI.out; omega
            have HXN := Aside0.mk hxn
            clear hxn hm
            have HC2 := Aside0.mk c2
            obtain ⟨ad13, e13, hx13⟩ := Kd.at_int (Kd.C_below HC13.out HBw.out) x HI.out.1 c2
            cases e13
            obtain ⟨ad14, e14, hx14⟩ := Kd.at_int (Kd.C_below HC14.out HBw.out) x HI.out.1 c2
            cases e14
            clear c2
            generalize hz : rd l0 x = z at *
            generalize hp : rd L13 x = p at *
            generalize hq : rd L14 x = q at *
            have HZ := Aside0.mk hz
            clear hz hp hq
            have hl1 := sideLook wr gm (blk_below HM5.out HBw.out) z
            by_cases c3 : sideOf z = 0
            · have b3 : (sideOf z != 0) = false := by simp [c3]
              rw [c3] at hl1
              by_cases c4 : p = q
              · have b4 : (p == q) = true := by simpa using c4
                have HV := Aside0.mk (show p = rd R x by rw [hra, resAt, if_neg (by simpa using c3), if_pos c4])
                clear c3 c4 hra
                go_upto_region 18 with (fail)
                go_quiet (fail)
                go_wp2
                go_roundg (gk - 1)
                case measure => have := HK.out; have := HI.out; have := HC2.out; omega
                case rel => exact ⟨x + 1, by rw [show wrap64 (x + 1) = x + 1 from by have := HI.out; have := HL.out; unfold wrap64; omega], ⟨by have := HI.out; have := HC2.out; omega⟩, ⟨by have := HK.out; have := HI.out; have := HC2.out; omega⟩, ⟨by have hs := mix_step R l0 x.toNat HRL.out (by have := HI.out; have := HC2.out; omega) (p) (by rw [HV.out, ← HXN.out]); rw [show (x + 1).toNat = x.toNat + 1 by have := HI.out; omega, ← hs]; first | exact (Kd.R_putn HO.out x (p)) | exact Kd.R_putn (Kd.R_drewN HO.out _) x (p) | exact Kd.R_putn (Kd.R_drew HO.out) x (p)⟩, ⟨(pw_below_drewN HBw.out _).setCell (p := ⟨g15, x.toNat, none⟩) (Kd.R_base HO.out g15 rfl) _⟩⟩
              · have b4 : (p == q) = false := by simpa using c4
                have HV := Aside0.mk (show 1 + a1 % 2 = rd R x by rw [hra, resAt, if_neg (by simpa using c3), if_neg c4])
                clear c3 c4 hra
                go_upto_region 18 with (fail)
                go_quiet (fail)
                go_wp2
                go_roundg (gk - 1)
                case measure => have := HK.out; have := HI.out; have := HC2.out; omega
                case rel => exact ⟨x + 1, by rw [show wrap64 (x + 1) = x + 1 from by have := HI.out; have := HL.out; unfold wrap64; omega], ⟨by have := HI.out; have := HC2.out; omega⟩, ⟨by have := HK.out; have := HI.out; have := HC2.out; omega⟩, ⟨by have hs := mix_step R l0 x.toNat HRL.out (by have := HI.out; have := HC2.out; omega) (1 + a1 % 2) (by rw [HV.out, ← HXN.out]); rw [show (x + 1).toNat = x.toNat + 1 by have := HI.out; omega, ← hs]; first | exact (Kd.R_putn HO.out x (1 + a1 % 2)) | exact Kd.R_putn (Kd.R_drewN HO.out _) x (1 + a1 % 2) | exact Kd.R_putn (Kd.R_drew HO.out) x (1 + a1 % 2)⟩, ⟨(pw_below_drewN HBw.out _).setCell (p := ⟨g15, x.toNat, none⟩) (Kd.R_base HO.out g15 rfl) _⟩⟩
            · have b3 : (sideOf z != 0) = true := by simp [c3]
              have HV := Aside0.mk (show z = rd R x by rw [hra, resAt, if_pos c3])
              clear c3 hra
              go_wp2
              go_roundg (gk - 1)
              case measure => have := HK.out; have := HI.out; have := HC2.out; omega
              case rel => exact ⟨x + 1, by rw [show wrap64 (x + 1) = x + 1 from by have := HI.out; have := HL.out; unfold wrap64; omega], ⟨by have := HI.out; have := HC2.out; omega⟩, ⟨by have := HK.out; have := HI.out; have := HC2.out; omega⟩, ⟨by rw [show (x + 1).toNat = x.toNat + 1 by have := HI.out; omega, ← mix_keep R l0 x.toNat HRL.out (by have := HI.out; have := HC2.out; omega) (by rw [← HXN.out, HZ.out, HV.out])]; exact HO.out⟩, HBw⟩
          · have h4 : x = l0.length := by have := HI.out; omega
            have c2b : decide (x < (l0.length : Int)) = false := decide_eq_false c2
            go_wp2
            go_ret2
            refine ⟨v15, rfl, ?_, HB.out⟩
            have := HO.out
            rw [show mix R l0 x.toNat = R by rw [mix, h4, Int.toNat_natCast, List.drop_length, List.append_nil, List.take_of_length_le (by rw [HRL.out]; exact Nat.le_refl _)]] at this
            rw [HRR.out] at this
            exact Kd.R_lower this HB5.out.size
end Go.Proofs.Ytcjmjggifeaggaa.X
