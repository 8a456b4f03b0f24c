/- Entry.may, by hand: with the library's ContainsFunc over a closure that captures nothing. -/
import Derived.Test.YtogapedacdnfcaaDoorSumsM
namespace Go.Proofs.YtogapedacdnfcaaDoor.G
open Go.RowKit Go.Proofs.YtogapedacdnfcaaDoorW.PrintWords Go.Proofs.YtogapedacdnfcaaDoorW.PrintLast Go.Proofs.YtogapedacdnfcaaDoorW.PrintMore
set_option linter.unusedVariables false
set_option linter.unusedSimpArgs false

/-- Is a number out of what an entry may hold? -/
def far (n : Int) : Bool := decide (n < -1) || decide (126 < n)
set_option maxHeartbeats 4000000 in
set_option maxRecDepth 100000 in
theorem may1_calls (n : Int) (w : World) : Calls Tryd.prog 59 #[.int .i64 n] w fun e w' => e = .returned (.bool (far n)) ∧ w' = w := by
  by_cases c1 : n < -1
  · have c1b : decide (n < -1) = true := decide_eq_true c1
    have hf : far n = true := by simp [far, c1b]
    rw [hf]
    clear c1 hf
    go_enter Tryd.func59, Tryd.ntmps59
    go_wp2
    go_ret
    exact ⟨rfl, rfl⟩
  · have c1b : decide (n < -1) = false := decide_eq_false c1
    have hf : far n = decide (126 < n) := by simp [far, c1b]
    rw [hf]
    generalize hd : decide (126 < n) = d
    clear c1 hf
    go_enter Tryd.func59, Tryd.ntmps59
    go_wp2
    go_ret
    exact ⟨rfl, rfl⟩
set_option maxHeartbeats 8000000 in
set_option maxRecDepth 100000 in
theorem indexFunc_calls (A : Option Addr) (c : Nat) (l : List Int) (w : World) (hr0 : Kd.C (Kd.int .i64) w A l.length l) :
    Calls Tryd.prog 77 #[.slice A l.length c, .func (.func 59) #[] #[]] w fun e w' => (∃ i : Int, e = .returned (.int .i64 i) ∧ decide (0 ≤ i) = l.any far) ∧ w' = w := by
  have HC := Aside0.mk hr0
  clear hr0
  go_enter Tryd.func77, Tryd.ntmps77
  go_wp2
  go_loopg [5, 8] (l.length + 1) (fun kq v5 v8 w' => ∃ k : Nat, v8 = .int .i64 (k : Int) ∧ Aside0 (k ≤ l.length) ∧ Aside0 (kq + k = l.length + 1) ∧ Aside0 ((l.take k).any far = false) ∧ Aside0 (w' = w))
  case atStart => exact ⟨0, rfl, ⟨Nat.zero_le _⟩, ⟨rfl⟩, ⟨rfl⟩, ⟨rfl⟩⟩
  case round =>
    obtain ⟨k, rfl, HI, HK, HF, ⟨rfl⟩⟩ := hrel
    by_cases c2 : k < l.length
    · have c2b : decide (k < l.length) = true := decide_eq_true c2
      obtain ⟨ad, e, hx⟩ := Kd.at_int HC.out (k : Int) (by omega) (by omega)
      cases e
      simp only [Int.toNat_natCast] at hx
      have p1 : ((k : Int) < (l.length : Int)) = True := eq_true (Int.ofNat_lt.2 c2)
      have q1 : (k < l.length) = True := eq_true c2
      have hs : l.take (k + 1) = l.take k ++ [rd l (k : Int)] := by rw [List.take_succ_eq_append_getElem c2]; simp [rd, c2]
      have HM := Aside0.mk (fun W => may1_calls (rd l (k : Int)) W)
      have HC2 := Aside0.mk c2
      have hany : (l.take (k + 1)).any far = far (rd l (k : Int)) := by rw [hs, List.any_append, HF.out]; simp
      have HA := Aside0.mk hany
      have HAll := Aside0.mk (show far (rd l (k : Int)) = true → l.any far = true from fun h => List.any_eq_true.2 ⟨rd l (k : Int), by simp [rd, c2], h⟩)
      clear hs hany c2
      generalize rd l (k : Int) = y at *
      cases hq : far y with
      | true =>
        rw [hq] at HM
        have HAA := Aside0.mk (HAll.out hq)
        clear HAll HA
        go_wp2_with (first | (go_at_call 59; refine (HM.out _).mono ?_; rintro e w1 ⟨rfl, rfl⟩))
        go_ret
        exact ⟨⟨_, rfl, by rw [HAA.out]; exact decide_eq_true (by omega)⟩, rfl⟩
      | false =>
        rw [hq] at HM HA
        go_wp2_with (first | (go_at_call 59; refine (HM.out _).mono ?_; rintro e w1 ⟨rfl, rfl⟩))
        go_roundg (gk - 1)
        case measure => have := HK.out; have := HC2.out; omega
        case rel => exact ⟨k + 1, by rw [show wrap64 ((k : Int) + 1) = ((k + 1 : Nat) : Int) from by have := Kd.C_max HC.out; have := HC2.out; unfold wrap64; omega], ⟨by have := HC2.out; omega⟩, ⟨by have := HK.out; have := HC2.out; omega⟩, HA, ⟨rfl⟩⟩
    · have c2b : decide (k < l.length) = false := decide_eq_false c2
      obtain rfl : k = l.length := by have := HI.out; omega
      have hf := HF.out
      rw [List.take_length] at hf
      have HF2 := Aside0.mk hf
      clear hf c2
      go_wp2
      go_ret
      exact ⟨⟨_, rfl, HF2.out.symm⟩, rfl⟩
set_option maxHeartbeats 8000000 in
set_option maxRecDepth 100000 in
theorem containsFunc_calls (A : Option Addr) (c : Nat) (l : List Int) (w : World) (hr0 : Kd.C (Kd.int .i64) w A l.length l) :
    Calls Tryd.prog 60 #[.slice A l.length c, .func (.func 59) #[] #[]] w fun e w' => e = .returned (.bool (l.any far)) ∧ w' = w := by
  have HC := Aside0.mk (indexFunc_calls A c l w hr0)
  clear hr0
  go_enter Tryd.func60, Tryd.ntmps60
  go_wp2_with (first | (go_at_call 77; refine HC.out.mono ?_; rintro e w1 ⟨⟨i, rfl, hi⟩, rfl⟩))
  go_ret
  exact ⟨by rw [← hi]; rfl, rfl⟩
/-- May an entry be written? -/
def cache_Entry_may.f (a0_0 a0_1 a0_2 : Int) (l0_3 : List Int) : Option Bool := some (decide (-1 ≤ a0_1 ∧ a0_1 ≤ 1 ∧ (a0_2 = 0 ∨ a0_2 = 1) ∧ l0_3.length ≤ 49 ∧ l0_3.any far = false))
set_option maxHeartbeats 8000000 in
set_option maxRecDepth 100000 in
theorem cache_Entry_may.calls (a0_0 a0_1 a0_2 : Int) (A0_3 : Option Addr) (c0_3 : Nat) (l0_3 : List Int) (r : Bool) (w : World) (hr0_3 : Kd.C (Kd.int .i64) w A0_3 l0_3.length l0_3) (hc0_3 : l0_3.length ≤ c0_3) (h : cache_Entry_may.f a0_0 a0_1 a0_2 l0_3 = some r) :
    Calls Tryd.prog 30 #[.agg #[.int .u64 a0_0, .int .i64 a0_1, .int .i64 a0_2, .slice A0_3 l0_3.length c0_3]] w fun e w' => e = .returned (.bool r) ∧ Below w.heap.size w w' := by
  have HR := Aside0.mk hr0_3
  have HB := Aside0.mk (Below.refl w.heap.size w)
  have HCF := Aside0.mk (fun W hC => containsFunc_calls A0_3 c0_3 l0_3 W hC)
  obtain ⟨ff, hff⟩ : ∃ b, l0_3.any far = b := ⟨_, rfl⟩
  rw [hff] at HCF
  obtain ⟨b1, hb1⟩ : ∃ b, b = decide ((-1 : Int) ≤ a0_1) := ⟨_, rfl⟩
  obtain ⟨b2, hb2⟩ : ∃ b, b = decide (a0_1 ≤ 1) := ⟨_, rfl⟩
  obtain ⟨b3, hb3⟩ : ∃ b, b = (a0_2 == 0) := ⟨_, rfl⟩
  obtain ⟨b4, hb4⟩ : ∃ b, b = (a0_2 == 1) := ⟨_, rfl⟩
  obtain ⟨b5, hb5⟩ : ∃ b, b = decide (l0_3.length ≤ 49) := ⟨_, rfl⟩
  have hb6 : decide ((l0_3.length : Int) ≤ 49) = b5 := by rw [hb5]; exact decide_eq_decide.2 (by omega)
  have hres : r = (b1 && b2 && (b3 || b4) && b5 && !ff) := by
    rw [cache_Entry_may.f, hff] at h
    injection h with h
    rw [← h, hb1, hb2, hb3, hb4, hb5, Bool.eq_iff_iff]
    simp [and_assoc]
  subst hres
  replace hb1 := hb1.symm
  replace hb2 := hb2.symm
  replace hb3 := hb3.symm
  replace hb4 := hb4.symm
  replace hb5 := hb5.symm
  clear h hr0_3 hff
  have info := Tryd.underlying25
  go_enter Tryd.func30, Tryd.ntmps30
  go_upto_region 1 with (first | ((with_reducible refine gate_dst (N := 1) rfl ?_); (try (refine gate_guard (by rfl) ?_; dsimp only)); refine box_event ?hg (N := 1) ?hd (cs := #[.int .u64 a0_0, .int .i64 a0_1, .int .i64 a0_2, .slice A0_3 l0_3.length c0_3]) (t := 25) ?hr ?_; (case hd => rfl); (case hg => rfl); (case hr => first | (go_simp; done) | (go_simp; rfl)); intro gb hg w3 hbox hb; have HB3 := Aside0.mk (below_step HB.out hb); have BK := Aside0.mk hbox; clear hb hbox hg))
  (try simp only [Act.put, List.setIfInBounds_toArray, List.set_cons_zero, List.set_cons_succ])
  have hcz0 : w3.cell? ⟨gb, 0, none⟩ = some (.int .u64 a0_0) := (blk_cell BK.out 0).trans rfl
  have hcz1 : w3.cell? ⟨gb, 1, none⟩ = some (.int .i64 a0_1) := (blk_cell BK.out 1).trans rfl
  have hcz2 : w3.cell? ⟨gb, 2, none⟩ = some (.int .i64 a0_2) := (blk_cell BK.out 2).trans rfl
  have hcz3 : w3.cell? ⟨gb, 3, none⟩ = some (.slice A0_3 l0_3.length c0_3) := (blk_cell BK.out 3).trans rfl
  cases b1 <;> cases b2 <;> cases b3 <;> cases b4 <;> cases b5
  all_goals
    go_wp2_with (first | (go_at_call 60; refine (HCF.out _ (Kd.C_below HR.out HB3.out)).mono ?_; rintro e w4 ⟨rfl, rfl⟩))
    go_ret
    first | exact ⟨rfl, HB3.out⟩ | exact ⟨by simp, HB3.out⟩
end Go.Proofs.YtogapedacdnfcaaDoor.G
