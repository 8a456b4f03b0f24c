/- explicit.Resolve. By hand. -/
import Derived.Test.YthokljlalgclkaaHResA
import Derived.Test.YthokljlalgclkaaHResB
namespace Go.Proofs.Ythokljlalgclkaa.G
open Go.RowKit Go.Proofs.Ythokljlalgclkaa.X Go.Proofs.YthokljlalgclkaaW.PrintWords Go.Proofs.YthokljlalgclkaaW.PrintLast Go.Proofs.YthokljlalgclkaaW.PrintMore Go.Proofs.Ythokljlalgclkaa.Exp
set_option linter.unusedVariables false
set_option linter.unusedSimpArgs false

set_option maxHeartbeats 16000000 in
set_option maxRecDepth 100000 in
theorem res_bad (A0 : Option Addr) (c0 : Nat) (c : List Int) (base : Int) (w : World) (hB : base ≠ 0 ∧ base ≠ 1) :
    Calls Try.prog 10 #[.slice A0 c.length c0, .int .i64 base] w (ResPost [] [] 2 w) := by
  have b1 : (base != 0) = true := by simpa using hB.1
  have b2 : (base != 1) = true := by simpa using hB.2
  clear hB
  go_enter Try.func10, Try.ntmps10
  go_wp2
  go_ret3
  exact ⟨_, _, rfl, Kd.R_nil _ _ _ _ _, Kd.R_nil _ _ _ _ _, Below.refl _ _⟩
set_option maxHeartbeats 16000000 in
set_option maxRecDepth 100000 in
theorem res_form (A0 : Option Addr) (c0 : Nat) (c : List Int) (base : Int) (w : World) (hr0 : Kd.C (Kd.int .i64) w A0 c.length c) (hc0 : c.length ≤ c0) (hl : c.length ≤ 17592186043904) (hB : base = 0 ∨ base = 1) (hf : formedB c = false) :
    Calls Try.prog 10 #[.slice A0 c.length c0, .int .i64 base] w (ResPost [] [] 50 w) := by
  obtain ⟨kf, hkf⟩ := Ev.rounds (formed_ev c hl)
  rw [hf] at hkf
  have HKF := Aside0.mk hkf
  have HR0 := Aside0.mk hr0
  have HC0 := Aside0.mk hc0
  have hb : (base != 0) = false ∨ (base != 0) = true ∧ (base != 1) = false := by rcases hB with rfl | rfl <;> decide
  clear hkf hr0 hc0 hl hf hB
  rcases hb with b1 | ⟨b1, b2⟩
  all_goals
    go_enter Try.func10, Try.ntmps10
    go_wp2_with (first | (go_at_call 18; refine (explicit_formed.calls kf A0 c0 c false _ HR0.out HC0.out HKF.out).mono ?_; rintro e w1 ⟨rfl, hd1⟩))
    go_ret3
    exact ⟨_, _, rfl, Kd.R_nil _ _ _ _ _, Kd.R_nil _ _ _ _ _, hd1.below⟩
theorem explicit_Resolve.calls (A0 : Option Addr) (c0 : Nat) (l0 : List Int) (a1 : Int) (r1 r2 : List Int) (r3 : Int) (w : World) (hr0 : Kd.C (Kd.int .i64) w A0 l0.length l0) (hc0 : l0.length ≤ c0) (h : explicit_Resolve.f l0 a1 = some (r1, r2, r3)) :
    Calls Try.prog 10 #[.slice A0 l0.length c0, .int .i64 a1] w fun e w' => ∃ v0_ v1_ : Value, e = .returned (.tuple #[v0_, v1_, .int .i64 r3]) ∧ Kd.R (Kd.int .i64) 3 w' w.heap.size (fun k_ => some k_ ≠ (v1_ : Value).ownBlock) v0_ r1 ∧ Kd.R (Kd.int .i64) 3 w' w.heap.size (fun k_ => some k_ ≠ (v0_ : Value).ownBlock) v1_ r2 ∧ Below w.heap.size w w' := by
  have hl : l0.length ≤ 17592186043904 := by unfold explicit_Resolve.f at h; split at h; assumption; simp at h
  rw [explicit_Resolve.f, if_pos hl] at h
  by_cases h1 : a1 ≠ 0 ∧ a1 ≠ 1
  · rw [if_pos h1] at h
    simp only [Option.some.injEq, Prod.mk.injEq] at h
    obtain ⟨rfl, rfl, rfl⟩ := h
    exact res_bad A0 c0 l0 a1 w h1
  · rw [if_neg h1] at h
    have hB : a1 = 0 ∨ a1 = 1 := by omega
    by_cases h2 : formedB l0 = false
    · rw [if_pos h2] at h
      simp only [Option.some.injEq, Prod.mk.injEq] at h
      obtain ⟨rfl, rfl, rfl⟩ := h
      exact res_form A0 c0 l0 a1 w hr0 hc0 hl hB h2
    · rw [if_neg h2] at h
      simp only [Option.some.injEq, Prod.mk.injEq] at h
      obtain ⟨rfl, rfl, rfl⟩ := h
      have hb : (a1 != 0) = false ∨ (a1 != 0) = true ∧ (a1 != 1) = false := by rcases hB with rfl | rfl <;> decide
      rcases hb with hb | hb
      · exact res_mainA A0 c0 l0 a1 w hr0 hc0 hl hB (by simpa using h2) hb
      · exact res_mainB A0 c0 l0 a1 w hr0 hc0 hl hB (by simpa using h2) hb
end Go.Proofs.Ythokljlalgclkaa.G
