/- The document's Read, by hand. -/
import Derived.Test.YtoehjojipmeagaaDoorHRefOpen
import Derived.Test.YtoehjojipmeagaaDoorHNum
import Derived.Test.YtoehjojipmeagaaDoorX1
namespace Go.Proofs.YtoehjojipmeagaaDoor.X
open Go.RowKit Go.Proofs.YtoehjojipmeagaaDoorW.PrintWords Go.Proofs.YtoehjojipmeagaaDoorW.PrintLast Go.Proofs.YtoehjojipmeagaaDoorW.PrintMore Go.Proofs.YtoehjojipmeagaaDoor.G Go.Proofs.YtoehjojipmeagaaDoor.T
set_option linter.unusedVariables false
set_option linter.unusedSimpArgs false

def num (l : List Int) : Int := l.foldl (fun n c => n * 256 + c) 0
theorem num_snoc (l : List Int) (c : Int) : num (l ++ [c]) = num l * 256 + c := by simp [num]
theorem num_bound : ∀ (n : Nat) (l : List Int), l.length = n → Bytes l → 0 ≤ num l ∧ num l < 256 ^ n := by
  intro n
  induction n with
  | zero => intro l h _; obtain rfl := List.eq_nil_of_length_eq_zero h; simp [num]
  | succ n ih =>
    intro l h hb
    obtain ⟨a, x, rfl⟩ : ∃ a x, l = a ++ [x] := ⟨l.dropLast, l.getLast (by intro e; simp [e] at h), (List.dropLast_concat_getLast _).symm⟩
    have ha := ih a (by simpa using h) (fun y hy => hb y (by simp [hy]))
    have hx := hb x (by simp)
    rw [num_snoc, Int.pow_succ]
    generalize num a = m at *
    generalize (256 : Int) ^ n = p at *
    constructor
    · omega
    · have : m + 1 ≤ p := by omega
      have := Int.mul_le_mul_of_nonneg_right this (show (0 : Int) ≤ 256 by omega)
      omega
theorem take_rd {l : List Int} {k : Nat} (h : k < l.length) : l.take (k + 1) = l.take k ++ [rd l (k : Int)] := by
  rw [List.take_succ_eq_append_getElem h]; simp [rd, h]
set_option maxHeartbeats 4000000 in
set_option maxRecDepth 100000 in
theorem number_calls (A : Option Addr) (c : Nat) (l : List Int) (w : World) (hC : Kd.C (Kd.int .u8) w A l.length l) (hb : Bytes l) (hl : l.length ≤ 4) :
    Calls Tryd.prog 29 #[.slice A l.length c] w fun e w' => e = .returned (.int .i64 (num l)) ∧ w' = w := by
  have HC := Aside0.mk hC
  have HL := Aside0.mk hl
  have HB := Aside0.mk hb
  clear hC hl hb
  go_enter Tryd.func29, Tryd.ntmps29
  go_wp2
  go_loopg [3, 4] (l.length + 1) (fun kq v3 v4 w' => ∃ (k : Nat) (x : Int), v4 = .int .i64 (k : Int) ∧ v3 = .int .i64 x ∧ Aside0 (k ≤ l.length) ∧ Aside0 (kq + k = l.length + 1) ∧ Aside0 (x = num (l.take k)) ∧ Aside0 (w' = w))
  case atStart => exact ⟨0, 0, rfl, rfl, ⟨Nat.zero_le _⟩, ⟨rfl⟩, ⟨rfl⟩, ⟨rfl⟩⟩
  case round =>
    obtain ⟨k, x, rfl, rfl, HI, HK, HX, ⟨rfl⟩⟩ := hrel
    by_cases c2 : k < l.length
    · have c2b : decide (k < l.length) = true := decide_eq_true c2
      obtain ⟨ad, e, hx⟩ := Kd.at_int HC.out (k : Int) (by omega) (by omega)
      cases e
      have hby : 0 ≤ rd l (k : Int) ∧ rd l (k : Int) < 256 := HB.out _ (by simp [rd, c2])
      have hnb := num_bound k (l.take k) (by rw [List.length_take]; omega) (HB.out.take k)
      have hk3 : k = 0 ∨ k = 1 ∨ k = 2 ∨ k = 3 := by have := HL.out; omega
      have hpk : (256 : Int) ^ k ≤ 16777216 := by rcases hk3 with h | h | h | h <;> rw [h] <;> decide
      have hx0 : 0 ≤ x := by rw [HX.out]; exact hnb.1
      have hx1 : x ≤ 16777215 := by have h2 := hnb.2; rw [HX.out]; omega
      have hs := take_rd c2
      have HC2 := Aside0.mk c2
      have hy0 := hby.1
      have hy1 : rd l (k : Int) ≤ 255 := by omega
      clear hnb hpk hby hk3
      simp only [Int.toNat_natCast] at hx
      have HS : Aside0 (num (l.take (k + 1)) = x * 256 + rd l (k : Int)) := ⟨by rw [hs, num_snoc, HX.out]⟩
      clear hs
      generalize rd l (k : Int) = y at *
      go_wp2
      go_roundg (gk - 1)
      case measure => have := HK.out; have := HC2.out; omega
      case rel => exact ⟨k + 1, x * 256 + y, by rw [show wrap64 ((k : Int) + 1) = ((k + 1 : Nat) : Int) from by have := HL.out; have := HC2.out; unfold wrap64; omega], by first | rfl | (congr 1; unfold wrap64; omega), ⟨by have := HC2.out; omega⟩, ⟨by have := HK.out; have := HC2.out; omega⟩, ⟨HS.out.symm⟩, ⟨rfl⟩⟩
    · obtain rfl : k = l.length := by have := HI.out; omega
      have hx := HX.out
      rw [List.take_length] at hx
      subst hx
      go_wp2
      go_ret
      exact ⟨rfl, rfl⟩
/-- What the document reads at the front of bytes. -/
def RD (b : List Int) (ep sq : Int) : List Int × Int × Int :=
  if [ep, sq].all numB = true then
    if b.length < 14 then ([], 0, 20)
    else if 4096 < num (b.take 2) then ([], 0, 3)
    else if (b.length : Int) < num (b.take 2) + 14 then ([], 0, 20)
    else if fits (b.take ((num (b.take 2)).toNat + 14)) = true then
      if num ((b.drop 2).take 4) = ep ∧ num ((b.drop 6).take 4) = sq then ((b.drop 10).take (num (b.take 2)).toNat, num (b.take 2) + 14, 0) else ([], 0, 180)
    else ([], 0, 21)
  else ([], 0, 2)
def ReadPost (A0 : Option Addr) (l0 : List Int) (w : World) (X : List Int) (r2 r3 : Int) (e : Ending) (w' : World) : Prop := ∃ A c, e = .returned (.tuple #[.slice A X.length c, .int .i64 r2, .int .i64 r3]) ∧ X.length ≤ c ∧ (∀ W, Kd.C (Kd.int .u8) W A0 l0.length l0 → Kd.C (Kd.int .u8) W A X.length X) ∧ Below w.heap.size w w'
theorem readPost_nil {A0 : Option Addr} {l0 : List Int} {w w' : World} {r2 r3 : Int} (hb : Below w.heap.size w w') : ReadPost A0 l0 w [] r2 r3 (.returned (.tuple #[.slice none 0 0, .int .i64 r2, .int .i64 r3])) w' := ⟨none, 0, rfl, Nat.le_refl _, fun _ _ => Kd.C_nil _ _, hb⟩
theorem is_calls (a : Int) (w : World) : Calls Tryd.prog 24 #[.int .i64 a] w fun e w' => e = .returned (.bool (numB a)) ∧ Drawn0 w w' := by
  refine colophonref18_is.calls a (numB a) w ?_
  unfold colophonref18_is.f numB
  split
  · congr 1; rw [Bool.eq_iff_iff]; simp; omega
  · congr 1; rw [Bool.eq_iff_iff]; simp; omega

set_option maxHeartbeats 16000000 in
set_option maxRecDepth 100000 in
theorem refRead_calls (A0 : Option Addr) (c0 : Nat) (l0 : List Int) (a1 a2 : Int) (w : World) (hr0 : Kd.C (Kd.int .u8) w A0 l0.length l0) (hc0 : l0.length ≤ c0) (hb : Bytes l0) (hl : l0.length ≤ 140737488351232) :
    Calls Tryd.prog 17 #[.slice A0 l0.length c0, .int .i64 a1, .int .i64 a2] w (ReadPost A0 l0 w (RD l0 a1 a2).1 (RD l0 a1 a2).2.1 (RD l0 a1 a2).2.2) := by
  by_cases h1 : numB a1 = true
  rotate_left
  · rw [show RD l0 a1 a2 = ([], 0, 2) by simp [RD, h1]]
    have h1' : numB a1 = false := Bool.eq_false_iff.2 h1
    have H1 := Aside0.mk (fun W => h1' ▸ is_calls a1 W)
    clear h1 h1'
    go_enter Tryd.func17, Tryd.ntmps17
    go_wp2_with (first | (go_at_call 24; (with_reducible refine (H1.out _).mono ?_); rintro e w' ⟨rfl, ⟨nd, rfl⟩⟩))
    go_ret3
    exact readPost_nil (pw_below_drewN (Below.refl _ _) _)
  by_cases h2 : numB a2 = true
  rotate_left
  · rw [show RD l0 a1 a2 = ([], 0, 2) by simp [RD, h2]]
    have h2' : numB a2 = false := Bool.eq_false_iff.2 h2
    have H1 := Aside0.mk (fun W => h1 ▸ is_calls a1 W)
    have H2 := Aside0.mk (fun W => h2' ▸ is_calls a2 W)
    clear h1 h2 h2'
    go_enter Tryd.func17, Tryd.ntmps17
    go_wp2_with (first | (go_at_call 24; (with_reducible refine (H1.out _).mono ?_); rintro e w' ⟨rfl, ⟨nd, rfl⟩⟩) | (go_at_call 24; (with_reducible refine (H2.out _).mono ?_); rintro e w' ⟨rfl, ⟨nd2, rfl⟩⟩))
    go_ret3
    exact readPost_nil (pw_below_drewN (Below.refl _ _) _)
  have H1 := Aside0.mk (fun W => h1 ▸ is_calls a1 W)
  have H2 := Aside0.mk (fun W => h2 ▸ is_calls a2 W)
  have hRD : RD l0 a1 a2 = if l0.length < 14 then ([], 0, 20)
    else if 4096 < num (l0.take 2) then ([], 0, 3)
    else if (l0.length : Int) < num (l0.take 2) + 14 then ([], 0, 20)
    else if fits (l0.take ((num (l0.take 2)).toNat + 14)) = true then
      if num ((l0.drop 2).take 4) = a1 ∧ num ((l0.drop 6).take 4) = a2 then ((l0.drop 10).take (num (l0.take 2)).toNat, num (l0.take 2) + 14, 0) else ([], 0, 180)
    else ([], 0, 21) := by unfold RD; rw [if_pos (by simp [h1, h2])]
  rw [hRD]
  clear hRD h1 h2
  by_cases h14 : l0.length < 14
  · rw [if_pos h14]
    have b14 : decide ((l0.length : Int) < 14) = true := decide_eq_true (by omega)
    have b15 : decide (l0.length < 14) = true := decide_eq_true h14
    clear h14
    go_enter Tryd.func17, Tryd.ntmps17
    go_wp2_with (first | (go_at_call 24; (with_reducible refine (H1.out _).mono ?_); rintro e w' ⟨rfl, ⟨nd, rfl⟩⟩) | (go_at_call 24; (with_reducible refine (H2.out _).mono ?_); rintro e w' ⟨rfl, ⟨nd2, rfl⟩⟩))
    go_ret3
    exact readPost_nil (pw_below_drewN (Below.refl _ _) _)
  rw [if_neg h14]
  have b14 : decide ((l0.length : Int) < 14) = false := decide_eq_false (by omega)
  have b15 : decide (l0.length < 14) = false := decide_eq_false h14
  obtain ⟨ad, rfl⟩ : ∃ ad, A0 = some ad := by
    obtain ⟨ad, e, _⟩ := Kd.at_int hr0 0 (by omega) (by omega)
    exact ⟨ad, e⟩
  have ht2 : (l0.take 2).length = 2 := by rw [List.length_take]; omega
  have hnb := num_bound 2 (l0.take 2) ht2 (hb.take 2)
  obtain ⟨N, hN⟩ := Int.eq_ofNat_of_zero_le hnb.1
  have HR := Aside0.mk hr0
  have HN2 := Aside0.mk (fun W (hC : Kd.C (Kd.int .u8) W (some ad) l0.length l0) => number_calls (some ad) c0 (l0.take 2) W (Kd.C_take hC (by omega)) (hb.take 2) (by omega))
  rw [ht2, hN] at HN2
  rw [hN] at hnb ⊢
  have f2 : ((2 : Int) ≤ (c0 : Int)) = True := eq_true (by omega)
  have f2n : (2 ≤ c0) = True := eq_true (by omega)
  have g0 : (0 : Int) ≤ (N : Int) := by omega
  have g1 : (N : Int) ≤ 65535 := by omega
  have e14 : wrap64 ((N : Int) + 14) = (N : Int) + 14 := by unfold wrap64; omega
  clear ht2
  by_cases h3 : 4096 < (N : Int)
  · rw [if_pos h3]
    have b3 : decide (4096 < (N : Int)) = true := decide_eq_true h3
    clear hnb h14 h3
    go_enter Tryd.func17, Tryd.ntmps17
    go_wp2_with (first | (go_at_call 24; (with_reducible refine (H1.out _).mono ?_); rintro e w' ⟨rfl, ⟨nd, rfl⟩⟩) | (go_at_call 24; (with_reducible refine (H2.out _).mono ?_); rintro e w' ⟨rfl, ⟨nd2, rfl⟩⟩) | (go_at_call 29; (with_reducible refine (HN2.out _ (Kd.C_drewN HR.out _)).mono ?_); rintro e w' ⟨rfl, rfl⟩))
    go_ret3
    exact readPost_nil (pw_below_drewN (Below.refl _ _) _)
  rw [if_neg h3]
  have b3 : decide (4096 < (N : Int)) = false := decide_eq_false h3
  by_cases h4 : (l0.length : Int) < (N : Int) + 14
  · rw [if_pos h4]
    have b4 : decide ((l0.length : Int) < (N : Int) + 14) = true := decide_eq_true h4
    clear hnb h14 h3 h4
    go_enter Tryd.func17, Tryd.ntmps17
    go_wp2_with (first | (go_at_call 24; (with_reducible refine (H1.out _).mono ?_); rintro e w' ⟨rfl, ⟨nd, rfl⟩⟩) | (go_at_call 24; (with_reducible refine (H2.out _).mono ?_); rintro e w' ⟨rfl, ⟨nd2, rfl⟩⟩) | (go_at_call 29; (with_reducible refine (HN2.out _ (Kd.C_drewN HR.out _)).mono ?_); rintro e w' ⟨rfl, rfl⟩))
    go_ret3
    exact readPost_nil (pw_below_drewN (Below.refl _ _) _)
  rw [if_neg h4]
  have b4 : decide ((l0.length : Int) < (N : Int) + 14) = false := decide_eq_false h4
  have hNl : N + 14 ≤ l0.length := by omega
  have htp : (l0.take (N + 14)).length = N + 14 := by rw [List.length_take]; omega
  have s1 : ((N : Int) + 14 ≤ (c0 : Int)) = True := eq_true (by omega)
  have s2 : (0 : Int) ≤ (N : Int) + 14 := by omega
  have s3 : ((N : Int) + 14).toNat = N + 14 := by omega
  have s4 : (N + 14 ≤ c0) = True := eq_true (by omega)
  rw [Int.toNat_natCast]
  have HOP := Aside0.mk (fun W (hC : Kd.C (Kd.int .u8) W (some ad) l0.length l0) b v r hb' hv => refOpen_yes ad c0 (l0.take (N + 14)) W (Kd.C_take hC (by omega)) (by rw [htp]; omega) (hb.take _) (by rw [htp]; omega) (N + 10) (by rw [htp]) b hb' v r hv)
  rw [htp] at HOP
  by_cases h5 : fits (l0.take (N + 14)) = true
  rotate_left
  · rw [if_neg h5]
    have HO5 := Aside0.mk (fun W hC => HOP.out W hC false (.slice none 0 0) 21 (Bool.eq_false_iff.2 h5) rfl)
    clear hnb h14 h3 h4 h5 HOP htp
    go_enter Tryd.func17, Tryd.ntmps17
    go_wp2_with (first | (go_at_call 24; (with_reducible refine (H1.out _).mono ?_); rintro e w' ⟨rfl, ⟨nd, rfl⟩⟩) | (go_at_call 24; (with_reducible refine (H2.out _).mono ?_); rintro e w' ⟨rfl, ⟨nd2, rfl⟩⟩) | (go_at_call 29; (with_reducible refine (HN2.out _ (Kd.C_drewN HR.out _)).mono ?_); rintro e w' ⟨rfl, rfl⟩) | (go_at_call 30; (with_reducible refine (HO5.out _ (Kd.C_drewN HR.out _)).mono ?_); rintro e w5 ⟨rfl, hb5⟩; have HB5 := Aside0.mk (below_step (pw_below_drewN (Below.refl w.heap.size w) _) hb5); clear hb5))
    go_ret3
    exact readPost_nil HB5.out
  rw [if_pos h5]
  have HO5 := Aside0.mk (fun W hC => HOP.out W hC true (.slice (some ad) (N + 10) c0) 0 h5 rfl)
  have m2 : ((l0.take 6).drop 2).length = 4 := by rw [List.length_drop, List.length_take]; omega
  have m6 : ((l0.take 10).drop 6).length = 4 := by rw [List.length_drop, List.length_take]; omega
  have t2 : (l0.take 6).drop 2 = (l0.drop 2).take 4 := by rw [List.drop_take]
  have t6 : (l0.take 10).drop 6 = (l0.drop 6).take 4 := by rw [List.drop_take]
  have HM2 := Aside0.mk (fun W (hC : Kd.C (Kd.int .u8) W (some ad) l0.length l0) => number_calls (some (ad.add 2)) (c0 - 2) ((l0.take 6).drop 2) W (by have := Kd.C_mid (lo := 2) (hi := 6) (c := c0) hC (by omega) (by omega) hc0; rwa [if_neg (by omega)] at this) ((hb.take 6).drop 2) (by omega))
  have HM6 := Aside0.mk (fun W (hC : Kd.C (Kd.int .u8) W (some ad) l0.length l0) => number_calls (some (ad.add 6)) (c0 - 6) ((l0.take 10).drop 6) W (by have := Kd.C_mid (lo := 6) (hi := 10) (c := c0) hC (by omega) (by omega) hc0; rwa [if_neg (by omega)] at this) ((hb.take 10).drop 6) (by omega))
  rw [m2, t2] at HM2
  rw [m6, t6] at HM6
  have u1 : ((6 : Int) ≤ (c0 : Int)) = True := eq_true (by omega)
  have u1n : (6 ≤ c0) = True := eq_true (by omega)
  have u3i : ((10 : Int) ≤ (c0 : Int)) = True := eq_true (by omega)
  have u6i : ((10 : Int) ≤ (N : Int) + 10) = True := eq_true (by omega)
  have u7 : (0 ≤ (N : Int)) = True := eq_true (by omega)
  have u2 : (c0 = 2) = False := eq_false (by omega)
  have u3 : (10 ≤ c0) = True := eq_true (by omega)
  have u4 : (c0 = 6) = False := eq_false (by omega)
  have u5 : (c0 = 10) = False := eq_false (by omega)
  have u6 : (10 ≤ N + 10) = True := eq_true (by omega)
  generalize num ((l0.drop 2).take 4) = x1 at *
  generalize num ((l0.drop 6).take 4) = x2 at *
  have HX : Aside0 (((l0.drop 10).take N).length = N ∧ ∀ W, Kd.C (Kd.int .u8) W (some ad) l0.length l0 → Kd.C (Kd.int .u8) W (some (ad.add 10)) N ((l0.drop 10).take N)) := ⟨by
    have e1 : ((l0.drop 10).take N).length = N := by rw [List.length_take, List.length_drop]; omega
    refine ⟨e1, fun W hC => ?_⟩
    have := Kd.C_mid (lo := 10) (hi := N + 10) (c := c0) hC (by omega) (by omega) hc0
    rw [if_neg (by omega), List.drop_take, Nat.add_sub_cancel, e1] at this
    exact this⟩
  have info5 : (Tryd.prog.info? 5).map (fun i => (i.zero, i.size, i.bytes)) = some (some (.int .u8 0), 1, 1) := by kernel_rfl
  obtain ⟨i5, hi5, hi5z, hi5s, hi5b⟩ := info_parts info5
  obtain ⟨p2, hp2⟩ : ∃ x, x = ad.add 2 := ⟨_, rfl⟩
  obtain ⟨p6, hp6⟩ : ∃ x, x = ad.add 6 := ⟨_, rfl⟩
  obtain ⟨p10, hp10⟩ : ∃ x, x = ad.add 10 := ⟨_, rfl⟩
  have hcut2 : ∀ W, (Instr.slice 22 (.slice (some ad) (N + 10) c0) (some (.int .i64 2)) (some (.int .i64 6)) none).run Tryd.prog W = .ok (.slice (some p2) 4 (c0 - 2)) W := fun W => by
    rw [cut_mid 22 5 .i64 .i64 Tryd.underlying22 hi5 1 hi5s (some ad) (N + 10) c0 2 6 (by omega) (by omega) (by omega) (by omega) W, if_neg (show ¬ c0 = (2 : Int).toNat by omega), hp2]; rfl
  have hcut6 : ∀ W, (Instr.slice 22 (.slice (some ad) (N + 10) c0) (some (.int .i64 6)) (some (.int .i64 10)) none).run Tryd.prog W = .ok (.slice (some p6) 4 (c0 - 6)) W := fun W => by
    rw [cut_mid 22 5 .i64 .i64 Tryd.underlying22 hi5 1 hi5s (some ad) (N + 10) c0 6 10 (by omega) (by omega) (by omega) (by omega) W, if_neg (show ¬ c0 = (6 : Int).toNat by omega), hp6]; rfl
  have hcut10 : ∀ W, (Instr.slice 22 (.slice (some ad) (N + 10) c0) (some (.int .i64 10)) none none).run Tryd.prog W = .ok (.slice (some p10) N (c0 - 10)) W := fun W => by
    rw [cut_from 22 5 .i64 Tryd.underlying22 hi5 1 hi5s (some ad) (N + 10) c0 10 (by omega) (by omega) W, if_neg (show ¬ c0 = (10 : Int).toNat by omega), hp10, show N + 10 - (10 : Int).toNat = N by omega]; rfl
  rw [← hp2] at HM2
  rw [← hp6] at HM6
  rw [← hp10] at HX
  clear hp2 hp6 hp10 hi5 hi5z hi5s hi5b
  have HC0 := Aside0.mk hc0
  have HNl := Aside0.mk hNl
  clear hnb h14 h3 h4 h5 HOP htp m2 m6 t2 t6
  by_cases h6 : x1 = a1
  rotate_left
  · rw [if_neg (fun h => h6 h.1)]
    have b6 : (x1 != a1) = true := by simpa using h6
    clear h6
    go_enter Tryd.func17, Tryd.ntmps17
    go_wp2_with (first | (go_at_call 24; (with_reducible refine (H1.out _).mono ?_); rintro e w' ⟨rfl, ⟨nd, rfl⟩⟩) | (go_at_call 24; (with_reducible refine (H2.out _).mono ?_); rintro e w' ⟨rfl, ⟨nd2, rfl⟩⟩) | (go_at_call 29; (with_reducible refine (HN2.out _ (Kd.C_drewN HR.out _)).mono ?_); rintro e w' ⟨rfl, rfl⟩) | (go_at_call 30; (with_reducible refine (HO5.out _ (Kd.C_drewN HR.out _)).mono ?_); rintro e w5 ⟨rfl, hb5⟩; have HB5 := Aside0.mk (below_step (pw_below_drewN (Below.refl w.heap.size w) _) hb5); clear hb5) | (go_at_call 29; (with_reducible refine (HM2.out _ (Kd.C_below HR.out HB5.out)).mono ?_); rintro e w' ⟨rfl, rfl⟩))
    go_ret3
    exact readPost_nil HB5.out
  subst h6
  by_cases h7 : x2 = a2
  rotate_left
  · rw [if_neg (fun h => h7 h.2)]
    have b7 : (x2 != a2) = true := by simpa using h7
    clear h7
    go_enter Tryd.func17, Tryd.ntmps17
    go_wp2_with (first | (go_at_call 24; (with_reducible refine (H1.out _).mono ?_); rintro e w' ⟨rfl, ⟨nd, rfl⟩⟩) | (go_at_call 24; (with_reducible refine (H2.out _).mono ?_); rintro e w' ⟨rfl, ⟨nd2, rfl⟩⟩) | (go_at_call 29; (with_reducible refine (HN2.out _ (Kd.C_drewN HR.out _)).mono ?_); rintro e w' ⟨rfl, rfl⟩) | (go_at_call 30; (with_reducible refine (HO5.out _ (Kd.C_drewN HR.out _)).mono ?_); rintro e w5 ⟨rfl, hb5⟩; have HB5 := Aside0.mk (below_step (pw_below_drewN (Below.refl w.heap.size w) _) hb5); clear hb5) | (go_at_call 29; (with_reducible refine (HM2.out _ (Kd.C_below HR.out HB5.out)).mono ?_); rintro e w' ⟨rfl, rfl⟩) | (go_at_call 29; (with_reducible refine (HM6.out _ (Kd.C_below HR.out HB5.out)).mono ?_); rintro e w' ⟨rfl, rfl⟩))
    go_ret3
    exact readPost_nil HB5.out
  subst h7
  rw [if_pos ⟨rfl, rfl⟩]
  go_enter Tryd.func17, Tryd.ntmps17
  go_wp2_with (first | (go_at_call 24; (with_reducible refine (H1.out _).mono ?_); rintro e w' ⟨rfl, ⟨nd, rfl⟩⟩) | (go_at_call 24; (with_reducible refine (H2.out _).mono ?_); rintro e w' ⟨rfl, ⟨nd2, rfl⟩⟩) | (go_at_call 29; (with_reducible refine (HN2.out _ (Kd.C_drewN HR.out _)).mono ?_); rintro e w' ⟨rfl, rfl⟩) | (go_at_call 30; (with_reducible refine (HO5.out _ (Kd.C_drewN HR.out _)).mono ?_); rintro e w5 ⟨rfl, hb5⟩; have HB5 := Aside0.mk (below_step (pw_below_drewN (Below.refl w.heap.size w) _) hb5); clear hb5) | (go_at_call 29; (with_reducible refine (HM2.out _ (Kd.C_below HR.out HB5.out)).mono ?_); rintro e w' ⟨rfl, rfl⟩) | (go_at_call 29; (with_reducible refine (HM6.out _ (Kd.C_below HR.out HB5.out)).mono ?_); rintro e w' ⟨rfl, rfl⟩))
  go_ret3
  refine ⟨some p10, c0 - 10, ?_, by rw [HX.out.1]; have := HC0.out; have := HNl.out; omega, by rw [HX.out.1]; exact HX.out.2, HB5.out⟩
  rw [HX.out.1]
  rfl
end Go.Proofs.YtoehjojipmeagaaDoor.X
