/- The law DiskPlays, walked by hand. -/
import Derived.Test.YtckbdckeijanlaaDoesM
namespace Go.Proofs.Ytckbdckeijanlaa.G
open Go.RowKit Go.Shelf Go.Proofs.YtckbdckeijanlaaW.PrintWords Go.Proofs.YtckbdckeijanlaaW.PrintLast Go.Proofs.YtckbdckeijanlaaW.PrintMore Go.Proofs.Ytckbdckeijanlaa.Dsk
set_option linter.unusedVariables false
set_option linter.unusedSimpArgs false
def doStep (d : Dk) (x : Act17) : Dk :=
  if x.1 = 0 then (write d x.2.1 x.2.2.2.1).1 else if x.1 = 1 then (Dsk.flush d).1 else if x.1 = 2 then (stop d x.2.1).1 else if x.1 = 3 then (spoil d x.2.1 x.2.2.1 (IntKind.u8.wrap (x.2.2.2.1.length : Int))).1 else crash d x.2.2.2.2
theorem does_c (w W : World) (F1 F2 : Nat → Prop) (g1 g2 : Nat) (d : Dk) (x : Act17) (B : Option Addr) (cb : Nat) (K : Option Addr) (ck : Nat) (h : DoIn w W F1 F2 g1 g2 d x B cb K ck) :
    Calls Try.prog 24 #[.pointer (some ⟨g1, 0, none⟩), .pointer (some ⟨g2, 0, none⟩), .agg #[.int .i64 x.1, .int .i64 x.2.1, .int .i64 x.2.2.1, .slice B x.2.2.2.1.length cb, .slice K x.2.2.2.2.length ck]] W (DoP w (doStep d x)) := by
  unfold doStep
  by_cases h0 : x.1 = 0
  · rw [if_pos h0]; exact does_write w W F1 F2 g1 g2 d x B cb K ck h h0
  · rw [if_neg h0]
    by_cases h1 : x.1 = 1
    · rw [if_pos h1]; exact does_flush w W F1 F2 g1 g2 d x B cb K ck h h1
    · rw [if_neg h1]
      by_cases h2 : x.1 = 2
      · rw [if_pos h2]; exact does_stop w W F1 F2 g1 g2 d x B cb K ck h h2
      · rw [if_neg h2]
        by_cases h3 : x.1 = 3
        · rw [if_pos h3]; exact does_spoil w W F1 F2 g1 g2 d x B cb K ck h h3
        · rw [if_neg h3]; exact does_crash w W F1 F2 g1 g2 d x B cb K ck h ⟨eq_false h0, eq_false h1, eq_false h2, eq_false h3⟩
/-- What a play's disk keeps to. -/
structure Pl (d : Dk) (m i : Nat) : Prop where
  lies : d.lies.length = m
  left : d.left.getD 0 < 9223372036854775808
  steps : d.steps ≤ i
  waits : d.waits.length ≤ i
theorem Pl.small {d : Dk} {m i : Nat} (h : Pl d m i) (hm : m ≤ 5000) (hi : i ≤ 1000) : Small d := ⟨by have := h.steps; omega, h.left, by have := h.waits; omega, by rw [h.lies]; omega⟩
theorem Pl.step {d : Dk} {m i : Nat} (h : Pl d m i) (ok : Ok d) (x : Act17) (hx : x.2.1 < 9223372036854775808) : Pl (doStep d x) m (i + 1) := by
  have hs := h.steps
  have hw := h.waits
  have hst : (d.left.map (· - 1)).getD 0 < 9223372036854775808 := by
    have := h.left
    cases hl : d.left with
    | none => simp
    | some n => rw [hl] at this; simp at this ⊢; omega
  have hid : Pl d m (i + 1) := ⟨h.lies, h.left, by omega, by omega⟩
  unfold doStep
  split
  · unfold write
    split
    · exact hid
    · split
      · exact hid
      · split
        · exact hid
        · exact ⟨h.lies, hst, by show d.steps + 1 ≤ _; omega, by show (d.waits ++ [_]).length ≤ _; rw [List.length_append]; show _ + 1 ≤ _; omega⟩
  · split
    · unfold Dsk.flush
      split
      · exact hid
      · exact ⟨(settle_len _ _).trans h.lies, hst, by show d.steps + 1 ≤ _; omega, by show 0 ≤ _; omega⟩
    · split
      · unfold stop
        split
        · exact hid
        · exact ⟨h.lies, by show x.2.1.toNat < _; omega, by show d.steps ≤ _; omega, by show d.waits.length ≤ _; omega⟩
      · split
        · unfold spoil
          split
          · exact hid
          · exact ⟨by show (List.set _ _ _).length = _; rw [List.length_set]; exact h.lies, h.left, by show d.steps ≤ _; omega, by show d.waits.length ≤ _; omega⟩
        · exact ⟨((crashL_ok d.waits x.2.2.2.2 d.lies ok.lies ok.waits).1).trans h.lies, by show (0 : Nat) < _; omega, by show 0 ≤ _; omega, by show 0 ≤ _; omega⟩
end Go.Proofs.Ytckbdckeijanlaa.G
namespace Go.Proofs.Ytckbdckeijanlaa.X
open Go.RowKit Go.Shelf Go.Proofs.YtckbdckeijanlaaW.PrintWords Go.Proofs.YtckbdckeijanlaaW.PrintLast Go.Proofs.YtckbdckeijanlaaW.PrintMore Go.Proofs.Ytckbdckeijanlaa.Dsk Go.Proofs.Ytckbdckeijanlaa.G
set_option linter.unusedVariables false
set_option linter.unusedSimpArgs false
/-- What the acts come in with. -/
def ActsOk (l : List Act17) : Prop := (∀ y ∈ l, (Lit.int .i64 y.1).wf = true ∧ (Lit.int .i64 y.2.1).wf = true ∧ (Lit.int .i64 y.2.2.1).wf = true ∧ ((∀ v ∈ y.2.2.2.1, (Lit.int .u8 v).wf = true) ∧ y.2.2.2.1.length * Try.prog.bytesOf 5 ≤ reachBytes) ∧ ((∀ v ∈ y.2.2.2.2, (Lit.int .i64 v).wf = true) ∧ y.2.2.2.2.length * Try.prog.bytesOf 3 ≤ reachBytes)) ∧ l.length * Try.prog.bytesOf 38 ≤ reachBytes
theorem bytes5 : Try.prog.bytesOf 5 = 1 := by kernel_rfl
theorem bytes3 : Try.prog.bytesOf 3 = 8 := by kernel_rfl
theorem ActsOk.at {l : List Act17} (h : ActsOk l) {x : Act17} (hx : x ∈ l) : x.2.2.2.1.length ≤ 140737488355328 ∧ x.2.2.2.2.length * 8 ≤ 140737488355328 ∧ x.2.1 < 9223372036854775808 := by
  obtain ⟨_, h1, _, ⟨_, h2⟩, ⟨_, h3⟩⟩ := h.1 x hx
  rw [bytes5] at h2
  rw [bytes3] at h3
  have hr : reachBytes ≤ 140737488355328 := by decide
  refine ⟨by omega, by omega, ?_⟩
  simp [Lit.wf, IntKind.min, IntKind.max, IntKind.signed, IntKind.bits] at h1
  omega
set_option maxHeartbeats 16000000 in
set_option maxRecDepth 100000 in
theorem colophonlaw17_DiskPlays.calls (a0 : Int) (A1 : Option Addr) (c1 : Nat) (l1 : List Act17) (w : World) (hr1 : Kd.C actK w A1 l1.length l1) (hc1 : l1.length ≤ c1) (hp1 : ActsOk l1) :
    Calls Try.prog 8 #[.int .i64 a0, .slice A1 l1.length c1] w fun e w' => e = .returned (.bool true) ∧ Below w.heap.size w w' := by
  have HR1 := Aside0.mk hr1
  have HP1 := Aside0.mk hp1
  clear hr1 hc1 hp1
  have hnames : ∀ V : World, Calls Try.prog 23 #[] V fun e w' => e = .returned (.bool true) ∧ Drawn0 V w' := fun V => X.colophonlaw17_names.calls true V rfl
  have HNM := Aside0.mk hnames
  clear hnames
  by_cases hn : 1 ≤ a0 ∧ a0 ≤ 4096
  · obtain ⟨m, rfl⟩ := Int.eq_ofNat_of_zero_le (show 0 ≤ a0 by omega)
    have HN := Aside0.mk hn
    clear hn
    go_enter Try.func8, Try.ntmps8
    go_wp2_with (first | (go_at_call 10; refine (New_c (m : Int) w HN.out.1 HN.out.2).mono ?_; rintro e w1 ⟨g1, F1, rfl, hD1, hF1, hb1⟩; refine of_halt ?_))
    unfold G.Halt
    have HD1 := Aside0.mk (And.intro hD1 (And.intro hF1 hb1))
    clear hD1 hF1 hb1
    go_wp2_with (first | (go_at_call 22; refine (RNew_ok (m : Int) w1 HN.out.1 HN.out.2).mono ?_; rintro e w2 ⟨g2, F2, rfl, hD2, hF2, hb2⟩; refine of_halt ?_))
    unfold G.Halt
    have HT2 := Aside0.mk (show Two w F1 F2 g1 g2 (new ((m : Int)).toNat) (new ((m : Int)).toNat) w2 from ⟨HD1.out.1.below hb2, hD2, ((Fr.refl w).then_below HD1.out.2.2).then_below hb2, fun k hk => ⟨HD1.out.2.1 k hk, fun h2 => by have := hF2 k h2; have := HD1.out.1.2 k hk; omega⟩, fun k hk => Nat.le_trans HD1.out.2.2.size (hF2 k hk)⟩)
    clear hD2 hF2 hb2
    go_wp2_with (first | (go_at_call 23; refine (HNM.out _).mono ?_; rintro e w3 ⟨rfl, hd3⟩; refine of_halt ?_))
    unfold G.Halt
    have HT3 := Aside0.mk (HT2.out.below hd3.below)
    clear hd3
    by_cases hm : m ≤ 40
    · have f1 : decide (40 < (m : Int)) = false := decide_eq_false (by omega)
      have f2 : (40 < m) = False := eq_false (by omega)
      have HMM := Aside0.mk hm
      clear hm
      go_wp2
      go_loopg [5, 7, 9] 61 (fun kq v5 v7 v9 w' => ∃ (h1 h2 i : Nat), v5 = .pointer (some ⟨h1, 0, none⟩) ∧ v7 = .pointer (some ⟨h2, 0, none⟩) ∧ v9 = .int .i64 (i : Int) ∧ Aside0 (i ≤ 60 ∧ i ≤ l1.length ∧ kq + i = 61) ∧ Aside0 (∃ F1 F2 d, Two w F1 F2 h1 h2 d d w' ∧ Pl d m i))
      case atStart => exact ⟨g1, g2, 0, rfl, rfl, rfl, ⟨by omega⟩, ⟨F1, F2, _, HT3.out, ⟨by simp [new], by simp [new], Nat.le_refl _, Nat.le_refl _⟩⟩⟩
      case round =>
        obtain ⟨h1, h2, i, rfl, rfl, rfl, HI, HD⟩ := hrel
        obtain ⟨G1, G2, d, hT, hPl⟩ := HD.out
        have HT := Aside0.mk hT
        have HPl := Aside0.mk hPl
        have hsm := hPl.small (by have := HMM.out; omega) (by have := HI.out; omega)
        have HSM := Aside0.mk hsm
        clear HD hT hPl hsm
        have hlen1 : l1.length ≤ 9223372036854775807 := Kd.C_max HR1.out
        by_cases hi : i < l1.length ∧ i < 60
        · have e1 : ((i : Int) < (l1.length : Int)) = True := eq_true (by omega)
          have e2 : (i < l1.length) = True := eq_true hi.1
          have e3 : ((i : Int) < 60) = True := eq_true (by omega)
          have e4 : (i < 60) = True := eq_true hi.2
          obtain ⟨x, B, cb, K, ck, hx, hact⟩ := act_at HR1.out i hi.1
          obtain ⟨ad, hA, _⟩ := HR1.out.2.2 (by omega)
          subst hA
          have hao := HP1.out.at (List.mem_of_getElem? hx)
          have HIN := Aside0.mk (show DoIn w wr G1 G2 h1 h2 d x B cb K ck from ⟨HT.out, HSM.out, fun V hV => (hact V hV).bytesC, fun V hV => (hact V hV).keptC, (hact _ HT.out.fr.below).keptLe, hao.1, hao.2.1, hao.2.2⟩)
          have q0 := (hact _ HT.out.fr.below).kind _ rfl
          have q1 := (hact _ HT.out.fr.below).n _ rfl
          have q2 := (hact _ HT.out.fr.below).at_ _ rfl
          have q3 := (hact _ HT.out.fr.below).bytes _ rfl
          have q4 := (hact _ HT.out.fr.below).kept _ rfl
          have w3_ : wrap64 ((i : Int) + 1) = ((i + 1 : Nat) : Int) := by unfold wrap64; omega
          have HX := Aside0.mk (show ∃ j, i + 1 + j = l1.length from ⟨l1.length - (i + 1), by omega⟩)
          have HX6 := Aside0.mk (show ∃ j, i + 1 + j = 60 from ⟨60 - (i + 1), by omega⟩)
          have HP2 := Aside0.mk (HPl.out.step HT.out.d1.ok x hao.2.2)
          clear hact hi hx hao
          go_wp2_with (first | (go_at_call 24; refine (does_c w wr G1 G2 h1 h2 d x B cb K ck HIN.out).mono ?_; rintro e w5 ⟨G3, G4, h3, h4, rfl, hT5⟩; refine of_halt ?_))
          unfold G.Halt
          have HT5 := Aside0.mk hT5
          have hsm5 := HP2.out.small (by have := HMM.out; omega) (by have := HI.out; omega)
          have HS5 := Aside0.mk hsm5
          clear hT5 hsm5 q0 q1 q2 q3 q4
          go_wp2_with (first | (go_at_call 25; refine (Alike_c G3 G4 h3 h4 (doStep d x) w5 HT5.out.d1 HT5.out.d2 HS5.out).mono ?_; rintro e w6 ⟨rfl, hb6⟩; refine of_halt ?_))
          unfold G.Halt
          have HT6 := Aside0.mk (HT5.out.below hb6)
          clear hb6
          go_wp2
          go_roundg (gk - 1)
          case measure => have := HI.out; omega
          case rel => exact ⟨h3, h4, i + 1, by first | rfl | simp, by first | rfl | simp, by first | rw [w3_] | rfl | simp, ⟨by have := HI.out; obtain ⟨j, hj⟩ := HX.out; obtain ⟨j6, hj6⟩ := HX6.out; omega⟩, ⟨G3, G4, _, HT6.out, HP2.out⟩⟩
        · have hx : ((i < l1.length) = False ∧ ((i : Int) < (l1.length : Int)) = False) ∨ ((i < l1.length) = True ∧ ((i : Int) < (l1.length : Int)) = True ∧ (i < 60) = False ∧ ((i : Int) < 60) = False) := by
            by_cases h : i < l1.length
            · exact .inr ⟨eq_true h, eq_true (by omega), eq_false (by omega), eq_false (by omega)⟩
            · exact .inl ⟨eq_false h, eq_false (by omega)⟩
          clear hi
          rcases hx with ⟨e1, e2⟩ | ⟨e1, e2, e3, e4⟩
          all_goals
            go_wp2_with (first | (go_at_call 9; refine (works_c wr).mono ?_; rintro e w5 ⟨rfl, hb5⟩; refine of_halt ?_))
            unfold G.Halt
            have HB5 := Aside0.mk (HT.out.fr.then_below hb5)
            clear hb5
            go_wp2
            go_ret
            exact ⟨rfl, HB5.out.below⟩
    · have f1 : decide (40 < (m : Int)) = true := decide_eq_true (by omega)
      have f2 : (40 < m) = True := eq_true (by omega)
      clear hm
      go_wp2_with (first | (go_at_call 9; refine (works_c w3).mono ?_; rintro e w5 ⟨rfl, hb5⟩; refine of_halt ?_))
      unfold G.Halt
      have HB5 := Aside0.mk (HT3.out.fr.then_below hb5)
      clear hb5
      go_wp2
      go_ret
      exact ⟨rfl, HB5.out.below⟩
  · have hb : a0 < 1 ∨ 4096 < a0 := by omega
    have HB := Aside0.mk hb
    clear hn hb
    go_enter Try.func8, Try.ntmps8
    go_wp2_with (first | (go_at_call 10; refine (New_bad a0 w HB.out).mono ?_; rintro e w1 ⟨rfl, hw1⟩; refine of_halt ?_))
    unfold G.Halt
    obtain rfl := hw1.symm
    go_wp2_with (first | (go_at_call 22; refine (RNew_bad a0 w HB.out).mono ?_; rintro e w2 ⟨rfl, hw2⟩; refine of_halt ?_))
    unfold G.Halt
    obtain rfl := hw2.symm
    go_wp2_with (first | (go_at_call 23; refine (HNM.out _).mono ?_; rintro e w3 ⟨rfl, hd3⟩; refine of_halt ?_))
    unfold G.Halt
    have HD3 := Aside0.mk ((Fr.refl w).then_below hd3.below)
    clear hd3
    go_wp2_with (first | (go_at_call 9; refine (works_c w3).mono ?_; rintro e w5 ⟨rfl, hb5⟩; refine of_halt ?_))
    unfold G.Halt
    have HB5 := Aside0.mk (HD3.out.then_below hb5)
    clear hb5
    go_wp2
    go_ret
    exact ⟨rfl, HB5.out.below⟩
end Go.Proofs.Ytckbdckeijanlaa.X
