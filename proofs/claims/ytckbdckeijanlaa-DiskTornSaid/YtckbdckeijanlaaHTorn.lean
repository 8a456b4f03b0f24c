/- The law DiskTorn, walked by hand. -/
import Derived.Test.YtckbdckeijanlaaHImage
namespace Go.Proofs.Ytckbdckeijanlaa.X
open Go.RowKit Go.Shelf Go.Proofs.YtckbdckeijanlaaW.PrintWords Go.Proofs.YtckbdckeijanlaaW.PrintLast Go.Proofs.YtckbdckeijanlaaW.PrintMore Go.Proofs.Ytckbdckeijanlaa.Dsk Go.Proofs.Ytckbdckeijanlaa.G
set_option linter.unusedVariables false
set_option linter.unusedSimpArgs false
def over (y : Int) (l : List Int) : List Int := l.take (min l.length 64) ++ (fl y).drop (min l.length 64)
theorem over_length (y : Int) (l : List Int) : (over y l).length = 64 := by simp [over, fl]; omega
theorem over_eq (y : Int) (l : List Int) : l.take (min l.length (fl y).length) ++ (fl y).drop (min l.length (fl y).length) = over y l := by rw [fl_length]; rfl
/-- The disk, step by step. -/
def t1 (a : List Int) : Dk := (write (new 3) 1 a).1
theorem t1_eq (a : List Int) (ha : a.length = 64) : write (new 3) 1 a = (⟨[zeros 64, zeros 64, zeros 64], [(1, a)], 1, none⟩, 0) := by
  unfold write
  rw [show isS (new 3) 1 = true from rfl, if_neg (by simp), if_neg (by simp [ha]), show down (new 3) = false from rfl, if_neg (by simp)]
  rfl
theorem t2_eq (a : List Int) : flush ⟨[zeros 64, zeros 64, zeros 64], [(1, a)], 1, none⟩ = (⟨[zeros 64, a, zeros 64], [], 2, none⟩, 0) := rfl
theorem t3_eq (a b : List Int) (hb : b.length = 64) : write ⟨[zeros 64, a, zeros 64], [], 2, none⟩ 1 b = (⟨[zeros 64, a, zeros 64], [(1, b)], 3, none⟩, 0) := by
  unfold write
  rw [show isS ⟨[zeros 64, a, zeros 64], [], 2, none⟩ 1 = true from rfl, if_neg (by simp), if_neg (by simp [hb]), show down ⟨[zeros 64, a, zeros 64], [], 2, none⟩ = false from rfl, if_neg (by simp)]
  rfl
def tc (a b : List Int) (k : Nat) : Dk := ⟨[zeros 64, b.take k ++ a.drop k, zeros 64], [], 0, none⟩
theorem t4_eq (a b : List Int) (k : Int) : crash ⟨[zeros 64, a, zeros 64], [(1, b)], 3, none⟩ [k] = tc a b (clamp k) := rfl
theorem t5_eq (a b : List Int) (k : Nat) : Dsk.read (tc a b k) 1 = (b.take k ++ a.drop k, 0) := rfl
theorem t6_eq (a b : List Int) (k : Nat) : Dsk.read (tc a b k) 2 = (zeros 64, 0) := rfl
theorem tc_small (a b : List Int) (k : Nat) : Small (tc a b k) := ⟨by simp [tc], by simp [tc], by simp [tc], by simp [tc]⟩
set_option maxHeartbeats 16000000 in
set_option maxRecDepth 100000 in
theorem colophonlaw17_DiskTorn.calls (A0 : Option Addr) (c0 : Nat) (l0 : List Int) (A1 : Option Addr) (c1 : Nat) (l1 : List Int) (a2 : Int) (w : World) (hr0 : Kd.C (Kd.int .u8) w A0 l0.length l0) (hc0 : l0.length ≤ c0) (hr1 : Kd.C (Kd.int .u8) w A1 l1.length l1) (hc1 : l1.length ≤ c1) :
    Calls Try.prog 3 #[.slice A0 l0.length c0, .slice A1 l1.length c1, .int .i64 a2] w fun e w' => e = .returned (.bool true) ∧ Below w.heap.size w w' := by
  have HR0 := Aside0.mk hr0
  have HR1 := Aside0.mk hr1
  clear hr0 hr1
  go_enter Try.func3, Try.ntmps3
  go_wp2_with (first | (go_at_call 9; refine (works_c w).mono ?_; rintro e w1 ⟨rfl, hb1⟩; refine of_halt ?_))
  unfold G.Halt
  have hfr := (Fr.refl w).then_below hb1
  have HFR1 := Aside0.mk hfr
  clear hb1 hfr
  go_wp2_with (first | (go_at_call 10; refine (New_c 3 _ (by decide) (by decide)).mono ?_; rintro e w2 ⟨g, F, rfl, hD, hF, hb⟩; refine of_halt ?_))
  unfold G.Halt
  have HFR2 := Aside0.mk (And.intro (HFR1.out.then_below hb) (show ∀ k, F k → w.heap.size ≤ k from fun k hk => Nat.le_trans HFR1.out.size (hF k hk)))
  have HD2 := Aside0.mk hD
  clear hD hF hb
  go_wp2_with (first | (go_at_call 11; refine (filled_c 1 _).mono ?_; rintro e w3 ⟨ga, ca, rfl, hca, hRa, hb⟩; refine of_halt ?_))
  unfold G.Halt
  have HA3 := Aside0.mk (And.intro (Brow.of_R hRa) (Kd.R_base hRa ga rfl))
  have HD3 := Aside0.mk (And.intro (HD2.out.below hb) (HFR2.out.1.then_below hb))
  clear hca hRa
  rw [fl_length]
  go_wp2_with (first | (go_at_call 11; refine (filled_c 2 _).mono ?_; rintro e w4 ⟨gb, cb, rfl, hcb, hRb, hb4⟩; refine of_halt ?_))
  unfold G.Halt
  have hFlt : ∀ k, F k → k < w2.heap.size := HD2.out.2
  have HS := Aside0.mk (show (∀ k, F k → k < w2.heap.size) ∧ w2.heap.size ≤ ga ∧ ga < w3.heap.size ∧ w3.heap.size ≤ gb ∧ w.heap.size ≤ w2.heap.size from ⟨hFlt, HA3.out.2, HA3.out.1.lt, Kd.R_base hRb gb rfl, HFR2.out.1.size⟩)
  have HA4 := Aside0.mk (HA3.out.1.below hb4)
  have HB4 := Aside0.mk (Brow.of_R hRb)
  have HD4 := Aside0.mk (And.intro (HD3.out.1.below hb4) (HD3.out.2.then_below hb4))
  clear hcb hRb hb hb4 hFlt
  rw [fl_length]
  go_wp2_with (first | ((with_reducible refine gate_builtin (b := .copy) (xs := #[.tmp 32, .tmp 33]) rfl ?_); refine of_halt ?_))
  unfold G.Halt
  refine copy_brow rfl (.tmp 32) (.tmp 33) 22 22 rfl Try.underlying22 (by kernel_rfl) ga ca (fl 1) l0 A0 l0.length 64 c0 rfl rfl rfl HA4.out (Kd.C_below HR0.out HD4.out.2.below) ?_
  intro w5 hA5 hk5
  rw [over_eq] at hA5
  have HA5 := Aside0.mk hA5
  have HB5 := Aside0.mk (HB4.out.kp hk5 (by have := HS.out; omega))
  have HD5 := Aside0.mk (And.intro (HD4.out.1.kp hk5 (fun k hk e => by have := HS.out.1 k hk; have := HS.out; omega)) (HD4.out.2.then_kp hk5 (fun k e => by have := HS.out; omega)))
  clear hA5 hk5
  go_wp2_with (first | ((with_reducible refine gate_builtin (b := .copy) (xs := #[.tmp 35, .tmp 36]) rfl ?_); refine of_halt ?_))
  unfold G.Halt
  refine copy_brow rfl (.tmp 35) (.tmp 36) 22 22 rfl Try.underlying22 (by kernel_rfl) gb cb (fl 2) l1 A1 l1.length 64 c1 rfl rfl rfl HB5.out (Kd.C_below HR1.out HD5.out.2.below) ?_
  intro w6 hB6 hk6
  rw [over_eq] at hB6
  have HB6 := Aside0.mk hB6
  have HA6 := Aside0.mk (HA5.out.kp hk6 (by have := HS.out; omega))
  have HD6 := Aside0.mk (And.intro (HD5.out.1.kp hk6 (fun k hk e => by have := HS.out.1 k hk; have := HS.out; omega)) (And.intro (HD5.out.2.then_kp hk6 (fun k e => by have := HS.out; omega)) (HB5.out.lt)))
  have hs56 := hk6.size
  have hgb6 : gb < w6.heap.size := HB6.out.lt
  clear hB6 hk6
  have ha64 := over_length 1 l0
  have hb64 := over_length 2 l1
  obtain ⟨a, ha⟩ : ∃ a, over 1 l0 = a := ⟨_, rfl⟩
  obtain ⟨b, hb⟩ : ∃ b, over 2 l1 = b := ⟨_, rfl⟩
  rw [ha] at HA6 ha64
  rw [hb] at HB6 hb64
  have HL := Aside0.mk (And.intro ha64 hb64)
  have hCa := HA6.out.C
  rw [ha64] at hCa
  go_wp2_with (first | (go_at_call 12; refine (Write_c F g (new 3) 1 _ 64 ca a w6 HD6.out.1 (small_new 3 (by decide)) hCa).mono ?_; rintro e w7 ⟨rfl, F7, hD7, hF7, hk7⟩; refine of_halt ?_))
  unfold G.Halt
  rw [t1_eq a HL.out.1] at hD7
  rw [t1_eq a HL.out.1]
  have HF7 := Aside0.mk (show (∀ k, F7 k → w.heap.size ≤ k ∧ k ≠ ga ∧ k ≠ gb ∧ k < w7.heap.size) from fun k hk => by
    have h1 := hF7 k hk
    have h2 := hD7.2 k hk
    rcases h1 with h1 | h1
    · have := HS.out.1 k h1; have := HFR2.out.2 k h1; have := HS.out; omega
    · have := HS.out; have := HA6.out.lt; omega)
  have hG6 : ∀ k, F k → ¬ (k = ga ∨ k = gb) := fun k hk e => by have := HS.out.1 k hk; have := HS.out; omega
  have HA7 := Aside0.mk (HA6.out.kp hk7 (fun e => hG6 ga e (.inl rfl)))
  have HB7 := Aside0.mk (HB6.out.kp hk7 (fun e => hG6 gb e (.inr rfl)))
  have HD7 := Aside0.mk (And.intro hD7 (HD6.out.2.1.then_kp hk7 HFR2.out.2))
  clear hD7 hF7 hk7 hCa hG6
  go_wp2_with (first | (go_at_call 13; refine (Flush_c F7 g _ w7 HD7.out.1 ⟨by simp, by simp, by simp, by simp⟩).mono ?_; rintro e w8 ⟨rfl, F8, hD8, hF8, hk8⟩; refine of_halt ?_))
  unfold G.Halt
  rw [t2_eq] at hD8
  rw [t2_eq]
  have HF8 := Aside0.mk (show (∀ k, F8 k → w.heap.size ≤ k ∧ k ≠ ga ∧ k ≠ gb ∧ k < w8.heap.size) from fun k hk => by
    have h1 := hF8 k hk
    have h2 := hD8.2 k hk
    rcases h1 with h1 | h1
    · have := HF7.out k h1; omega
    · have := HA7.out.lt; have := HB7.out.lt; have := HD7.out.2.size; omega)
  have HA8 := Aside0.mk (HA7.out.kp hk8 (fun e => (HF7.out ga e).2.1 rfl))
  have HB8 := Aside0.mk (HB7.out.kp hk8 (fun e => (HF7.out gb e).2.2.1 rfl))
  have HD8 := Aside0.mk (And.intro hD8 (HD7.out.2.then_kp hk8 (fun k hk => (HF7.out k hk).1)))
  clear hD8 hF8 hk8
  have hCb := HB8.out.C
  rw [HL.out.2] at hCb
  go_wp2_with (first | (go_at_call 12; refine (Write_c F8 g _ 1 _ 64 cb b w8 HD8.out.1 ⟨by simp, by simp, by simp, by simp⟩ hCb).mono ?_; rintro e w9 ⟨rfl, F9, hD9, hF9, hk9⟩; refine of_halt ?_))
  unfold G.Halt
  rw [t3_eq a b HL.out.2] at hD9
  rw [t3_eq a b HL.out.2]
  have HF9 := Aside0.mk (show (∀ k, F9 k → w.heap.size ≤ k ∧ k ≠ ga ∧ k ≠ gb ∧ k < w9.heap.size) from fun k hk => by
    have h1 := hF9 k hk
    have h2 := hD9.2 k hk
    rcases h1 with h1 | h1
    · have := HF8.out k h1; omega
    · have := HA8.out.lt; have := HB8.out.lt; have := HD8.out.2.size; omega)
  have HA9 := Aside0.mk (HA8.out.kp hk9 (fun e => (HF8.out ga e).2.1 rfl))
  have HB9 := Aside0.mk (HB8.out.kp hk9 (fun e => (HF8.out gb e).2.2.1 rfl))
  have HD9 := Aside0.mk (And.intro hD9 (HD8.out.2.then_kp hk9 (fun k hk => (HF8.out k hk).1)))
  clear hD9 hF9 hk9 hCb
  have hbl := below_alloc (Below.refl w9.heap.size w9) (.cells #[.int .i64 a2] 3)
  go_wp2_with (first | (go_at_call 14; refine (Crash_c F9 g _ [a2] _ 1 _ (HD9.out.1.below hbl) ⟨by simp, by simp, by simp, by simp⟩ (lit_C w9 .i64 3 a2) (by simp)).mono ?_; rintro e w10 ⟨g2, F10, rfl, hD10, hF10, hb10⟩; refine of_halt ?_))
  unfold G.Halt
  rw [t4_eq] at hD10
  obtain ⟨kN, hkN⟩ : ∃ kN, clamp a2 = kN := ⟨_, rfl⟩
  have hmx2 : mx 0 (mn a2 64) = (kN : Int) := by rw [← hkN]; exact mx_clamp a2
  have hk64 : kN ≤ 64 := by rw [← hkN]; exact clamp_le a2
  rw [hkN] at hD10
  have HA10 := Aside0.mk ((HA9.out.below hbl).below hb10)
  have HB10 := Aside0.mk ((HB9.out.below hbl).below hb10)
  have HD10 := Aside0.mk (And.intro hD10 ((HD9.out.2.then_below hbl).then_below hb10))
  have HKN := Aside0.mk (And.intro hk64 hkN)
  clear hD10 hF10 hb10 hbl hkN
  go_wp2_with (first
    | ((with_reducible refine gate_builtin (b := .min) (xs := #[.tmp 66, .const (.int .i64 64)]) rfl ?_); refine wpList_exec rfl (exec_min2 _ _ _ a2 64 rfl rfl rfl) ?_)
    | ((with_reducible refine gate_builtin (b := .max) (xs := #[.const (.int .i64 0), .tmp 67]) rfl ?_); refine wpList_exec rfl (v := .int .i64 (kN : Int)) (W1 := w10) ((exec_max2 _ _ _ 0 (mn a2 64) rfl rfl rfl).trans (by rw [hmx2])) ?_)
    | (go_at_call 15; refine (Read_c F10 g2 _ 1 w10 HD10.out.1 (tc_small _ _ _)).mono ?_; rintro e w11 ⟨v11, rfl, hR11, hb11⟩; refine of_halt ?_))
  unfold G.Halt
  rw [t5_eq] at hR11
  rw [t5_eq]
  have hlc : (b.take kN ++ a.drop kN).length = 64 := by have := HL.out; rw [List.length_append, List.length_take, List.length_drop]; omega
  obtain ⟨gc, cc, rfl, _⟩ := Kd.R_form hR11 (by show 0 < (b.take kN ++ a.drop kN).length; omega)
  rw [hlc] at hR11
  rw [hlc]
  have HC11 := Aside0.mk (And.intro (Kd.R_reads' hR11).2.2 hlc)
  have HA11 := Aside0.mk (HA10.out.below hb11)
  have HB11 := Aside0.mk (HB10.out.below hb11)
  have HD11 := Aside0.mk (And.intro (HD10.out.1.below hb11) (HD10.out.2.then_below hb11))
  clear hR11 hb11 hlc
  go_wp2_with (first | (go_at_call 15; refine (Read_c F10 g2 _ 2 w11 HD11.out.1 (tc_small _ _ _)).mono ?_; rintro e w12 ⟨v12, rfl, hR12, hb12⟩; refine of_halt ?_))
  unfold G.Halt
  rw [t6_eq] at hR12
  rw [t6_eq]
  obtain ⟨gd, cd, rfl, _⟩ := Kd.R_form hR12 (by simp [zeros])
  have hlz : (zeros 64).length = 64 := by simp [zeros]
  rw [hlz] at hR12
  rw [hlz]
  have HC12 := Aside0.mk (Kd.R_reads' hR12).2.2
  have HC11b := Aside0.mk (Kd.C_below HC11.out.1 hb12)
  have HA12 := Aside0.mk (HA11.out.below hb12)
  have HB12 := Aside0.mk (HB11.out.below hb12)
  have HD12 := Aside0.mk (HD11.out.2.then_below hb12)
  clear hR12 hb12
  go_upto_region 17 with (fail)
  have info5 : (Try.prog.info? 5).map (fun i => (i.zero, i.size, i.bytes)) = some (some (.int .u8 0), 1, 1) := by kernel_rfl
  obtain ⟨i5, hi5, hi5z, hi5s, hi5b⟩ := info_parts info5
  have hk64 := HKN.out.1
  obtain ⟨A3, hcut, hA3⟩ := print_cut (P := Try.prog) 22 5 .i64 Try.underlying22 hi5 hi5s (some ⟨ga, 0, none⟩) 64 ca kN hk64
  have hca64 : 64 ≤ ca := by have := HA12.out.cap; have := HL.out.1; omega
  have hcb64 : 64 ≤ cb := by have := HB12.out.cap; have := HL.out.2; omega
  have hstr : ∀ {A : Option Addr} {n c : Nat} {xs : List Int} {V : World}, Kd.C (Kd.int .u8) V A n xs → (convert 22 9 (.slice A n c)).run Try.prog V = .ok (.string (strOfNums xs)) V := fun h => Kd.C_string Try.underlying22 Try.underlying5 Try.underlying9 h
  have hC : ∀ V, Below w12.heap.size w12 V → (convert 22 9 (.slice (some ⟨gc, 0, none⟩) 64 cc)).run Try.prog V = .ok (.string (strOfNums (b.take kN ++ a.drop kN))) V ∧ (convert 22 9 (.slice (some ⟨gb, 0, none⟩) kN cb)).run Try.prog V = .ok (.string (strOfNums (b.take kN))) V ∧ (convert 22 9 (.slice A3 (64 - kN) (ca - kN))).run Try.prog V = .ok (.string (strOfNums (a.drop kN))) V ∧ (convert 22 9 (.slice (some ⟨gd, 0, none⟩) 64 cd)).run Try.prog V = .ok (.string (strOfNums (zeros 64))) V := fun V hV => by
    refine ⟨hstr ?_, hstr ?_, ?_, hstr ?_⟩
    · have := Kd.C_below HC11b.out hV
      rwa [HC11.out.2] at this
    · have := Kd.C_take (HB12.out.below hV).C (m := kN) (by have := HL.out.2; omega)
      rwa [show (b.take kN).length = kN by rw [List.length_take]; have := HL.out.2; omega] at this
    · have h1 : ReadsInt V .u8 (some ⟨ga, 0, none⟩) 64 a := by
        have := (HA12.out.below hV).C
        rw [HL.out.1] at this
        exact Kd.reads_of_C (enc := Value.int .u8) (d := (0 : Int)) (h1 := fun _ => rfl) this
      exact string_of_reads Try.underlying22 Try.underlying5 Try.underlying9 (hA3 V .u8 a hca64 h1)
    · have := Kd.C_below HC12.out hV
      rwa [show (zeros 64).length = 64 from hlz] at this
  have hmk := print_make (P := Try.prog) 22 5 .u8 1 Try.underlying22 info5 (by decide) 64 (by decide)
  have hzs : ∀ V : World, (convert 22 9 (.slice (some ⟨V.heap.size, 0, none⟩) 64 64)).run Try.prog (V.alloc (.cells (madeCells #[.int .u8 0] 64) 5)) = .ok (.string (strOfNums (zeros 64))) (V.alloc (.cells (madeCells #[.int .u8 0] 64) 5)) := fun V =>
    own_string Try.underlying22 Try.underlying5 Try.underlying9 (own_made V 0 5 .u8 64 (Nat.zero_le _) (by decide))
  have hsz : (9223372036854775807 < (strOfNums (b.take kN)).size + (strOfNums (a.drop kN)).size) = False := eq_false (by
    rw [str_size, str_size, List.length_take, List.length_drop]; have := HL.out; omega)
  have hst := str_append (b.take kN) (a.drop kN)
  have g1 : (0 : Int) ≤ (kN : Int) := by omega
  have g2' : (kN : Int) ≤ (cb : Int) := by omega
  have HC := Aside0.mk hC
  have HMK := Aside0.mk (And.intro hmk hzs)
  clear hC hmk hzs hA3 hstr hi5 hi5z hi5s hi5b
  refine start_ (n := 28) (S := fun w' => (convert 22 9 (.slice (some ⟨gc, 0, none⟩) 64 cc)).run Try.prog w' = .ok (.string (strOfNums (b.take kN ++ a.drop kN))) w' ∧ (convert 22 9 (.slice (some ⟨gb, 0, none⟩) kN cb)).run Try.prog w' = .ok (.string (strOfNums (b.take kN))) w' ∧ (convert 22 9 (.slice A3 (64 - kN) (ca - kN))).run Try.prog w' = .ok (.string (strOfNums (a.drop kN))) w' ∧ (convert 22 9 (.slice (some ⟨gd, 0, none⟩) 64 cd)).run Try.prog w' = .ok (.string (strOfNums (zeros 64))) w') (ds := []) #[false, false, false, false, false, false, false, false, false, false, false, false, false, false, false, false, false, false, false, false, false, false, false, false, false, false, false, false] (by kernel_rfl) rfl rfl ⟨(HC.out _ (below_drew (Below.refl _ _))).1, (HC.out _ (below_drew (Below.refl _ _))).2.1, (HC.out _ (below_drew (Below.refl _ _))).2.2.1, (HC.out _ (below_drew (Below.refl _ _))).2.2.2⟩ (fun hHeld => ?_)
  refine pure_ (i := 0) (N := some 79) (v := ?_) (a' := ?_) #[true, false, false, false, false, false, false, false, false, false, false, false, false, false, false, false, false, false, false, false, false, false, false, false, false, false, false, false] rfl rfl (by kernel_rfl) (fun _ _ _ h => h) (Or.inl ⟨by rfl, ?_⟩) ?_ ?_
  rotate_left
  · intro w'
    go_simp
    with_reducible rfl
  rotate_left
  · simp only [Act.put, List.setIfInBounds_toArray, List.set_cons_zero, List.set_cons_succ, i64_w, i32_w]
    rfl
  refine pure_ (i := 1) (N := some 80) (v := ?_) (a' := ?_) #[true, true, false, false, false, false, false, false, false, false, false, false, false, false, false, false, false, false, false, false, false, false, false, false, false, false, false, false] rfl rfl (by kernel_rfl) (fun _ _ _ h => h) (Or.inl ⟨by rfl, ?_⟩) ?_ ?_
  rotate_left
  · intro w'
    go_simp
    with_reducible rfl
  rotate_left
  · simp only [Act.put, List.setIfInBounds_toArray, List.set_cons_zero, List.set_cons_succ, i64_w, i32_w]
    rfl
  refine pure_ (i := 2) (N := some 81) (v := ?_) (a' := ?_) #[true, true, true, false, false, false, false, false, false, false, false, false, false, false, false, false, false, false, false, false, false, false, false, false, false, false, false, false] rfl rfl (by kernel_rfl) (fun _ _ _ h => h) (Or.inl ⟨by rfl, ?_⟩) ?_ ?_
  rotate_left
  · intro w'
    go_simp
    with_reducible rfl
  rotate_left
  · simp only [Act.put, List.setIfInBounds_toArray, List.set_cons_zero, List.set_cons_succ, i64_w, i32_w]
    rfl
  refine pure_ (i := 3) (N := some 82) (v := ?_) (a' := ?_) #[true, true, true, true, false, false, false, false, false, false, false, false, false, false, false, false, false, false, false, false, false, false, false, false, false, false, false, false] rfl rfl (by kernel_rfl) (fun _ _ _ h => h) (Or.inl ⟨by rfl, ?_⟩) ?_ ?_
  rotate_left
  · intro w'
    go_simp
    with_reducible rfl
  rotate_left
  · simp only [Act.put, List.setIfInBounds_toArray, List.set_cons_zero, List.set_cons_succ, i64_w, i32_w]
    rfl
  refine pure_ (i := 4) (N := some 83) (v := ?_) (a' := ?_) #[true, true, true, true, true, false, false, false, false, false, false, false, false, false, false, false, false, false, false, false, false, false, false, false, false, false, false, false] rfl rfl (by kernel_rfl) (fun _ _ _ h => h) (Or.inl ⟨by rfl, ?_⟩) ?_ ?_
  rotate_left
  · intro w'
    go_simp
    with_reducible rfl
  rotate_left
  · simp only [Act.put, List.setIfInBounds_toArray, List.set_cons_zero, List.set_cons_succ, i64_w, i32_w]
    rfl
  refine pure_ (i := 5) (N := some 84) (v := ?_) (a' := ?_) #[true, true, true, true, true, true, false, false, false, false, false, false, false, false, false, false, false, false, false, false, false, false, false, false, false, false, false, false] rfl rfl (by kernel_rfl) (fun _ _ _ h => h) (Or.inl ⟨by rfl, ?_⟩) ?_ ?_
  rotate_left
  · intro w'
    go_simp
    with_reducible rfl
  rotate_left
  · simp only [Act.put, List.setIfInBounds_toArray, List.set_cons_zero, List.set_cons_succ, i64_w, i32_w]
    rfl
  refine pure_ (i := 6) (N := some 85) (v := ?_) (a' := ?_) #[true, true, true, true, true, true, true, false, false, false, false, false, false, false, false, false, false, false, false, false, false, false, false, false, false, false, false, false] rfl rfl (by kernel_rfl) (fun _ _ _ h => h) (Or.inl ⟨by rfl, ?_⟩) ?_ ?_
  rotate_left
  · intro w'
    go_simp
    with_reducible rfl
  rotate_left
  · simp only [Act.put, List.setIfInBounds_toArray, List.set_cons_zero, List.set_cons_succ, i64_w, i32_w]
    rfl
  refine pure_ (i := 7) (N := some 86) (v := ?_) (a' := ?_) #[true, true, true, true, true, true, true, true, false, false, false, false, false, false, false, false, false, false, false, false, false, false, false, false, false, false, false, false] rfl rfl (by kernel_rfl) (fun _ _ _ h => h) (Or.inl ⟨by rfl, ?_⟩) ?_ ?_
  rotate_left
  · intro w'
    go_simp
    with_reducible rfl
  rotate_left
  · simp only [Act.put, List.setIfInBounds_toArray, List.set_cons_zero, List.set_cons_succ, i64_w, i32_w]
    rfl
  refine pure_ (i := 9) (N := some 88) (v := ?_) (a' := ?_) #[true, true, true, true, true, true, true, true, false, true, false, false, false, false, false, false, false, false, false, false, false, false, false, false, false, false, false, false] rfl rfl (by kernel_rfl) (fun _ _ _ h => h) (Or.inl ⟨by rfl, ?_⟩) ?_ ?_
  rotate_left
  · intro w'
    go_simp
    with_reducible rfl
  rotate_left
  · simp only [Act.put, List.setIfInBounds_toArray, List.set_cons_zero, List.set_cons_succ, i64_w, i32_w]
    rfl
  refine pure_ (i := 10) (N := some 89) (v := ?_) (a' := ?_) #[true, true, true, true, true, true, true, true, false, true, true, false, false, false, false, false, false, false, false, false, false, false, false, false, false, false, false, false] rfl rfl (by kernel_rfl) (fun _ _ _ h => h) (Or.inl ⟨by rfl, ?_⟩) ?_ ?_
  rotate_left
  · intro w'
    go_simp
    with_reducible rfl
  rotate_left
  · simp only [Act.put, List.setIfInBounds_toArray, List.set_cons_zero, List.set_cons_succ, i64_w, i32_w]
    rfl
  refine pure_ (i := 11) (N := some 90) (v := ?_) (a' := ?_) #[true, true, true, true, true, true, true, true, false, true, true, true, false, false, false, false, false, false, false, false, false, false, false, false, false, false, false, false] rfl rfl (by kernel_rfl) (fun _ _ _ h => h) (Or.inl ⟨by rfl, ?_⟩) ?_ ?_
  rotate_left
  · intro w'
    go_simp
    with_reducible rfl
  rotate_left
  · simp only [Act.put, List.setIfInBounds_toArray, List.set_cons_zero, List.set_cons_succ, i64_w, i32_w]
    rfl
  refine pure_ (i := 13) (N := some 92) (v := ?_) (a' := ?_) #[true, true, true, true, true, true, true, true, false, true, true, true, false, true, false, false, false, false, false, false, false, false, false, false, false, false, false, false] rfl rfl (by kernel_rfl) (fun _ _ _ h => h) (Or.inl ⟨by rfl, ?_⟩) ?_ ?_
  rotate_left
  · intro w'
    go_simp
    with_reducible rfl
  rotate_left
  · simp only [Act.put, List.setIfInBounds_toArray, List.set_cons_zero, List.set_cons_succ, i64_w, i32_w]
    rfl
  refine pure_ (i := 14) (N := some 93) (v := ?_) (a' := ?_) #[true, true, true, true, true, true, true, true, false, true, true, true, false, true, true, false, false, false, false, false, false, false, false, false, false, false, false, false] rfl rfl (by kernel_rfl) (fun _ _ _ h => h) (Or.inl ⟨by rfl, ?_⟩) ?_ ?_
  rotate_left
  · intro w'
    go_simp
    with_reducible rfl
  rotate_left
  · simp only [Act.put, List.setIfInBounds_toArray, List.set_cons_zero, List.set_cons_succ, i64_w, i32_w]
    rfl
  refine pure_ (i := 15) (N := some 94) (v := ?_) (a' := ?_) #[true, true, true, true, true, true, true, true, false, true, true, true, false, true, true, true, false, false, false, false, false, false, false, false, false, false, false, false] rfl rfl (by kernel_rfl) (fun _ _ _ h => h) (Or.inl ⟨by rfl, ?_⟩) ?_ ?_
  rotate_left
  · intro w'
    go_simp
    with_reducible rfl
  rotate_left
  · simp only [Act.put, List.setIfInBounds_toArray, List.set_cons_zero, List.set_cons_succ, i64_w, i32_w]
    rfl
  refine take_ (i := 8) (N := some 87) (v := ?_) (a' := ?_) #[true, true, true, true, true, true, true, true, true, true, true, true, false, true, true, true, false, false, false, false, false, false, false, false, false, false, false, false] rfl rfl (by kernel_rfl) (fun _ _ _ h => h) (Or.inl ⟨by rfl, ?_⟩) hHeld ?_ ?_
  rotate_left
  · rintro w' ⟨s0, s1, s2, s3⟩
    go_simp
    with_reducible rfl
  rotate_left
  · simp only [Act.put, List.setIfInBounds_toArray, List.set_cons_zero, List.set_cons_succ, i64_w, i32_w]
    rfl
  refine take_ (i := 12) (N := some 91) (v := ?_) (a' := ?_) #[true, true, true, true, true, true, true, true, true, true, true, true, true, true, true, true, false, false, false, false, false, false, false, false, false, false, false, false] rfl rfl (by kernel_rfl) (fun _ _ _ h => h) (Or.inl ⟨by rfl, ?_⟩) hHeld ?_ ?_
  rotate_left
  · rintro w' ⟨s0, s1, s2, s3⟩
    go_simp
    with_reducible rfl
  rotate_left
  · simp only [Act.put, List.setIfInBounds_toArray, List.set_cons_zero, List.set_cons_succ, i64_w, i32_w]
    rfl
  refine take_ (i := 16) (N := some 95) (v := ?_) (a' := ?_) #[true, true, true, true, true, true, true, true, true, true, true, true, true, true, true, true, true, false, false, false, false, false, false, false, false, false, false, false] rfl rfl (by kernel_rfl) (fun _ _ _ h => h) (Or.inl ⟨by rfl, ?_⟩) hHeld ?_ ?_
  rotate_left
  · rintro w' ⟨s0, s1, s2, s3⟩
    go_simp
    with_reducible rfl
  rotate_left
  · simp only [Act.put, List.setIfInBounds_toArray, List.set_cons_zero, List.set_cons_succ, i64_w, i32_w]
    rfl
  refine pure_ (i := 17) (N := some 96) (v := ?_) (a' := ?_) #[true, true, true, true, true, true, true, true, true, true, true, true, true, true, true, true, true, true, false, false, false, false, false, false, false, false, false, false] rfl rfl (by kernel_rfl) (fun _ _ _ h => h) (Or.inl ⟨by rfl, ?_⟩) ?_ ?_
  rotate_left
  · intro w'
    go_simp
    with_reducible rfl
  rotate_left
  · simp only [Act.put, List.setIfInBounds_toArray, List.set_cons_zero, List.set_cons_succ, i64_w, i32_w]
    rfl
  refine pure_ (i := 18) (N := some 97) (v := ?_) (a' := ?_) #[true, true, true, true, true, true, true, true, true, true, true, true, true, true, true, true, true, true, true, false, false, false, false, false, false, false, false, false] rfl rfl (by kernel_rfl) (fun _ _ _ h => h) (Or.inl ⟨by rfl, ?_⟩) ?_ ?_
  rotate_left
  · intro w'
    go_simp
    with_reducible rfl
  rotate_left
  · simp only [Act.put, List.setIfInBounds_toArray, List.set_cons_zero, List.set_cons_succ, i64_w, i32_w]
    rfl
  refine pure_ (i := 19) (N := some 98) (v := ?_) (a' := ?_) #[true, true, true, true, true, true, true, true, true, true, true, true, true, true, true, true, true, true, true, true, false, false, false, false, false, false, false, false] rfl rfl (by kernel_rfl) (fun _ _ _ h => h) (Or.inl ⟨by rfl, ?_⟩) ?_ ?_
  rotate_left
  · intro w'
    go_simp
    with_reducible rfl
  rotate_left
  · simp only [Act.put, List.setIfInBounds_toArray, List.set_cons_zero, List.set_cons_succ, i64_w, i32_w]
    rfl
  refine pure_ (i := 20) (N := some 99) (v := ?_) (a' := ?_) #[true, true, true, true, true, true, true, true, true, true, true, true, true, true, true, true, true, true, true, true, true, false, false, false, false, false, false, false] rfl rfl (by kernel_rfl) (fun _ _ _ h => h) (Or.inl ⟨by rfl, ?_⟩) ?_ ?_
  rotate_left
  · intro w'
    go_simp
    with_reducible rfl
  rotate_left
  · simp only [Act.put, List.setIfInBounds_toArray, List.set_cons_zero, List.set_cons_succ, i64_w, i32_w]
    rfl
  refine pure_ (i := 21) (N := some 100) (v := ?_) (a' := ?_) #[true, true, true, true, true, true, true, true, true, true, true, true, true, true, true, true, true, true, true, true, true, true, false, false, false, false, false, false] rfl rfl (by kernel_rfl) (fun _ _ _ h => h) (Or.inl ⟨by rfl, ?_⟩) ?_ ?_
  rotate_left
  · intro w'
    go_simp
    with_reducible rfl
  rotate_left
  · simp only [Act.put, List.setIfInBounds_toArray, List.set_cons_zero, List.set_cons_succ, i64_w, i32_w]
    rfl
  refine take_ (i := 22) (N := some 101) (v := ?_) (a' := ?_) #[true, true, true, true, true, true, true, true, true, true, true, true, true, true, true, true, true, true, true, true, true, true, true, false, false, false, false, false] rfl rfl (by kernel_rfl) (fun _ _ _ h => h) (Or.inl ⟨by rfl, ?_⟩) hHeld ?_ ?_
  rotate_left
  · rintro w' ⟨s0, s1, s2, s3⟩
    go_simp
    with_reducible rfl
  rotate_left
  · simp only [Act.put, List.setIfInBounds_toArray, List.set_cons_zero, List.set_cons_succ, i64_w, i32_w]
    rfl
  refine one_ (i := 23) (N := some 102) #[true, true, true, true, true, true, true, true, true, true, true, true, true, true, true, true, true, true, true, true, true, true, true, true, false, false, false, false] rfl rfl (by kernel_rfl) (by decide) (fun K hK => ?_)
  refine value_ (by rfl) rfl (exec_makeSlice 22 _ _ (.int .i64 ((64 : Nat) : Int)) (.int .i64 ((64 : Nat) : Int)) _ rfl (by rfl) (by rfl) (HMK.out.1 _)) ?_
  refine hK.out _ _ ⟨(HC.out _ (below_alloc (below_drew (Below.refl _ _)) _)).1, (HC.out _ (below_alloc (below_drew (Below.refl _ _)) _)).2.1, (HC.out _ (below_alloc (below_drew (Below.refl _ _)) _)).2.2.1, (HC.out _ (below_alloc (below_drew (Below.refl _ _)) _)).2.2.2⟩ (fun hHeld => ?_)
  clear hK K
  refine norm_ (a' := ?_) ?_ ?_
  rotate_left
  · show Act.put _ (some 102) _ = _
    simp only [Act.put, List.setIfInBounds_toArray, List.set_cons_zero, List.set_cons_succ, i64_w, i32_w]
    rfl
  refine one_ (i := 24) (N := some 103) #[true, true, true, true, true, true, true, true, true, true, true, true, true, true, true, true, true, true, true, true, true, true, true, true, true, false, false, false] rfl rfl (by kernel_rfl) (by decide) (fun K hK => ?_)
  refine value_ (by rfl) rfl (exec_convert 22 9 _ (.slice (some ⟨w12.heap.size, 0, none⟩) 64 64) _ rfl (by rfl) (HMK.out.2 w12.drew)) ?_
  refine hK.out _ _ ⟨hHeld.1, hHeld.2.1, hHeld.2.2.1, hHeld.2.2.2⟩ (fun hHeld => ?_)
  clear hK K
  refine norm_ (a' := ?_) ?_ ?_
  rotate_left
  · show Act.put _ (some 103) _ = _
    simp only [Act.put, List.setIfInBounds_toArray, List.set_cons_zero, List.set_cons_succ, i64_w, i32_w]
    rfl
  refine pure_ (i := 25) (N := some 104) (v := ?_) (a' := ?_) #[true, true, true, true, true, true, true, true, true, true, true, true, true, true, true, true, true, true, true, true, true, true, true, true, true, true, false, false] rfl rfl (by kernel_rfl) (fun _ _ _ h => h) (Or.inl ⟨by rfl, ?_⟩) ?_ ?_
  rotate_left
  · intro w'
    go_simp
    with_reducible rfl
  rotate_left
  · simp only [Act.put, List.setIfInBounds_toArray, List.set_cons_zero, List.set_cons_succ, i64_w, i32_w]
    rfl
  refine pure_ (i := 26) (N := some 105) (v := ?_) (a' := ?_) #[true, true, true, true, true, true, true, true, true, true, true, true, true, true, true, true, true, true, true, true, true, true, true, true, true, true, true, false] rfl rfl (by kernel_rfl) (fun _ _ _ h => h) (Or.inl ⟨by rfl, ?_⟩) ?_ ?_
  rotate_left
  · intro w'
    go_simp
    with_reducible rfl
  rotate_left
  · simp only [Act.put, List.setIfInBounds_toArray, List.set_cons_zero, List.set_cons_succ, i64_w, i32_w]
    rfl
  refine pure_ (i := 27) (N := some 6) (v := ?_) (a' := ?_) #[true, true, true, true, true, true, true, true, true, true, true, true, true, true, true, true, true, true, true, true, true, true, true, true, true, true, true, true] rfl rfl (by kernel_rfl) (fun _ _ _ h => h) (Or.inl ⟨by rfl, ?_⟩) ?_ ?_
  rotate_left
  · intro w'
    go_simp
    with_reducible rfl
  rotate_left
  · simp only [Act.put, List.setIfInBounds_toArray, List.set_cons_zero, List.set_cons_succ, i64_w, i32_w]
    rfl
  refine done_ (by kernel_rfl) ?_
  go_wp2
  go_ret
  exact ⟨by first | rfl | simp, (HD12.out.then_below (below_alloc (below_drew (Below.refl _ _)) _)).below⟩
end Go.Proofs.Ytckbdckeijanlaa.X
