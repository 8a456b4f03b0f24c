/- The document's Join, by hand. -/
import Derived.Test.YtkocgfcoebodkaaDoorJoinsT
namespace Go.Proofs.YtkocgfcoebodkaaDoor.X
open Go.RowKit Go.Proofs.YtkocgfcoebodkaaDoorW.PrintWords Go.Proofs.YtkocgfcoebodkaaDoorW.PrintLast Go.Proofs.YtkocgfcoebodkaaDoorW.PrintMore Go.Proofs.YtkocgfcoebodkaaDoor.G Go.Proofs.YtkocgfcoebodkaaDoor.T Go.Proofs.YtkocgfcoebodkaaDoor.C Go.Proofs.YtkocgfcoebodkaaDoor.E
set_option linter.unusedVariables false
set_option linter.unusedSimpArgs false

def JPost (w : World) (X : List Int) (r : Int) (e : Ending) (w' : World) : Prop := ∃ A c, e = .returned (.tuple #[.slice A X.length c, .int .i64 r]) ∧ Kd.C (Kd.int .u8) w' A X.length X ∧ Below w.heap.size w w'
theorem jpost_nil {w w' : World} {r : Int} (hb : Below w.heap.size w w') : JPost w [] r (.returned (.tuple #[.slice none 0 0, .int .i64 r])) w' := ⟨none, 0, rfl, Kd.C_nil _ _, hb⟩
theorem drawn0_below {w w' w0 : World} (h : Below w0.heap.size w0 w) (hd : Drawn0 w w') : Below w0.heap.size w0 w' := by
  obtain ⟨n, rfl⟩ := hd
  exact pw_below_drewN h n
theorem zeros_from (y : List Int) (N j : Nat) (hN : N ≤ j) (h : ∀ i, N ≤ i → i < j → rd y (i : Int) = 0) (hj : y.length ≤ j) : ∀ c ∈ y.drop N, c = 0 := by
  intro c hc
  obtain ⟨i, hi⟩ := List.mem_iff_getElem?.1 hc
  rw [List.getElem?_drop] at hi
  have hlt := (List.getElem?_eq_some_iff.1 hi).1
  have := h (N + i) (by omega) (by omega)
  rw [rd_nat, List.getD_eq_getElem?_getD, hi] at this
  exact this
theorem not_zeros (y : List Int) (N j : Nat) (hN : N ≤ j) (hj : j < y.length) (h : ¬ rd y (j : Int) = 0) : ¬ ∀ c ∈ y.drop N, c = 0 := by
  intro hc
  refine h (hc _ ?_)
  rw [rd_nat, List.getD_eq_getElem?_getD, List.getElem?_eq_getElem hj, Option.getD_some]
  refine List.mem_iff_getElem?.2 ⟨j - N, ?_⟩
  rw [List.getElem?_drop, show N + (j - N) = j by omega, List.getElem?_eq_getElem hj]
set_option maxHeartbeats 16000000 in
set_option maxRecDepth 100000 in
theorem refJoin_bad (A0 : Option Addr) (c0 : Nat) (l : List (List Int)) (t size : Int) (w : World) (h : ¬ (1 ≤ t ∧ t ≤ 2147483647 ∧ 0 ≤ size ∧ size ≤ 221184 ∧ (l.length : Int) = cnt size)) :
    Calls Tryd.prog 15 #[.slice A0 l.length c0, .int .i64 t, .int .i64 size] w (JPost w [] 2) := by
  have HTg := Aside0.mk (fun W => tagged_calls t W)
  by_cases c1 : 1 ≤ t ∧ t ≤ 2147483647
  rotate_left
  · have hd1 : decide (1 ≤ t ∧ t ≤ 2147483647) = false := decide_eq_false c1
    simp only [hd1] at HTg
    clear h c1 hd1
    go_enter Tryd.func15, Tryd.ntmps15
    go_wp2_with (first | (go_at_call 18; refine (HTg.out _).mono ?_; rintro e W1 ⟨rfl, ⟨nd, rfl⟩⟩))
    go_ret2
    exact jpost_nil (pw_below_drewN (Below.refl _ _) _)
  have hd1 : decide (1 ≤ t ∧ t ≤ 2147483647) = true := decide_eq_true c1
  simp only [hd1] at HTg
  by_cases c2 : size < 0
  · have c2b : decide (size < 0) = true := decide_eq_true c2
    clear h c1 hd1 c2
    go_enter Tryd.func15, Tryd.ntmps15
    go_wp2_with (first | (go_at_call 18; refine (HTg.out _).mono ?_; rintro e W1 ⟨rfl, ⟨nd, rfl⟩⟩))
    go_ret2
    exact jpost_nil (pw_below_drewN (Below.refl _ _) _)
  have c2b : decide (size < 0) = false := decide_eq_false c2
  by_cases c3 : 221184 < size
  · have c3b : decide (221184 < size) = true := decide_eq_true c3
    clear h c1 hd1 c2 c3
    go_enter Tryd.func15, Tryd.ntmps15
    go_wp2_with (first | (go_at_call 18; refine (HTg.out _).mono ?_; rintro e W1 ⟨rfl, ⟨nd, rfl⟩⟩))
    go_ret2
    exact jpost_nil (pw_below_drewN (Below.refl _ _) _)
  have c3b : decide (221184 < size) = false := decide_eq_false c3
  have c4 : ¬ (l.length : Int) = cnt size := fun hc => h ⟨c1.1, c1.2, by omega, by omega, hc⟩
  have c4b : ((l.length : Int) != cnt size) = true := bne_iff_ne.2 c4
  have c4c : ((l.length : Int) == cnt size) = false := beq_eq_false_iff_ne.2 c4
  obtain ⟨kc, hkc⟩ := Ev.rounds (refCount size (by omega))
  have HCt := Aside0.mk (fun W => colophonref20_Count.calls kc size (cnt size) W hkc)
  generalize cnt size = cn at *
  clear h c1 hd1 c2 c3 c4 hkc
  go_enter Tryd.func15, Tryd.ntmps15
  go_wp2_with (first | (go_at_call 18; refine (HTg.out _).mono ?_; rintro e W1 ⟨rfl, ⟨nd, rfl⟩⟩) | (go_at_call 13; refine (HCt.out _).mono ?_; rintro e W2 ⟨rfl, ⟨nd2, rfl⟩⟩))
  go_ret2
  exact jpost_nil (pw_below_drewN (Below.refl _ _) _)
set_option maxHeartbeats 16000000 in
set_option maxRecDepth 100000 in
theorem refJoin_good (A0 : Option Addr) (c0 : Nat) (l : List (List Int)) (t : Int) (N : Nat) (w : World) (hr0 : Kd.C (Kd.slice 5 (Kd.int .u8)) w A0 l.length l) (hby : ∀ b ∈ l, Bytes b) (ht : 1 ≤ t ∧ t ≤ 2147483647) (hn : N ≤ 221184) (hc : (l.length : Int) = cnt N) (X : List Int) (r : Int) (hX : jn t N 0 l [] = (X, r)) :
    Calls Tryd.prog 15 #[.slice A0 l.length c0, .int .i64 t, .int .i64 (N : Int)] w (JPost w X r) := by
  have HTg := Aside0.mk (fun W => tagged_calls t W)
  have hd1 : decide (1 ≤ t ∧ t ≤ 2147483647) = true := decide_eq_true ht
  simp only [hd1] at HTg
  obtain ⟨kc, hkc⟩ := Ev.rounds (refCount (N : Int) (by omega))
  have HCt := Aside0.mk (fun W => colophonref20_Count.calls kc (N : Int) (cnt N) W hkc)
  rw [← hc] at HCt
  have HR := Aside0.mk hr0
  have HBY := Aside0.mk hby
  have HTT := Aside0.mk ht
  have HNN := Aside0.mk hn
  have HC := Aside0.mk hc
  have hll : l.length ≤ 4096 := by unfold cnt at hc; split at hc <;> omega
  have HLL := Aside0.mk hll
  have c2b : decide ((N : Int) < 0) = false := decide_eq_false (by omega)
  have c3b : decide (221184 < (N : Int)) = false := decide_eq_false (by omega)
  have c3c : decide (221184 < N) = false := decide_eq_false (by omega)
  have c4b : ((l.length : Int) != (l.length : Int)) = false := by simp
  have info5 : (Tryd.prog.info? 5).map (fun i => (i.zero, i.size, i.bytes)) = some (some (.int .u8 0), 1, 1) := by kernel_rfl
  clear hd1 hkc hr0 hby ht hn hc hll
  go_enter Tryd.func15, Tryd.ntmps15
  go_wp2_with (first | (go_at_call 18; refine (HTg.out _).mono ?_; rintro e W1 ⟨rfl, ⟨nd, rfl⟩⟩) | (go_at_call 13; refine (HCt.out _).mono ?_; rintro e W2 ⟨rfl, ⟨nd2, rfl⟩⟩))
  clear c2b c3b c3c c4b HTg HCt
  go_loopg [8, 9] (l.length + 1) (fun kq v8 v9 w' => ∃ (k : Nat) (out : List Int), v9 = .int .i64 (k : Int) ∧ Aside0 (k ≤ l.length) ∧ Aside0 (kq + k = l.length + 1) ∧ Aside0 (out.length = 54 * k) ∧ Aside0 (jn t N k (l.drop k) (out.take N) = (X, r)) ∧ Aside0 (Kd.R (Kd.int .u8) 5 w' w.heap.size (fun _ => True) v8 out) ∧ Aside0 (Below w.heap.size w w'))
  case atStart => exact ⟨0, [], rfl, ⟨Nat.zero_le _⟩, ⟨rfl⟩, ⟨rfl⟩, ⟨by rw [List.take_nil]; exact hX⟩, ⟨Kd.R_nil _ _ _ _ _⟩, ⟨pw_below_drewN (Below.refl _ _) _⟩⟩
  case round =>
    clear hX
    obtain ⟨k, out, rfl, HI, HK, HL, HJ, HO, HB⟩ := hrel
    obtain ⟨A8, c8, rfl⟩ := Kd.R_slice HO.out
    cases gk with
    | zero => exact absurd HK.out (by have := HI.out; omega)
    | succ gq =>
    by_cases c2 : k < l.length
    · have c2b : decide (k < l.length) = true := decide_eq_true c2
      obtain ⟨ad, A1, cc1, e, hx, hl1, hC1⟩ := at_L2 HR.out (k : Int) (by omega) (by omega)
      cases e
      obtain ⟨b, hbd⟩ : ∃ b, b = l.getD k [] := ⟨_, rfl⟩
      rw [rdL2, ← hbd] at hx hl1 hC1
      rw [Int.toNat_natCast] at hx
      replace hx := (HB.out.cell (World.block_lt_of_cell? w _ hx)).trans hx
      have hbb : Bytes b := HBY.out b (by rw [hbd, List.getD_eq_getElem?_getD, List.getElem?_eq_getElem c2]; exact List.getElem_mem _)
      have p1 : ((k : Int) < (l.length : Int)) = True := eq_true (Int.ofNat_lt.2 c2)
      have q1 : (k < l.length) = True := eq_true c2
      have HBD := Aside0.mk hbd
      have HC2 := Aside0.mk c2
      clear hbd c2
      by_cases h64 : b.length = 64
      rotate_left
      · have f1 : ((b.length : Int) != 64) = true := bne_iff_ne.2 (by omega)
        have f2 : ((b.length : Int) == 64) = false := beq_eq_false_iff_ne.2 (by omega)
        have f3 : (b.length = 64) = False := eq_false h64
        have hJ := HJ.out
        rw [jn_short t N l k _ HC2.out (by rw [← HBD.out]; exact h64)] at hJ
        obtain ⟨rfl, rfl⟩ := Prod.mk.inj hJ
        clear hC1 hl1 hbb h64 hJ
        go_wp2
        go_ret2
        exact jpost_nil HB.out
      have HOp := Aside0.mk (fun W hC => refOpen_calls2 A1 cc1 b W hC hl1 hbb (by omega))
      have HC1 := Aside0.mk hC1
      have HC1' := Aside0.mk hC1
      have H64 := Aside0.mk (show (l.getD k []).length = 64 by rw [← HBD.out]; exact h64)
      have hRO : RO b = ((RO b).1, (RO b).2) := rfl
      have hp60 : (RO b).2 = 0 → (RO b).1.length = 60 := RO_len b h64
      rw [h64] at HOp HC1 hx
      generalize (RO b).1 = p at hRO HOp hp60
      generalize (RO b).2 = e at hRO HOp hp60
      rw [HBD.out] at hRO
      have HRO := Aside0.mk hRO
      clear hC1 hl1 hbb h64 hRO HBD
      go_wp2_with (first | (go_at_call 21; refine (HOp.out _ (Kd.C_below HC1.out HB.out)).mono ?_; rintro e1 W1 ⟨A11, c11, rfl, hc11, hC11, hb11⟩; refine of_halt ?_))
      unfold G.Halt
      have HO1 := Aside0.mk (Kd.R_below HO.out hb11)
      have HB1 := Aside0.mk (below_step HB.out hb11)
      have HP := Aside0.mk (hC11 _ (Kd.C_below HC1'.out HB1.out))
      clear hb11 hC11 hx HOp HO HB
      by_cases he : e = 0
      rotate_left
      · have f1 : (e != 0) = true := bne_iff_ne.2 he
        have f2 : (e == 0) = false := beq_eq_false_iff_ne.2 he
        have f3 : (e = 0) = False := eq_false he
        have hJ := HJ.out
        rw [jn_shut t N l k _ HC2.out H64.out HRO.out he] at hJ
        obtain ⟨rfl, rfl⟩ := Prod.mk.inj hJ
        clear he hp60 hJ hc11
        go_wp2
        go_ret2
        exact jpost_nil HB1.out
      subst he
      have hp := hp60 rfl
      obtain ⟨ad1, rfl⟩ : ∃ ad, A11 = some ad := by
        obtain ⟨ad, e, _⟩ := Kd.at_int HP.out 0 (by omega) (by omega)
        exact ⟨ad, e⟩
      obtain ⟨k1, hk1⟩ := Ev.rounds (one_f [] t k (by have := HC2.out; have := HLL.out; omega) (by simp) HTT.out)
      have HOne : Aside0 (∀ W, Calls Tryd.prog 19 #[.slice none 0 0, .int .i64 (k : Int), .int .i64 t] W _) := Aside0.mk (fun W => colophonref20_one.calls k1 none 0 [] (k : Int) t (chunkOf [] t k) W (Kd.C_nil _ _) (Nat.le_refl _) hk1)
      have hpb : Bytes p := by
        have hb2 : Bytes (l.getD k []) := HBY.out _ (by rw [List.getD_eq_getElem?_getD, List.getElem?_eq_getElem HC2.out]; exact List.getElem_mem _)
        have h2 := HRO.out
        rw [RO] at h2
        split at h2
        · injection h2 with h2 h3; exact absurd h3 (by decide)
        · split at h2
          · injection h2 with h2 h3; rw [← h2]; exact hb2.take _
          · injection h2 with h2 h3; exact absurd h3 (by decide)
      have hne := str_ne (hd k t) (p.take 6) (hd_Bytes _ _) (hpb.take 6)
      have htl : (p.take 6).length = 6 := by rw [List.length_take]; omega
      have HStr := Aside0.mk (fun W (hC : Kd.C (Kd.int .u8) W (some ad1) p.length p) => Kd.C_string (P := Tryd.prog) (src := 22) (dst := 9) Tryd.underlying22 Tryd.underlying5 Tryd.underlying9 (c := c11) (Kd.C_take (m := 6) hC (by omega)))
      simp only [htl] at HStr
      have hJ := HJ.out
      have hbe : (!decide (hd (k : Int) t = p.take 6)) = !decide (p.take 6 = hd k t) := by congr 1; exact decide_eq_decide.2 ⟨Eq.symm, Eq.symm⟩
      rw [hbe] at hne
      generalize hbb : (!decide (p.take 6 = hd (k : Int) t)) = bb at hne
      have HBB := Aside0.mk hbb
      generalize p.take 6 = p6 at HStr hne hJ
      have HNE := Aside0.mk hne
      have g1 : (6 ≤ c11) = True := eq_true (by omega)
      have g2 : ((6 : Int) ≤ (c11 : Int)) = True := eq_true (by omega)
      have g3 : (c11 = 6) = False := eq_false (by omega)
      have HP60 := Aside0.mk hp
      have HCC := Aside0.mk (show 60 ≤ c11 by omega)
      rw [hp] at HP HStr ⊢
      clear hp60 hk1 hpb hne htl hJ hbe hbb hc11 hp
      go_upto_region 12 with (fail)
      refine start_ (n := 9) (S := fun w' => (convert 22 9 (.slice (some ad1) 6 c11)).run Tryd.prog w' = .ok (.string (strOfNums p6)) w') (ds := []) #[false, false, false, false, false, false, false, false, false] (by kernel_rfl) rfl rfl (HStr.out _ (Kd.C_drew HP.out)) (fun hHeld => ?_)
      refine pure_ (i := 0) (N := some 54) (v := ?_) (a' := ?_) #[true, false, false, false, false, false, false, false, false] rfl rfl (by kernel_rfl) (fun _ _ _ h => h) (Or.inl ⟨by rfl, ?_⟩) ?_ ?_
      rotate_left
      · intro w'
        go_simp
        with_reducible rfl
      rotate_left
      · simp only [Act.put, List.setIfInBounds_toArray, List.set_cons_zero, List.set_cons_succ, i64_w, i32_w]
        rfl
      refine pure_ (i := 1) (N := some 55) (v := ?_) (a' := ?_) #[true, true, false, false, false, false, false, false, false] rfl rfl (by kernel_rfl) (fun _ _ _ h => h) (Or.inl ⟨by rfl, ?_⟩) ?_ ?_
      rotate_left
      · intro w'
        go_simp
        with_reducible rfl
      rotate_left
      · simp only [Act.put, List.setIfInBounds_toArray, List.set_cons_zero, List.set_cons_succ, i64_w, i32_w]
        rfl
      refine pure_ (i := 5) (N := some 59) (v := ?_) (a' := ?_) #[true, true, false, false, false, true, false, false, false] rfl rfl (by kernel_rfl) (fun _ _ _ h => h) (Or.inl ⟨by rfl, ?_⟩) ?_ ?_
      rotate_left
      · intro w'
        go_simp
        with_reducible rfl
      rotate_left
      · simp only [Act.put, List.setIfInBounds_toArray, List.set_cons_zero, List.set_cons_succ, i64_w, i32_w]
        rfl
      refine pure_ (i := 6) (N := some 60) (v := ?_) (a' := ?_) #[true, true, false, false, false, true, true, false, false] rfl rfl (by kernel_rfl) (fun _ _ _ h => h) (Or.inl ⟨by rfl, ?_⟩) ?_ ?_
      rotate_left
      · intro w'
        go_simp
        with_reducible rfl
      rotate_left
      · simp only [Act.put, List.setIfInBounds_toArray, List.set_cons_zero, List.set_cons_succ, i64_w, i32_w]
        rfl
      refine take_ (i := 7) (N := some 61) (v := ?_) (a' := ?_) #[true, true, false, false, false, true, true, true, false] rfl rfl (by kernel_rfl) (fun _ _ _ h => h) (Or.inl ⟨by rfl, ?_⟩) hHeld ?_ ?_
      rotate_left
      · intro w' s0
        go_simp
        with_reducible rfl
      rotate_left
      · simp only [Act.put, List.setIfInBounds_toArray, List.set_cons_zero, List.set_cons_succ, i64_w, i32_w]
        rfl
      refine one_ (i := 2) (N := some 56) #[true, true, true, false, false, true, true, true, false] rfl rfl (by kernel_rfl) (by decide) (fun K hK => ?_)
      refine goes_ Tryd.func19 (by kernel_rfl) rfl #[.slice none 0 0, .int .i64 (k : Int), .int .i64 t] (by rfl) rfl rfl (by simp only [List.map_toArray, List.map_cons, List.map_nil]; rfl) ?_
      with_reducible refine (HOne.out _).mono ?_
      rintro e w4 ⟨v4, rfl, ho4, hb4⟩
      refine ⟨_, rfl, ?_⟩
      obtain ⟨g4, cap4, rfl, _, _, _⟩ := Kd.R_form ho4 (by rw [chunk_len]; omega)
      have ho4b := Kd.R_take (m := 6) ho4 (by rw [chunk_len]; omega)
      rw [chunk_head] at ho4b
      have hcvV := own_string (P := Tryd.prog) (src := 22) (dst := 9) Tryd.underlying22 Tryd.underlying5 Tryd.underlying9 (Kd.own_of_R ho4b)
      have hr4 := Kd.R_reads' ho4
      have h4c : (6 ≤ cap4) = True := eq_true (by have := hr4.2.1; rw [chunk_len] at this; omega)
      have h4d : ((6 : Int) ≤ (cap4 : Int)) = True := eq_true (by have := of_eq_true h4c; omega)
      have HB4 := Aside0.mk (below_step (below_drew1 HB1.out) hb4)
      have HO4 := Aside0.mk (Kd.R_below (Kd.R_drew HO1.out) hb4)
      have HP4 := Aside0.mk (Kd.C_below HP.out (below_step (below_drew1 (Below.refl _ _)) hb4))
      rw [chunk_len]
      clear ho4 hb4 ho4b hr4
      refine hK.out _ _ (HStr.out _ HP4.out) (fun hHeld => ?_)
      clear hK K
      refine norm_ (a' := ?_) ?_ ?_
      rotate_left
      · show Act.put _ (some 56) _ = _
        simp only [Act.put, List.setIfInBounds_toArray, List.set_cons_zero, List.set_cons_succ, i64_w, i32_w]
        rfl
      refine pure_ (i := 3) (N := some 57) (v := ?_) (a' := ?_) #[true, true, true, true, false, true, true, true, false] rfl rfl (by kernel_rfl) (fun _ _ _ h => h) (Or.inl ⟨by rfl, ?_⟩) ?_ ?_
      rotate_left
      · intro w'
        go_simp
        with_reducible rfl
      rotate_left
      · simp only [Act.put, List.setIfInBounds_toArray, List.set_cons_zero, List.set_cons_succ, i64_w, i32_w]
        rfl
      refine one_ (i := 4) (N := some 58) #[true, true, true, true, true, true, true, true, false] rfl rfl (by kernel_rfl) (by decide) (fun K hK => ?_)
      refine value_ (w1 := ?_) (v := ?_) (by rfl) rfl ?_ ?_
      rotate_left 2
      · go_simp
        constructor
        · rfl
        · rfl
      refine hK.out _ _ (HStr.out _ HP4.out) (fun hHeld => ?_)
      clear hK K
      refine norm_ (a' := ?_) ?_ ?_
      rotate_left
      · show Act.put _ (some 58) _ = _
        simp only [Act.put, List.setIfInBounds_toArray, List.set_cons_zero, List.set_cons_succ, i64_w, i32_w]
        rfl
      refine pure_ (i := 8) (N := some 62) (v := ?_) (a' := ?_) #[true, true, true, true, true, true, true, true, true] rfl rfl (by kernel_rfl) (fun _ _ _ h => h) (Or.inl ⟨by rfl, ?_⟩) ?_ ?_
      rotate_left
      · intro w'
        go_simp
        with_reducible rfl
      rotate_left
      · simp only [Act.put, List.setIfInBounds_toArray, List.set_cons_zero, List.set_cons_succ, i64_w, i32_w]
        rfl
      refine done_ (by kernel_rfl) ?_
      have hN := HNE.out
      rw [bne] at hN
      simp only [hN]
      clear hN
      cases bb with
      | true =>
        have hne : ¬ (p.take 6 = hd k t) := by have := HBB.out; simpa using this
        have hJ := HJ.out
        rw [jn_head t N l k _ HC2.out H64.out HRO.out hne] at hJ
        obtain ⟨rfl, rfl⟩ := Prod.mk.inj hJ
        clear hne hJ
        go_wp2
        go_ret2
        exact jpost_nil HB4.out
      | false =>
        have heq : p.take 6 = hd k t := by have := HBB.out; simpa using this
        have hJ := HJ.out
        rw [jn_more t N l k out HC2.out HC.out HL.out H64.out HRO.out heq] at hJ
        have HJ2 := Aside0.mk hJ
        have hpd := Kd.C_drop (m := 6) (c := c11) (xs := p) (by rw [HP60.out]; exact HP4.out) (by have := HP60.out; omega) (by have := HP60.out; have := HCC.out; omega)
        rw [show (p.drop 6).length = 54 by rw [List.length_drop, HP60.out]] at hpd
        simp only [g3, if_false] at hpd
        clear hJ heq
        go_wp2_with (first | ((with_reducible refine gate_dst (N := 66) rfl ?_); refine of_halt ?_))
        unfold G.Halt
        refine Kd.R_append_row (w0 := w) (Value.int .u8) 0 w.heap.size rfl (.tmp 63) (.tmp 65) 22 5 (.int .u8 0) 1 rfl Tryd.underlying22 info5 rfl (by omega) (.slice A8 out.length c8) out (p.drop 6) ((some ad1).map (·.add (6 * (Kd.int .u8).sz))) 54 (c11 - 6) (fun _ => True) rfl rfl (fun _ _ => trivial) HO4.out hpd HB4.out HB4.out.size (by have := HL.out; have := HI.out; have := HLL.out; omega) ?_
        intro v7 W7 ho7 hb7 hg7 hat7
        obtain ⟨A7, c7, rfl, hc7, hC7⟩ := Kd.R_reads ho7
        obtain ⟨y, hy⟩ : ∃ y, y = out ++ p.drop 6 := ⟨_, rfl⟩
        have hyl : y.length = 54 * (k + 1) := by rw [hy, List.length_append, List.length_drop, HP60.out, HL.out]; omega
        rw [← hy] at ho7 hc7 hC7 ⊢
        have hJ2 := HJ2.out
        rw [← hy] at hJ2
        have HJ3 := Aside0.mk hJ2
        have HY := Aside0.mk hyl
        have HO7 := Aside0.mk ho7
        have HB7 := Aside0.mk hb7
        have HC7 := Aside0.mk hC7
        clear ho7 hb7 hg7 hat7 hc7 hC7 hy hyl hJ2 HJ2 hpd HO4 HB4 HP4 HO1 HB1 HP HC1 HC1' g1 g2 g3
        go_wp2
        go_loopg [12] (y.length + 1) (fun kq v12 w' => ∃ j : Nat, v12 = .int .i64 (j : Int) ∧ Aside0 (N ≤ j) ∧ Aside0 (kq + j = N + y.length + 1) ∧ Aside0 (∀ i, N ≤ i → i < j → rd y (i : Int) = 0) ∧ Aside0 (w' = W7))
        case atStart => exact ⟨N, rfl, ⟨Nat.le_refl _⟩, ⟨by omega⟩, ⟨fun i h1 h2 => by omega⟩, ⟨rfl⟩⟩
        case round =>
          obtain ⟨j, rfl, HN1, HK1, HZ, ⟨rfl⟩⟩ := hrel
          by_cases c5 : j < y.length
          · have c5b : decide (j < y.length) = true := decide_eq_true c5
            obtain ⟨ad5, e5, hx5⟩ := Kd.at_int HC7.out (j : Int) (by omega) (by omega)
            cases e5
            simp only [Int.toNat_natCast] at hx5
            have p5 : ((j : Int) < (y.length : Int)) = True := eq_true (Int.ofNat_lt.2 c5)
            have q5 : (j < y.length) = True := eq_true c5
            have HC5 := Aside0.mk c5
            clear c5
            by_cases hz : rd y (j : Int) = 0
            · have z1 : (rd y (j : Int) != 0) = false := bne_eq_false_iff_eq.2 hz
              have z2 : (rd y (j : Int) == 0) = true := beq_iff_eq.2 hz
              have HZZ := Aside0.mk hz
              clear hz
              go_wp2
              go_roundg (gk - 1)
              case measure => have := HK1.out; have := HC5.out; omega
              case rel => exact ⟨j + 1, by rw [show wrap64 ((j : Int) + 1) = ((j + 1 : Nat) : Int) from by have := HY.out; have := HC5.out; have := HI.out; have := HLL.out; unfold wrap64; omega], ⟨by have := HN1.out; omega⟩, ⟨by have := HK1.out; have := HC5.out; omega⟩, ⟨fun i h1 h2 => by
                rcases Nat.lt_or_ge i j with h | h
                · exact HZ.out i h1 h
                · obtain rfl : i = j := by omega
                  exact HZZ.out⟩, ⟨rfl⟩⟩
            · have z1 : (rd y (j : Int) != 0) = true := bne_iff_ne.2 hz
              have z2 : (rd y (j : Int) == 0) = false := beq_eq_false_iff_ne.2 hz
              have hJ := HJ3.out
              rw [if_neg (not_zeros y N j HN1.out HC5.out hz)] at hJ
              obtain ⟨rfl, rfl⟩ := Prod.mk.inj hJ
              clear hJ hz
              go_wp2
              go_ret2
              exact jpost_nil HB7.out
          · have c5b : decide (j < y.length) = false := decide_eq_false c5
            have hJ := HJ3.out
            rw [if_pos (zeros_from y N j HN1.out HZ.out (by omega))] at hJ
            have HJ4 := Aside0.mk hJ
            clear hJ c5
            go_wp2
            go_roundg gq
            case measure => omega
            case rel => exact ⟨k + 1, y, by rw [show wrap64 ((k : Int) + 1) = ((k + 1 : Nat) : Int) from by have := HI.out; have := HLL.out; unfold wrap64; omega], ⟨by have := HC2.out; omega⟩, ⟨by have := HK.out; omega⟩, HY, HJ4, HO7, HB7⟩
    · have c2b : decide (k < l.length) = false := decide_eq_false c2
      obtain rfl : k = l.length := by have := HI.out; omega
      have hJ := HJ.out
      rw [jn_end] at hJ
      obtain ⟨rfl, rfl⟩ := Prod.mk.inj hJ
      have hov := cnt_over N l.length HC.out
      have hr8 := Kd.R_reads' HO.out
      obtain ⟨i030, hi030, _, hsz30, _⟩ := info_parts info5
      have hcut := cut_to (P := Tryd.prog) 22 5 .i64 Tryd.underlying22 hi030 A8 out.length c8 (N : Int) (by omega) (by have := HL.out; omega) hr8.2.1
      rw [Int.toNat_natCast] at hcut
      have hct := Kd.C_take (m := N) hr8.2.2 (by have := HL.out; omega)
      have htl : (out.take N).length = N := by rw [List.length_take]; have := HL.out; omega
      have HCT := Aside0.mk hct
      have HTL := Aside0.mk htl
      clear hJ c2 hov hr8 hi030 hsz30 hct htl
      go_wp2
      go_ret2
      exact ⟨A8, c8, by rw [HTL.out]; rfl, HCT.out, HB.out⟩
/-- The document's Join tells what the program's tells. -/
theorem refJoin_calls (A0 : Option Addr) (c0 : Nat) (l : List (List Int)) (t size : Int) (w : World) (hr0 : Kd.C (Kd.slice 5 (Kd.int .u8)) w A0 l.length l) (hby : ∀ b ∈ l, Bytes b) :
    Calls Tryd.prog 15 #[.slice A0 l.length c0, .int .i64 t, .int .i64 size] w (JPost w (JN l t size).1 (JN l t size).2) := by
  by_cases h : 1 ≤ t ∧ t ≤ 2147483647 ∧ 0 ≤ size ∧ size ≤ 221184 ∧ (l.length : Int) = cnt size
  · rw [show JN l t size = jn t size 0 l [] from if_pos h]
    obtain ⟨h1, h2, h3, h4, h5⟩ := h
    obtain ⟨N, rfl⟩ := Int.eq_ofNat_of_zero_le h3
    exact refJoin_good A0 c0 l t N w hr0 hby ⟨h1, h2⟩ (by omega) h5 _ _ rfl
  · rw [show JN l t size = ([], 2) from if_neg h]
    exact refJoin_bad A0 c0 l t size w h
end Go.Proofs.YtkocgfcoebodkaaDoor.X
