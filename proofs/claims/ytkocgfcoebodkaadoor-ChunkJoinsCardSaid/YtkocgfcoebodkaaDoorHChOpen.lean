/- chunk.open by hand. -/
import Derived.Test.YtkocgfcoebodkaaDoorHHead
namespace Go.Proofs.YtkocgfcoebodkaaDoor.G
open Go.RowKit Go.Proofs.YtkocgfcoebodkaaDoorW.PrintWords Go.Proofs.YtkocgfcoebodkaaDoorW.PrintLast Go.Proofs.YtkocgfcoebodkaaDoorW.PrintMore
set_option linter.unusedVariables false
set_option linter.unusedSimpArgs false

def chunk_open.f (l0 : List Int) (a1 a2 : Int) : Option (List Int × Int) :=
  if l0.length = 64 then (sums_Open.f l0).bind fun x => if x.2 = 0 then (if x.1.length = 60 then some (if x.1.take 6 = hd a1 a2 then (x.1.drop 6, 0) else ([], 180)) else none) else some ([], x.2) else some ([], 20)
set_option maxHeartbeats 8000000 in
set_option maxRecDepth 100000 in
theorem chunk_open.calls (A0 : Option Addr) (c0 : Nat) (l0 : List Int) (a1 a2 : Int) (r1 : List Int) (r2 : Int) (w : World) (hT : Tab w) (hr0 : Kd.C (Kd.int .u8) w A0 l0.length l0) (hc0 : l0.length ≤ c0) (h : chunk_open.f l0 a1 a2 = some (r1, r2)) :
    Calls Tryd.prog 20 #[.slice A0 l0.length c0, .int .i64 a1, .int .i64 a2] w fun e w' => ∃ v0_, e = .returned (.tuple #[v0_, .int .i64 r2]) ∧ Kd.Q (Kd.int .u8) 5 w' w.heap.size (fun _ => True) v0_ r1 ∧ Below w.heap.size w w' := by
  have info5 : (Tryd.prog.info? 5).map (fun i => (i.zero, i.size, i.bytes)) = some (some (.int .u8 0), 1, 1) := by kernel_rfl
  by_cases h6 : l0.length = 64
  · rw [chunk_open.f, if_pos h6] at h
    obtain ⟨⟨p, e⟩, hp, h⟩ := Option.bind_eq_some_iff.1 h
    simp only at h
    have HO := Aside0.mk (fun W hT hC => sums_Open.calls A0 c0 l0 p e W hT hC hc0 hp)
    rw [h6] at HO hr0 ⊢
    have HR := Aside0.mk hr0
    have HT := Aside0.mk hT
    clear hr0 hT hp hc0 h6
    by_cases he : e = 0
    · subst he
      rw [if_pos rfl] at h
      by_cases hl : p.length = 60
      · rw [if_pos hl] at h
        have HH := Aside0.mk h
        clear h
        have htl : (p.take 6).length = 6 := by rw [List.length_take]; omega
        obtain ⟨d0, d1, d2, d3, d4, d5, hd6⟩ : ∃ d0 d1 d2 d3 d4 d5, p.take 6 = [d0, d1, d2, d3, d4, d5] := by
          generalize p.take 6 = d at htl
          match d, htl with
          | [d0, d1, d2, d3, d4, d5], _ => exact ⟨d0, d1, d2, d3, d4, d5, rfl⟩
        have HD6 := Aside0.mk hd6
        have HL := Aside0.mk hl
        clear htl hd6 hl
        go_enter Tryd.func20, Tryd.ntmps20
        go_wp2_with (first | (go_at_call 25; refine (HO.out _ HT.out HR.out).mono ?_; rintro e W1 ⟨v8, rfl, ho8, hb8⟩; refine of_halt ?_))
        unfold Halt
        obtain ⟨A8, c8, rfl, hc8, hC8⟩ := Kd.R_reads ho8
        have HR8 := Aside0.mk ho8
        have HB8 := Aside0.mk hb8
        rw [HL.out] at hc8
        have HC8 := Aside0.mk hC8
        obtain ⟨ad, rfl⟩ : ∃ ad, A8 = some ad := by
          obtain ⟨ad, e, _⟩ := Kd.at_int hC8 0 (by omega) (by have := HL.out; omega)
          exact ⟨ad, e⟩
        have hS : ∀ W, Kd.C (Kd.int .u8) W (some ad) p.length p → ∀ j, j < 6 → W.cell? (ad.add j) = some (.int .u8 ((p.take 6).getD j 0)) := by
          intro W hC j hj
          obtain ⟨ad', e, hx⟩ := Kd.at_int hC (j : Int) (by omega) (by have := HL.out; omega)
          injection e with e
          subst e
          rw [Int.toNat_natCast] at hx
          rw [hx]
          congr 2
          simp only [rd, Int.toNat_natCast, List.getD_eq_getElem?_getD, List.getElem?_take, if_pos hj]
        rw [HD6.out] at hS
        have hS6 : ∀ W, Kd.C (Kd.int .u8) W (some ad) p.length p → W.cell? ad = some (.int .u8 d0) ∧ W.cell? ⟨ad.block, ad.off + 1, none⟩ = some (.int .u8 d1) ∧ W.cell? ⟨ad.block, ad.off + 2, none⟩ = some (.int .u8 d2) ∧ W.cell? ⟨ad.block, ad.off + 3, none⟩ = some (.int .u8 d3) ∧ W.cell? ⟨ad.block, ad.off + 4, none⟩ = some (.int .u8 d4) ∧ W.cell? ⟨ad.block, ad.off + 5, none⟩ = some (.int .u8 d5) := by
          intro W hC
          have h0 := hS W hC 0 (by omega)
          have h1 := hS W hC 1 (by omega)
          have h2 := hS W hC 2 (by omega)
          have h3 := hS W hC 3 (by omega)
          have h4 := hS W hC 4 (by omega)
          have h5 := hS W hC 5 (by omega)
          simp only [Addr.add, Nat.reduceEqDiff, if_false, if_true, List.getD_cons_zero, List.getD_cons_succ] at h0 h1 h2 h3 h4 h5 ⊢
          exact ⟨h0, h1, h2, h3, h4, h5⟩
        clear hC8 ho8 hb8 hS
        have hn6 : ∀ W, (binOp .neq 46 (.agg #[.int .u8 d0, .int .u8 d1, .int .u8 d2, .int .u8 d3, .int .u8 d4, .int .u8 d5]) (.agg #[.int .u8 (a1 / 256 % 256), .int .u8 (a1 % 256), .int .u8 (a2 / 16777216 % 256), .int .u8 (a2 / 65536 % 256), .int .u8 (a2 / 256 % 256), .int .u8 (a2 % 256)])).run Tryd.prog W = .ok (.bool (!(p.take 6 == hd a1 a2))) W := by
          intro W
          rw [HD6.out]
          exact neq_ints W 46 5 6 .u8 Tryd.underlying46 Tryd.underlying5 (by kernel_rfl) [d0, d1, d2, d3, d4, d5] (hd a1 a2) rfl rfl
        have hcut13 : ∀ W, (Instr.arrayAt 46 (.slice (some ad) 6 6)).run Tryd.prog W = .ok (.pointer (some ad)) W := fun W => run_arrayAt W 46 5 6 _ _ _ Tryd.underlying46 (Nat.le_refl _)
        generalize hb : (!(p.take 6 == hd a1 a2)) = b at hn6
        have HHB := Aside0.mk hb
        have HTR := Aside0.mk hS6
        have hc8a : (6 ≤ c8) = True := eq_true (by omega)
        have hc8b : ((6 : Int) ≤ (c8 : Int)) = True := eq_true (by omega)
        have hc8c : (c8 = 6) = False := eq_false (by omega)
        have hlp : p.length = 60 := HL.out
        rw [hlp] at HC8 HR8 HTR ⊢
        clear hb hS6 hc8 hlp HO HD6
        go_upto_region 6 with (fail)
        refine start_ (n := 9) (S := fun w' => w'.cell? ad = some (.int .u8 d0) ∧ w'.cell? ⟨ad.block, ad.off + 1, none⟩ = some (.int .u8 d1) ∧ w'.cell? ⟨ad.block, ad.off + 2, none⟩ = some (.int .u8 d2) ∧ w'.cell? ⟨ad.block, ad.off + 3, none⟩ = some (.int .u8 d3) ∧ w'.cell? ⟨ad.block, ad.off + 4, none⟩ = some (.int .u8 d4) ∧ w'.cell? ⟨ad.block, ad.off + 5, none⟩ = some (.int .u8 d5)) (ds := []) #[false, false, false, false, false, false, false, false, false] (by kernel_rfl) rfl rfl ⟨(HTR.out _ (Kd.C_drew HC8.out)).1, (HTR.out _ (Kd.C_drew HC8.out)).2.1, (HTR.out _ (Kd.C_drew HC8.out)).2.2.1, (HTR.out _ (Kd.C_drew HC8.out)).2.2.2.1, (HTR.out _ (Kd.C_drew HC8.out)).2.2.2.2.1, (HTR.out _ (Kd.C_drew HC8.out)).2.2.2.2.2⟩ (fun hHeld => ?_)
        refine pure_ (i := 0) (N := some 23) (v := ?_) (a' := ?_) #[true, false, false, false, false, false, false, false, false] rfl rfl (by kernel_rfl) (fun _ _ _ h => h) (Or.inl ⟨by rfl, ?_⟩) ?_ ?_
        rotate_left
        · intro w'
          go_simp
          with_reducible rfl
        rotate_left
        · simp only [Act.put, List.setIfInBounds_toArray, List.set_cons_zero, List.set_cons_succ, i64_w, i32_w]
          rfl
        refine pure_ (i := 1) (N := some 24) (v := ?_) (a' := ?_) #[true, true, false, false, false, false, false, false, false] rfl rfl (by kernel_rfl) (fun _ _ _ h => h) (Or.inl ⟨by rfl, ?_⟩) ?_ ?_
        rotate_left
        · intro w'
          go_simp
          with_reducible rfl
        rotate_left
        · simp only [Act.put, List.setIfInBounds_toArray, List.set_cons_zero, List.set_cons_succ, i64_w, i32_w]
          rfl
        refine pure_ (i := 2) (N := some 25) (v := ?_) (a' := ?_) #[true, true, true, false, false, false, false, false, false] rfl rfl (by kernel_rfl) (fun _ _ _ h => h) (Or.inl ⟨by rfl, ?_⟩) ?_ ?_
        rotate_left
        · intro w'
          go_simp
          with_reducible rfl
        rotate_left
        · simp only [Act.put, List.setIfInBounds_toArray, List.set_cons_zero, List.set_cons_succ, i64_w, i32_w]
          rfl
        refine pure_ (i := 4) (N := some 27) (v := ?_) (a' := ?_) #[true, true, true, false, true, false, false, false, false] rfl rfl (by kernel_rfl) (fun _ _ _ h => h) (Or.inl ⟨by rfl, ?_⟩) ?_ ?_
        rotate_left
        · intro w'
          go_simp
          with_reducible rfl
        rotate_left
        · simp only [Act.put, List.setIfInBounds_toArray, List.set_cons_zero, List.set_cons_succ, i64_w, i32_w]
          rfl
        refine pure_ (i := 5) (N := some 28) (v := ?_) (a' := ?_) #[true, true, true, false, true, true, false, false, false] rfl rfl (by kernel_rfl) (fun _ _ _ h => h) (Or.inl ⟨by rfl, ?_⟩) ?_ ?_
        rotate_left
        · intro w'
          go_simp
          with_reducible rfl
        rotate_left
        · simp only [Act.put, List.setIfInBounds_toArray, List.set_cons_zero, List.set_cons_succ, i64_w, i32_w]
          rfl
        refine take_ (i := 3) (N := some 26) (v := ?_) (a' := ?_) #[true, true, true, true, true, true, false, false, false] rfl rfl (by kernel_rfl) (fun _ _ _ h => h) (Or.inl ⟨by rfl, ?_⟩) hHeld ?_ ?_
        rotate_left
        · rintro w' ⟨s0, s1, s2, s3, s4, s5⟩
          go_simp
          with_reducible rfl
        rotate_left
        · simp only [Act.put, List.setIfInBounds_toArray, List.set_cons_zero, List.set_cons_succ, i64_w, i32_w]
          rfl
        refine one_ (i := 6) (N := some 29) #[true, true, true, true, true, true, true, false, false] rfl rfl (by kernel_rfl) (by decide) (fun K hK => ?_)
        refine goes_ Tryd.func16 (by kernel_rfl) rfl #[.int .i64 a1, .int .i64 a2] (by rfl) rfl rfl (by simp only [List.map_toArray, List.map_cons, List.map_nil]; rfl) ?_
        with_reducible refine (chunk_headed.calls a1 a2 _).mono ?_
        rintro e w4 ⟨rfl, hb4⟩
        refine ⟨_, rfl, ?_⟩
        have HR4 := Aside0.mk (Kd.C_below (Kd.C_drew HC8.out) hb4)
        have HB4 := Aside0.mk (below_step (below_drew1 (Below.refl W1.heap.size W1)) hb4)
        clear hb4
        refine hK.out _ _ ⟨(HTR.out _ HR4.out).1, (HTR.out _ HR4.out).2.1, (HTR.out _ HR4.out).2.2.1, (HTR.out _ HR4.out).2.2.2.1, (HTR.out _ HR4.out).2.2.2.2.1, (HTR.out _ HR4.out).2.2.2.2.2⟩ (fun hHeld => ?_)
        clear hK K
        refine norm_ (a' := ?_) ?_ ?_
        rotate_left
        · show Act.put _ (some 29) _ = _
          simp only [Act.put, List.setIfInBounds_toArray, List.set_cons_zero, List.set_cons_succ, i64_w, i32_w]
          rfl
        refine pure_ (i := 7) (N := some 30) (v := ?_) (a' := ?_) #[true, true, true, true, true, true, true, true, false] rfl rfl (by kernel_rfl) (fun _ _ _ h => h) (Or.inl ⟨by rfl, ?_⟩) ?_ ?_
        rotate_left
        · intro w'
          go_simp
          with_reducible rfl
        rotate_left
        · simp only [Act.put, List.setIfInBounds_toArray, List.set_cons_zero, List.set_cons_succ, i64_w, i32_w]
          rfl
        refine pure_ (i := 8) (N := some 22) (v := ?_) (a' := ?_) #[true, true, true, true, true, true, true, true, true] rfl rfl (by kernel_rfl) (fun _ _ _ h => h) (Or.inl ⟨by rfl, ?_⟩) ?_ ?_
        rotate_left
        · intro w'
          go_simp
          with_reducible rfl
        rotate_left
        · simp only [Act.put, List.setIfInBounds_toArray, List.set_cons_zero, List.set_cons_succ, i64_w, i32_w]
          rfl
        refine done_ (by kernel_rfl) ?_
        have HB5 := Aside0.mk (below_step HB8.out HB4.out)
        have HQ5 := Aside0.mk (Kd.Q_drop (k := 6) (Kd.Q_below (Kd.Q_of_R HR8.out) HB4.out) (by have := HL.out; omega))
        cases b with
        | true =>
          have hne : ¬ (p.take 6 = hd a1 a2) := by have := HHB.out; simpa using this
          have HH2 := HH.out
          rw [if_neg hne] at HH2
          injection HH2 with HH2
          injection HH2 with h1 h2
          subst h1 h2
          go_wp2
          go_ret2
          exact ⟨_, rfl, Kd.Q_nil _ _ _ _ _, HB5.out⟩
        | false =>
          have hne : p.take 6 = hd a1 a2 := by have := HHB.out; simpa using this
          have HH2 := HH.out
          rw [if_pos hne] at HH2
          injection HH2 with HH2
          injection HH2 with h1 h2
          subst h1 h2
          go_wp2
          go_ret2
          have hq := HQ5.out
          rw [if_neg (fun h => by rw [h] at hc8c; simp at hc8c)] at hq
          exact ⟨_, rfl, hq, HB5.out⟩
      · rw [if_neg hl] at h
        exact absurd h (by simp)
    · rw [if_neg he] at h
      injection h with h
      injection h with h1 h2
      subst h1 h2
      have f1 : (e == 0) = false := beq_eq_false_iff_ne.2 he
      go_enter Tryd.func20, Tryd.ntmps20
      go_wp2_with (first | (go_at_call 25; refine (HO.out _ HT.out HR.out).mono ?_; rintro e W1 ⟨v8, rfl, ho8, hb8⟩; obtain ⟨A8, c8, rfl⟩ := Kd.R_slice ho8))
      go_ret2
      exact ⟨_, rfl, Kd.Q_nil _ _ _ _ _, hb8⟩
  · rw [chunk_open.f, if_neg h6] at h
    injection h with h
    injection h with h1 h2
    subst h1 h2
    have f1 : (((l0.length : Int)) == 64) = false := beq_eq_false_iff_ne.2 (by omega)
    go_enter Tryd.func20, Tryd.ntmps20
    go_wp2
    go_ret2
    exact ⟨_, rfl, Kd.Q_nil _ _ _ _ _, Below.refl _ _⟩
end Go.Proofs.YtkocgfcoebodkaaDoor.G
