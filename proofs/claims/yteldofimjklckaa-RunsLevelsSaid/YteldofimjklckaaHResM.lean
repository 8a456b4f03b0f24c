/- explicit.Resolve: what its walk leans on. By hand. -/
import Derived.Test.YteldofimjklckaaHStM
import Derived.Test.YteldofimjklckaaResT
import Derived.Test.YteldofimjklckaaKitM
import Derived.Test.YteldofimjklckaaResU
namespace Go.Proofs.Yteldofimjklckaa.G
open Go.RowKit Go.Proofs.Yteldofimjklckaa.X Go.Proofs.YteldofimjklckaaW.PrintWords Go.Proofs.YteldofimjklckaaW.PrintLast Go.Proofs.YteldofimjklckaaW.PrintMore Go.Proofs.Yteldofimjklckaa.Exp
set_option linter.unusedVariables false
set_option linter.unusedSimpArgs false

def explicit_Resolve.f (c : List Int) (base : Int) : Option (List Int × List Int × Int) := if c.length ≤ 17592186043904 then some (if base ≠ 0 ∧ base ≠ 1 then ([], [], 2) else if formedB c = false then ([], [], 50) else (lvs c base, tys c base, 0)) else none
/-- What Resolve leaves. -/
def ResPost (r1 r2 : List Int) (r3 : Int) (w : World) (e : Ending) (w' : World) : Prop := ∃ v0_ v1_ : Value, e = .returned (.tuple #[v0_, v1_, .int .i64 r3]) ∧ Kd.R (Kd.int .i64) 3 w' w.heap.size (fun k_ => some k_ ≠ (v1_ : Value).ownBlock) v0_ r1 ∧ Kd.R (Kd.int .i64) 3 w' w.heap.size (fun k_ => some k_ ≠ (v0_ : Value).ownBlock) v1_ r2 ∧ Below w.heap.size w w'
theorem drew_le {n : Nat} {W : World} (h : n ≤ W.heap.size) : n ≤ (World.drew W).heap.size := h
theorem grown_le {n : Nat} {W W1 : World} {row : Option Nat} (h : n ≤ W.heap.size) (hg : W.grownBy W1 row) : n ≤ W1.heap.size := Nat.le_trans h hg.size
theorem made_lt {e base : Nat} {W W1 : World} {v : Value} {xs : List Int} (h : Kd.R (Kd.int .i64) e W1 base (fun k => k = W.heap.size) v xs) (hn : ∃ b, v.ownBlock = some b ∧ W.heap.size ≤ b) : W.heap.size < W1.heap.size := by
  obtain ⟨b, e1, _⟩ := hn
  have := (Kd.R_bound h).1 b e1
  have h2 := this.2.2.1
  have h3 : b = W.heap.size := this.1
  omega
theorem apart_of {e e' b b' : Nat} {W : World} {a v : Value} {xs ys : List Int} {okA okB : Nat → Prop} (hA : Kd.R (Kd.int .i64) e W b okA a xs) (hB : Kd.R (Kd.int .i64) e' W b' okB v ys) (hd : ∀ k, okA k → okB k → False) : Kd.R (Kd.int .i64) e W b (fun k => some k ≠ v.ownBlock) a xs :=
  Kd.R_mono hA (fun k hk e => hd k hk (hB.1 k e.symm))
/-- A state meets memory made behind it. -/
theorem St.meet {b0 g : Nat} {base : Int} {s : S} {lv ty : List Int} {sv lvv tyv : Value} {W W' : World} (h : St (fun _ => none) b0 g base s lv ty sv lvv tyv W) (hb : Below W.heap.size W W') (Z : Nat → Option Obj) (hz : ∀ k o, Z k = some o → W.heap.size ≤ k ∧ W'.heap[k]? = some o) : St Z b0 g base s lv ty sv lvv tyv W' := by
  have hn : ∀ k, k < W.heap.size → Z k = none := fun k hk => by
    cases e : Z k with
    | none => rfl
    | some o => have := (hz k o e).1; omega
  exact ⟨blk_below h.blk hb, h.ge, hn g (blk_lt h.blk), fun k o e => (hz k o e).2, Kd.R_below (Kd.R_mono (Kd.R_bound h.stk) (fun k hk => hn k hk.2.2.1)) hb, Kd.R_below (Kd.R_mono (Kd.R_bound h.lvs) (fun k hk => ⟨hn k hk.2.2.1, hk.1.2⟩)) hb, Kd.R_below (Kd.R_mono (Kd.R_bound h.tys) (fun k hk => ⟨hn k hk.2.2.1, hk.1.2⟩)) hb⟩
def zOf (v : Value) (W : World) : Nat → Option Obj := fun k => if some k = v.ownBlock then W.heap[k]? else none
theorem zOf_some {v : Value} {W : World} {k : Nat} {o : Obj} (h : zOf v W k = some o) : some k = v.ownBlock ∧ W.heap[k]? = some o := by
  unfold zOf at h
  split at h
  · rename_i hk; exact ⟨hk, h⟩
  · cases h
/-- What is kept reads as it did. -/
theorem zOf_R {b0 g b e : Nat} {base : Int} {s : S} {lv ty : List Int} {sv lvv tyv v : Value} {W W' : World} {ok : Nat → Prop} {xs : List Int} (h : Kd.R (Kd.int .i64) e W b ok v xs) (hs : St (zOf v W) b0 g base s lv ty sv lvv tyv W') : Kd.R (Kd.int .i64) e W' b (fun k => some k = v.ownBlock) v xs :=
  Kd.R_step (Kd.R_tight rfl h) (fun k hk hlt => by
    obtain ⟨o, ho⟩ : ∃ o, W.heap[k]? = some o := ⟨_, Array.getElem?_eq_getElem hlt⟩
    rw [ho]
    exact hs.zk k o (by unfold zOf; rw [if_pos hk]; exact ho))
theorem stack1 (W : World) (b : Nat) (hb : b ≤ W.heap.size) (x : Row3) : entK.R 53 (W.alloc (Obj.cells #[.int .i64 x.1, .int .i64 x.2.1, .bool x.2.2] 53)) b (fun _ => True) (.slice (some ⟨W.heap.size, 0, none⟩) 1 1) [x] := by
  refine ⟨fun _ _ => trivial, [.int .i64 x.1, .int .i64 x.2.1, .bool x.2.2], ?_, ?_⟩
  · have h2 := World.ownsRow_lit (base := b) (e := 53) (size := entK.sz) W #[.int .i64 x.1, .int .i64 x.2.1, .bool x.2.2] 1 hb (by decide) (by simp [entK_sz])
    simpa using h2
  · exact Reps.c3 (entK_M _ _ _ x) (Reps.none _ _)
/-- The state that Resolve starts from. -/
theorem St.start {b0 g : Nat} {base : Int} {lv ty : List Int} {lvv tyv : Value} {W : World} (hbk : W.heap[g]? = some (.cells #[.slice none 0 0, .int .i64 base, .int .i64 0, .bool false, .int .i64 0, .int .i64 0, .int .i64 0, lvv, tyv] 56 (0, 0))) (hg : b0 ≤ g) (hb : b0 ≤ W.heap.size)
    (hl : Kd.R (Kd.int .i64) 3 W b0 (fun k => some k ≠ tyv.ownBlock) lvv lv) (ht : Kd.R (Kd.int .i64) 3 W b0 (fun k => some k ≠ lvv.ownBlock) tyv ty) :
    St (fun _ => none) b0 g base (s0 base) lv ty (.slice (some ⟨W.heap.size, 0, none⟩) 1 1) lvv tyv ((W.alloc (Obj.cells #[.int .i64 base, .int .i64 0, .bool false] 53)).setCell ⟨g, 0, none⟩ (.slice (some ⟨W.heap.size, 0, none⟩) 1 1)) := by
  have hbk' := blk_alloc hbk (Obj.cells #[.int .i64 base, .int .i64 0, .bool false] 53)
  refine ⟨blk_put hbk' 0 _ rfl, hg, rfl, fun _ _ h => (by cases h), Kd.R_set ?_ hbk' (by decide) 0 _, Kd.R_set ?_ hbk' (by decide) 0 _, Kd.R_set ?_ hbk' (by decide) 0 _⟩
  · exact Kd.R_mono (stack1 W b0 hb (base, 0, false)) (fun _ _ => rfl)
  · exact Kd.R_mono (Kd.R_alloc hl _) (fun _ h => ⟨rfl, h⟩)
  · exact Kd.R_mono (Kd.R_alloc ht _) (fun _ h => ⟨rfl, h⟩)
end Go.Proofs.Yteldofimjklckaa.G
/- explicit.Resolve. By hand. -/
namespace Go.Proofs.Yteldofimjklckaa.G
open Go.RowKit Go.Proofs.Yteldofimjklckaa.X Go.Proofs.YteldofimjklckaaW.PrintWords Go.Proofs.YteldofimjklckaaW.PrintLast Go.Proofs.YteldofimjklckaaW.PrintMore Go.Proofs.Yteldofimjklckaa.Exp
set_option linter.unusedVariables false
set_option linter.unusedSimpArgs false

set_option maxHeartbeats 16000000 in
set_option maxRecDepth 100000 in
theorem res_mainA (A0 : Option Addr) (c0 : Nat) (c : List Int) (base : Int) (w : World) (hr0 : Kd.C (Kd.int .i64) w A0 c.length c) (hc0 : c.length ≤ c0) (hl : c.length ≤ 17592186043904) (hB : base = 0 ∨ base = 1) (hf : formedB c = true) (hb : (base != 0) = false) :
    Calls Try.prog 16 #[.slice A0 c.length c0, .int .i64 base] w (ResPost (lvs c base) (tys c base) 0 w) := by
  have info3 : (Try.prog.info? 3).map (fun i => (i.zero, i.size, i.bytes)) = some (some (.int .i64 0), 1, 8) := by kernel_rfl
  obtain ⟨kf, hkf⟩ := Ev.rounds (formed_ev c hl)
  rw [hf] at hkf
  obtain ⟨km, hkm⟩ := Ev.rounds (Iso.Match_ev c hl)
  have HKF := Aside0.mk hkf
  have HKM := Aside0.mk hkm
  have HR0 := Aside0.mk hr0
  have HC0 := Aside0.mk hc0
  have HL := Aside0.mk hl
  have HFO := Aside0.mk hf
  have HBS := Aside0.mk hB
  have q0 : 0 ≤ (c.length : Int) := Int.natCast_nonneg _
  clear hkf hkm hr0 hc0 hl hf hB
  obtain b1 := hb
  go_enter Try.func16, Try.ntmps16
  go_upto_region 5 with (first | (go_at_call 29; refine (explicit_formed.calls kf A0 c0 c true _ HR0.out HC0.out HKF.out).mono ?_; rintro e w1 ⟨rfl, hd1⟩))
  have HB1 := Aside0.mk hd1.below
  have hp1 := hd1.below.size
  have HZ1 := Aside0.mk hp1
  clear hd1 hp1
  have Z1' : w.heap.size ≤ (World.drew w1).heap.size := drew_le HZ1.out
  refine start_ (n := 11) (S := fun w' => True) (ds := []) #[false, false, false, false, false, false, false, false, false, false, false] (by kernel_rfl) rfl rfl trivial (fun hHeld => ?_)
  refine pure_ (i := 0) (N := some 22) (v := ?_) (a' := ?_) #[true, false, false, false, false, false, false, false, false, false, false] rfl rfl (by kernel_rfl) (fun _ _ _ h => h) (Or.inl ⟨by rfl, ?_⟩) ?_ ?_
  rotate_left
  · intro w'
    go_simp
    with_reducible rfl
  rotate_left
  · simp only [Act.put, List.setIfInBounds_toArray, List.set_cons_zero, List.set_cons_succ, i64_w, i32_w]
    rfl
  refine pure_ (i := 1) (N := some 23) (v := ?_) (a' := ?_) #[true, true, false, false, false, false, false, false, false, false, false] rfl rfl (by kernel_rfl) (fun _ _ _ h => h) (Or.inl ⟨by rfl, ?_⟩) ?_ ?_
  rotate_left
  · intro w'
    go_simp
    with_reducible rfl
  rotate_left
  · simp only [Act.put, List.setIfInBounds_toArray, List.set_cons_zero, List.set_cons_succ, i64_w, i32_w]
    rfl
  refine pure_ (i := 2) (N := some 24) (v := ?_) (a' := ?_) #[true, true, true, false, false, false, false, false, false, false, false] rfl rfl (by kernel_rfl) (fun _ _ _ h => h) (Or.inl ⟨by rfl, ?_⟩) ?_ ?_
  rotate_left
  · intro w'
    go_simp
    with_reducible rfl
  rotate_left
  · simp only [Act.put, List.setIfInBounds_toArray, List.set_cons_zero, List.set_cons_succ, i64_w, i32_w]
    rfl
  refine pure_ (i := 3) (N := some 25) (v := ?_) (a' := ?_) #[true, true, true, true, false, false, false, false, false, false, false] rfl rfl (by kernel_rfl) (fun _ _ _ h => h) (Or.inl ⟨by rfl, ?_⟩) ?_ ?_
  rotate_left
  · intro w'
    go_simp
    with_reducible rfl
  rotate_left
  · simp only [Act.put, List.setIfInBounds_toArray, List.set_cons_zero, List.set_cons_succ, i64_w, i32_w]
    rfl
  refine pure_ (i := 6) (N := some 28) (v := ?_) (a' := ?_) #[true, true, true, true, false, false, true, false, false, false, false] rfl rfl (by kernel_rfl) (fun _ _ _ h => h) (Or.inl ⟨by rfl, ?_⟩) ?_ ?_
  rotate_left
  · intro w'
    go_simp
    with_reducible rfl
  rotate_left
  · simp only [Act.put, List.setIfInBounds_toArray, List.set_cons_zero, List.set_cons_succ, i64_w, i32_w]
    rfl
  refine join_ (σ := Value × Value × Value) 3 #[true, true, true, true, true, true, true, true, false, false, false] (fun s => [(26, s.1), (27, s.2.1), (29, s.2.2)]) (fun s w' => ∃ b, Kd.R (Kd.int .i64) 3 w' w.heap.size (fun k => k = b) s.1 (List.replicate c.length 0) ∧ Kd.R (Kd.int .i64) 3 w' w.heap.size (fun k => k ≠ b) s.2.2 c ∧ Below w.heap.size w w' ∧ w.heap.size ≤ w'.heap.size) ?_ ?_
  rotate_left
  · intro hCont
    refine two_ (i := 4) (j := 5) (Ni := some 26) (Nj := some 27) #[true, true, true, true, true, false, true, false, false, false, false] #[true, true, true, true, false, true, true, false, false, false, false] rfl rfl rfl rfl (by kernel_rfl) (by decide) (by decide) (fun K hK => ?_) (fun K hK => ?_)
    · skip
      refine Kd.R_make_step (Kd.int .i64) (w0 := w) w.heap.size 3 (by rfl) (N := 26) (by rfl) 22 (.tmp 25) (.tmp 25) (by rfl) (c.length : Int) (by rfl) (by rfl) Try.underlying22 (.int .i64 0) 8 info3 rfl (by decide) (by decide) 0 (ok := fun k => k = (World.drew w1).heap.size) (okp := fun _ => False) rfl (fun _ hk => hk.elim) rfl q0 (by have := HL.out; rw [Int.toNat_natCast]; omega) (below_drew1 HB1.out) (drew_le HZ1.out) ?_
      intro v4 w4 ho4 hb4 hg4 hn4
      rw [Int.toNat_natCast] at ho4
      have L4 := made_lt ho4 hn4
      have Z4 := grown_le Z1' hg4
      refine hK.out _ _ trivial (fun hHeld => ?_)
      clear hK K
      refine norm_ (a' := ?_) ?_ ?_
      rotate_left
      · show Act.put _ (some 26) _ = _
        simp only [Act.put, List.setIfInBounds_toArray, List.set_cons_zero, List.set_cons_succ, i64_w, i32_w]
        rfl
      refine one_ (i := 5) (N := some 27) #[true, true, true, true, true, true, true, false, false, false, false] rfl rfl (by kernel_rfl) (by decide) (fun K hK => ?_)
      refine Kd.R_lit_step (Kd.int .i64) (w0 := w) w.heap.size 3 (by rfl) (N := 27) (by rfl) (xs := ([] : List Int)) (inner := []) (ok := fun k => k ≠ (World.drew w1).heap.size) (okp := fun _ => False) ?hr (Reps.none _ _) (fun _ hk => hk.elim) (by omega) hb4 Z4 (by simp) ?_
      case hr => first | (go_simp; done) | (go_simp; rfl)
      intro v5 w5 ho5 hb5 hg5 hn5
      have L5 := Kd.R_grown ho4 hg5 (fun _ _ => by simp)
      have Z5 := grown_le Z4 hg5
      refine hK.out _ _ trivial (fun hHeld => ?_)
      clear hK K
      refine norm_ (a' := ?_) ?_ ?_
      rotate_left
      · show Act.put _ (some 27) _ = _
        simp only [Act.put, List.setIfInBounds_toArray, List.set_cons_zero, List.set_cons_succ, i64_w, i32_w]
        rfl
      refine one_ (i := 7) (N := some 29) #[true, true, true, true, true, true, true, true, false, false, false] rfl rfl (by kernel_rfl) (by decide) (fun K hK => ?_)
      refine step_append_row .i64 (w0 := w) w.heap.size (by rfl) (.tmp 27) (.tmp 28) 22 3 8 (by rfl) Try.underlying22 info3 (by decide) v5 [] c A0 c.length c0 (fun k => k ≠ (World.drew w1).heap.size) (by rfl) (by rfl) (fun k hk => by have := grown_le (Nat.le_refl _) hg5; omega) ho5 (Kd.C_below HR0.out hb5) hb5 Z5 (by have := HL.out; simp; omega) ?_
      intro v7 w7 ho7 hb7 hg7 hn7
      rw [List.nil_append] at ho7
      have L7 := Kd.R_grown L5 hg7 (fun k hk e => ho5.1 k e.symm hk)
      have Z7 := grown_le Z5 hg7
      refine hK.out _ _ trivial (fun hHeld => ?_)
      clear hK K
      refine norm_ (a' := ?_) ?_ ?_
      rotate_left
      · show Act.put _ (some 29) _ = _
        simp only [Act.put, List.setIfInBounds_toArray, List.set_cons_zero, List.set_cons_succ, i64_w, i32_w]
        rfl
      exact norm_ (by simp only [putAll, Act.put, List.setIfInBounds_toArray, List.set_cons_zero, List.set_cons_succ]) (hCont (v4, v5, v7) _ ⟨_, L7, ho7, hb7, Z7⟩)
    · skip
      refine Kd.R_lit_step (Kd.int .i64) (w0 := w) w.heap.size 3 (by rfl) (N := 27) (by rfl) (xs := ([] : List Int)) (inner := []) (ok := fun _ => True) (okp := fun _ => False) ?hr (Reps.none _ _) (fun _ hk => hk.elim) (trivial) (below_drew1 HB1.out) (drew_le HZ1.out) (by simp) ?_
      case hr => first | (go_simp; done) | (go_simp; rfl)
      intro v5 w5 ho5 hb5 hg5 hn5
      have Z5 := grown_le Z1' hg5
      refine hK.out _ _ trivial (fun hHeld => ?_)
      clear hK K
      refine norm_ (a' := ?_) ?_ ?_
      rotate_left
      · show Act.put _ (some 27) _ = _
        simp only [Act.put, List.setIfInBounds_toArray, List.set_cons_zero, List.set_cons_succ, i64_w, i32_w]
        rfl
      refine two_ (i := 4) (j := 7) (Ni := some 26) (Nj := some 29) #[true, true, true, true, true, true, true, false, false, false, false] #[true, true, true, true, false, true, true, true, false, false, false] rfl rfl rfl rfl (by kernel_rfl) (by decide) (by decide) (fun K hK => ?_) (fun K hK => ?_)
      · skip
        refine Kd.R_make_step (Kd.int .i64) (w0 := w) w.heap.size 3 (by rfl) (N := 26) (by rfl) 22 (.tmp 25) (.tmp 25) (by rfl) (c.length : Int) (by rfl) (by rfl) Try.underlying22 (.int .i64 0) 8 info3 rfl (by decide) (by decide) 0 (ok := fun k => k = w5.heap.size) (okp := fun _ => False) rfl (fun _ hk => hk.elim) rfl q0 (by have := HL.out; rw [Int.toNat_natCast]; omega) hb5 Z5 ?_
        intro v4 w4 ho4 hb4 hg4 hn4
        rw [Int.toNat_natCast] at ho4
        have L4 := made_lt ho4 hn4
        have Z4 := grown_le Z5 hg4
        have T4 := Kd.R_mono (Kd.R_grown (Kd.R_bound ho5) hg4 (fun _ _ => by simp)) (ok' := fun k => k ≠ w5.heap.size) (fun k hk => by have := hk.2.2.1; omega)
        refine hK.out _ _ trivial (fun hHeld => ?_)
        clear hK K
        refine norm_ (a' := ?_) ?_ ?_
        rotate_left
        · show Act.put _ (some 26) _ = _
          simp only [Act.put, List.setIfInBounds_toArray, List.set_cons_zero, List.set_cons_succ, i64_w, i32_w]
          rfl
        refine one_ (i := 7) (N := some 29) #[true, true, true, true, true, true, true, true, false, false, false] rfl rfl (by kernel_rfl) (by decide) (fun K hK => ?_)
        refine step_append_row .i64 (w0 := w) w.heap.size (by rfl) (.tmp 27) (.tmp 28) 22 3 8 (by rfl) Try.underlying22 info3 (by decide) v5 [] c A0 c.length c0 (fun k => k ≠ w5.heap.size) (by rfl) (by rfl) (fun k hk => by omega) T4 (Kd.C_below HR0.out hb4) hb4 Z4 (by have := HL.out; simp; omega) ?_
        intro v7 w7 ho7 hb7 hg7 hn7
        rw [List.nil_append] at ho7
        have L7 := Kd.R_grown ho4 hg7 (fun k hk e => T4.1 k e.symm hk)
        have Z7 := grown_le Z4 hg7
        refine hK.out _ _ trivial (fun hHeld => ?_)
        clear hK K
        refine norm_ (a' := ?_) ?_ ?_
        rotate_left
        · show Act.put _ (some 29) _ = _
          simp only [Act.put, List.setIfInBounds_toArray, List.set_cons_zero, List.set_cons_succ, i64_w, i32_w]
          rfl
        exact norm_ (by simp only [putAll, Act.put, List.setIfInBounds_toArray, List.set_cons_zero, List.set_cons_succ]) (hCont (v4, v5, v7) _ ⟨_, L7, ho7, hb7, Z7⟩)
      · skip
        refine step_append_row .i64 (w0 := w) w.heap.size (by rfl) (.tmp 27) (.tmp 28) 22 3 8 (by rfl) Try.underlying22 info3 (by decide) v5 [] c A0 c.length c0 (fun _ => True) (by rfl) (by rfl) (fun _ _ => trivial) ho5 (Kd.C_below HR0.out hb5) hb5 Z5 (by have := HL.out; simp; omega) ?_
        intro v7 w7 ho7 hb7 hg7 hn7
        rw [List.nil_append] at ho7
        have Z7 := grown_le Z5 hg7
        refine hK.out _ _ trivial (fun hHeld => ?_)
        clear hK K
        refine norm_ (a' := ?_) ?_ ?_
        rotate_left
        · show Act.put _ (some 29) _ = _
          simp only [Act.put, List.setIfInBounds_toArray, List.set_cons_zero, List.set_cons_succ, i64_w, i32_w]
          rfl
        refine one_ (i := 4) (N := some 26) #[true, true, true, true, true, true, true, true, false, false, false] rfl rfl (by kernel_rfl) (by decide) (fun K hK => ?_)
        refine Kd.R_make_step (Kd.int .i64) (w0 := w) w.heap.size 3 (by rfl) (N := 26) (by rfl) 22 (.tmp 25) (.tmp 25) (by rfl) (c.length : Int) (by rfl) (by rfl) Try.underlying22 (.int .i64 0) 8 info3 rfl (by decide) (by decide) 0 (ok := fun k => k = w7.heap.size) (okp := fun _ => False) rfl (fun _ hk => hk.elim) rfl q0 (by have := HL.out; rw [Int.toNat_natCast]; omega) hb7 Z7 ?_
        intro v4 w4 ho4 hb4 hg4 hn4
        rw [Int.toNat_natCast] at ho4
        have Z4 := grown_le Z7 hg4
        have T4 := Kd.R_mono (Kd.R_grown (Kd.R_bound ho7) hg4 (fun _ _ => by simp)) (ok' := fun k => k ≠ w7.heap.size) (fun k hk => by have := hk.2.2.1; omega)
        refine hK.out _ _ trivial (fun hHeld => ?_)
        clear hK K
        refine norm_ (a' := ?_) ?_ ?_
        rotate_left
        · show Act.put _ (some 26) _ = _
          simp only [Act.put, List.setIfInBounds_toArray, List.set_cons_zero, List.set_cons_succ, i64_w, i32_w]
          rfl
        exact norm_ (by simp only [putAll, Act.put, List.setIfInBounds_toArray, List.set_cons_zero, List.set_cons_succ]) (hCont (v4, v5, v7) _ ⟨_, ho4, T4, hb4, Z4⟩)
  rintro ⟨lvv, u27, tyv⟩ w' ⟨b, HRl, HRt, HB5, HZ5⟩
  dsimp only at HRl HRt
  obtain ⟨Al, ml, cl, hml, rfl⟩ : ∃ A m c', m = c.length ∧ lvv = .slice A m c' := by obtain ⟨A, c', e⟩ := Kd.R_slice HRl; exact ⟨A, _, c', List.length_replicate, e⟩
  subst hml
  obtain ⟨At, ct, rfl⟩ := Kd.R_slice HRt
  have hHeld : True := trivial
  refine norm_ (a' := ?_) ?_ ?_
  rotate_left
  · simp only [putAll, Act.put, List.setIfInBounds_toArray, List.set_cons_zero, List.set_cons_succ]
    rfl
  refine pure_ (i := 8) (N := some 30) (v := ?_) (a' := ?_) #[true, true, true, true, true, true, true, true, true, false, false] rfl rfl (by kernel_rfl) (fun _ _ _ h => h) (Or.inl ⟨by rfl, ?_⟩) ?_ ?_
  rotate_left
  · intro w'
    go_simp
    with_reducible rfl
  rotate_left
  · simp only [Act.put, List.setIfInBounds_toArray, List.set_cons_zero, List.set_cons_succ, i64_w, i32_w]
    rfl
  refine one_ (i := 9) (N := some 31) #[true, true, true, true, true, true, true, true, true, true, false] rfl rfl (by kernel_rfl) (by decide) (fun K hK => ?_)
  refine value_ (w1 := ?_) (v := ?_) (by rfl) rfl ?_ ?_
  rotate_left 2
  · go_simp
    constructor
    · rfl
    · rfl
  refine hK.out _ _ trivial (fun hHeld => ?_)
  clear hK K
  refine norm_ (a' := ?_) ?_ ?_
  rotate_left
  · show Act.put _ (some 31) _ = _
    simp only [Act.put, List.setIfInBounds_toArray, List.set_cons_zero, List.set_cons_succ, i64_w, i32_w]
    rfl
  refine pure_ (i := 10) (N := some 7) (v := ?_) (a' := ?_) #[true, true, true, true, true, true, true, true, true, true, true] rfl rfl (by kernel_rfl) (fun _ _ _ h => h) (Or.inl ⟨by rfl, ?_⟩) ?_ ?_
  rotate_left
  · intro w'
    go_simp
    with_reducible rfl
  rotate_left
  · simp only [Act.put, List.setIfInBounds_toArray, List.set_cons_zero, List.set_cons_succ, i64_w, i32_w]
    rfl
  refine done_ (by kernel_rfl) ?_
  have hbk := blk_new w' (Obj.cells #[.slice none 0 0, .int .i64 base, .int .i64 0, .bool false, .int .i64 0, .int .i64 0, .int .i64 0, .slice Al c.length cl, .slice At c.length ct] 56)
  have hB6 := below_alloc HB5 (Obj.cells #[.slice none 0 0, .int .i64 base, .int .i64 0, .bool false, .int .i64 0, .int .i64 0, .int .i64 0, .slice Al c.length cl, .slice At c.length ct] 56)
  have HRl6 := Kd.R_alloc HRl (Obj.cells #[.slice none 0 0, .int .i64 base, .int .i64 0, .bool false, .int .i64 0, .int .i64 0, .int .i64 0, .slice Al c.length cl, .slice At c.length ct] 56)
  have HRt6 := Kd.R_alloc HRt (Obj.cells #[.slice none 0 0, .int .i64 base, .int .i64 0, .bool false, .int .i64 0, .int .i64 0, .int .i64 0, .slice Al c.length cl, .slice At c.length ct] 56)
  have HLl := Aside0.mk (apart_of HRl6 HRt6 (fun k a b => b a))
  have HLt := Aside0.mk (apart_of HRt6 HRl6 (fun k a b => a b))
  have HBK := Aside0.mk hbk
  have HB6 := Aside0.mk hB6
  have HGE := Aside0.mk HZ5
  have hz6 : w.heap.size ≤ (w'.alloc (Obj.cells #[.slice none 0 0, .int .i64 base, .int .i64 0, .bool false, .int .i64 0, .int .i64 0, .int .i64 0, .slice Al c.length cl, .slice At c.length ct] 56)).heap.size := by have := blk_lt hbk; omega
  have HZ6 := Aside0.mk hz6
  have hx1 := (blk_cell hbk 1).trans (show _ = some (.int .i64 base : Value) from rfl)
  have hx2 := (blk_cell hbk 2).trans (show _ = some (.int .i64 0 : Value) from rfl)
  have hx3 := (blk_cell hbk 3).trans (show _ = some (.bool false : Value) from rfl)
  clear HB1 HZ1 Z1' HRl HRt HB5 HZ5 hbk hB6 HRl6 HRt6 hz6
  generalize w'.alloc (Obj.cells #[.slice none 0 0, .int .i64 base, .int .i64 0, .bool false, .int .i64 0, .int .i64 0, .int .i64 0, .slice Al c.length cl, .slice At c.length ct] 56) = W6 at *
  generalize w'.heap.size = g at *
  have hbk7 := blk_alloc HBK.out (Obj.cells #[.int .i64 base, .int .i64 0, .bool false] 53)
  have hy0 := (blk_cell hbk7 0).trans (show _ = some (.slice none 0 0 : Value) from rfl)
  have hz0 := blk_frozen hbk7 0
  have HST7 := Aside0.mk (St.start HBK.out HGE.out HZ6.out HLl.out HLt.out)
  have HB7 := Aside0.mk ((below_alloc HB6.out (Obj.cells #[.int .i64 base, .int .i64 0, .bool false] 53)).setCell (p := ⟨g, 0, none⟩) HGE.out (.slice (some ⟨W6.heap.size, 0, none⟩) 1 1))
  clear hbk7 HLl HLt HBK
  go_wp2_with (first | (go_at_call 17; refine of_halt ?_))
  unfold Halt
  clear hx1 hx2 hx3 hy0 hz0
  generalize ((W6.alloc (Obj.cells #[.int .i64 base, .int .i64 0, .bool false] 53)).setCell ⟨g, 0, none⟩ (.slice (some ⟨W6.heap.size, 0, none⟩) 1 1)) = W7 at *
  refine (isolate_Match.calls km A0 c0 c (Iso.mts c) _ (Kd.C_below HR0.out HB7.out) HC0.out HKM.out).mono ?_
  rintro e w8 ⟨v8, rfl, ho8, hb8⟩
  dsimp only
  obtain ⟨A8, m8, c8, hm8, rfl⟩ : ∃ A m c', m = c.length ∧ v8 = .slice A m c' := by obtain ⟨A, c', e⟩ := Kd.R_slice ho8; exact ⟨A, _, c', Iso.mts_length c, e⟩
  subst hm8
  have HST8 := Aside0.mk (St.meet HST7.out hb8 (zOf (.slice A8 c.length c8) w8) (fun k o e => ⟨Kd.R_base ho8 k (zOf_some e).1.symm, (zOf_some e).2⟩))
  have HB8 := Aside0.mk (below_step HB7.out hb8)
  have HM8 := Aside0.mk ho8
  clear ho8 hb8 HST7 HB7 HB6 HZ6
  go_wp2
  go_loopg [44] (c.length + 1) (fun kq v44 w' => ∃ i : Nat, v44 = .int .i64 (i : Int) ∧ Aside0 (i ≤ c.length) ∧ Aside0 (kq + i = c.length + 1) ∧ Aside0 (∃ sv lvv tyv, St (zOf (.slice A8 c.length c8) w8) w.heap.size g base (sts c base i) (lvp c base i) (typ c base i) sv lvv tyv w' ∧ Below w.heap.size w w'))
  case atStart => exact ⟨0, rfl, ⟨Nat.zero_le _⟩, ⟨rfl⟩, ⟨⟨_, _, _, by rw [lvp_zero, typ_zero]; exact HST8.out, HB8.out⟩⟩⟩
  case round =>
    obtain ⟨i, rfl, HI, HK, ⟨sv, lvv, tyv, hst, hbw⟩⟩ := hrel
    clear HST8 HB8
    by_cases hlt : i < c.length
    · obtain ⟨ad, e, hx⟩ := Kd.at_int (Kd.C_below HR0.out hbw) (i : Int) (by omega) (by omega)
      cases e
      rw [Int.toNat_natCast, Iso.rd_nat] at hx
      have HRi := Aside0.mk (fun hs : Iso.st (c.getD i 0) = true => Ev.rounds (right_ev c HL.out i hlt hs))
      have HFi := Aside0.mk (fits c HBS.out HL.out i (by omega))
      have HIv := Aside0.mk (sts_inv c (base := base) (by rcases HBS.out with h | h <;> omega) i)
      have hsz := below_size hbw
      obtain ⟨gl, cl1, e, hgl, _⟩ := Kd.R_form hst.lvs (by rw [lvp_length]; omega)
      have hlv := hst.lvs
      rw [e] at hlv
      rw [lvp_length] at e
      subst e
      obtain ⟨hcl, hclz⟩ := Kd.R_cell 0 hlv (i : Int) (by omega) (by rw [lvp_length]; omega)
      rw [Int.toNat_natCast] at hcl hclz
      have hc7 := hst.cells.2.2.2.2.2.2.2.1
      have p1 : ((i : Int) < (c.length : Int)) = True := eq_true (by omega)
      have p2 : (i < c.length) = True := eq_true hlt
      have p3 : decide ((i : Int) < (c.length : Int)) = true := decide_eq_true (by omega)
      have p4 : decide (i < c.length) = true := decide_eq_true hlt
      have HST := Aside0.mk hst
      have HBW := Aside0.mk hbw
      have HSZ := Aside0.mk hsz
      have HGL := Aside0.mk hgl
      have HLT := Aside0.mk hlt
      have hSS := sts_succ c base i
      have hRM := one_rem c base i hlt
      have hSP := one_sep c base i hlt
      have hTK := one_take c HBS.out i hlt
      have hMA := met_at c base i
      have hME := met_end c base i
      obtain ⟨x, hxx⟩ : ∃ x, c.getD i 0 = x := ⟨_, rfl⟩
      rw [hxx] at hx hSS hRM hSP hTK hMA hME HRi
      have hcase : ((x == 17) = true ∨ (x == 17) = false ∧ (x == 15) = true ∨ (x == 17) = false ∧ (x == 15) = false ∧ (x == 18) = true ∨ (x == 17) = false ∧ (x == 15) = false ∧ (x == 18) = false ∧ (x == 16) = true) ∨
          (x == 17) = false ∧ (x == 15) = false ∧ (x == 18) = false ∧ (x == 16) = false ∧ (((x == 21) = true ∨ (x == 21) = false ∧ (x == 20) = true ∨ (x == 21) = false ∧ (x == 20) = false ∧ (x == 22) = true) ∨
            (x == 21) = false ∧ (x == 20) = false ∧ (x == 22) = false ∧ ((x == 23) = true ∨ (x == 23) = false ∧ ((x == 19) = true ∨ (x == 19) = false ∧ ((x == 10) = true ∨ (x == 10) = false ∧ ((x == 11) = true ∨ (x == 11) = false))))) := by
        cases (x == 17) <;> cases (x == 15) <;> cases (x == 18) <;> cases (x == 16) <;> cases (x == 21) <;> cases (x == 20) <;> cases (x == 22) <;> cases (x == 23) <;> cases (x == 19) <;> cases (x == 10) <;> cases (x == 11) <;> simp
      clear hst hbw hsz hgl hlt hxx hlv
      rcases hcase with hE | ⟨n17, n15, n18, n16, hS | ⟨n21, n20, n22, h23 | ⟨n23, h19 | ⟨n19, h10 | ⟨n10, h11 | n11⟩⟩⟩⟩⟩
      · have hem : emd x = true := by unfold emd; rcases hE with h | ⟨_, h⟩ | ⟨_, _, h⟩ | ⟨_, _, _, h⟩ <;> rw [h] <;> simp
        have hxo : x = 15 ∨ x = 16 ∨ x = 17 ∨ x = 18 := by
          rcases hE with h | ⟨_, h⟩ | ⟨_, _, h⟩ | ⟨_, _, _, h⟩ <;> have := eq_of_beq h <;> omega
        have hq : sts c base (i + 1) = embed (sts c base i) x := by rw [hSS]; unfold Exp.step; rw [if_pos hem]
        have hr := hRM (emd_rem hem)
        have HQ := Aside0.mk (And.intro hq (And.intro hr.1.symm hr.2.symm))
        have HEm := Aside0.mk (embed_calls _ w.heap.size g base (sts c base i) _ _ _ _ _ x _ (HST.out.putLv i (-1)) HFi.out (by have := HSZ.out; simpa [World.setCell] using this) hxo)
        have HBX := Aside0.mk (HBW.out.setCell (p := ⟨gl, i, none⟩) HGL.out (.int .i64 (-1)))
        clear hem hxo hq hr hSS hRM hSP hTK hMA hME
        rcases hE with b17 | ⟨b17, b15⟩ | ⟨b17, b15, b18⟩ | ⟨b17, b15, b18, b16⟩
        all_goals
          go_wp2_with (first | (go_at_call 30; refine HEm.out.mono ?_; rintro e w9 ⟨rfl, sv9, lvv9, tyv9, hs9, hb9⟩))
          go_roundg (gk - 1)
          case measure => have := HK.out; have := HLT.out; omega
          case rel => exact ⟨i + 1, by rw [show wrap64 ((i : Int) + 1) = ((i + 1 : Nat) : Int) from by have := HL.out; have := HLT.out; unfold wrap64; omega], ⟨HLT.out⟩, ⟨by have := HK.out; have := HLT.out; omega⟩, ⟨⟨_, _, _, by rw [HQ.out.1, HQ.out.2.1, HQ.out.2.2]; exact hs9, HBX.out.trans hb9⟩⟩⟩
      · have hst1 : Iso.st x = true := by unfold Iso.st; rcases hS with h | ⟨_, h⟩ | ⟨_, _, h⟩ <;> rw [h] <;> simp
        have hxo : x = 20 ∨ x = 21 ∨ x = 22 := by
          rcases hS with h | ⟨_, h⟩ | ⟨_, _, h⟩ <;> have := eq_of_beq h <;> omega
        have hq : sts c base (i + 1) = begin_ (sts c base i) (rt c i) := by rw [hSS]; unfold Exp.step; rw [if_neg (by rw [st_emd hst1]; simp), if_pos hst1]
        have hr := hTK (by rcases hxo with rfl | rfl | rfl <;> rfl) (by omega)
        rw [hMA (by omega)] at hr
        have HQ := Aside0.mk (And.intro hq (And.intro hr.1.symm hr.2.symm))
        obtain ⟨kr, hkr⟩ := HRi.out hst1
        have hmt := Kd.R_reads' (zOf_R HM8.out HST.out)
        have hri := explicit_right.calls kr (some ad) c0 c A8 c8 (Iso.mts c) (i : Int) (rt c i) wr (Kd.C_below HR0.out HBW.out) HC0.out hmt.2.2 (by rw [Iso.mts_length]; exact hmt.2.1) hkr
        rw [Iso.mts_length] at hri
        have HRI := Aside0.mk hri
        have HBe := Aside0.mk (fun V (hb : Below wr.heap.size wr V) => begin_calls _ w.heap.size g base (sts c base i) _ _ _ _ _ i (rt c i) V (HST.out.below hb) HFi.out (Nat.le_trans HSZ.out (below_size hb)) (by rw [lvp_length]; exact HLT.out) (by rw [typ_length]; exact HLT.out))
        clear hst1 hxo hq hr hkr hmt hri hSS hRM hSP hTK hMA hME
        rcases hS with b21 | ⟨b21, b20⟩ | ⟨b21, b20, b22⟩
        all_goals
          go_wp2_with (first | (go_at_call 32; refine HRI.out.mono ?_; rintro e w5 ⟨rfl, hb5⟩; refine of_halt ?_))
          unfold Halt
          have HBX := Aside0.mk hb5
          clear hb5
          go_wp2_with (first | (go_at_call 31; refine (HBe.out _ HBX.out).mono ?_; rintro e w9 ⟨rfl, sv9, lvv9, tyv9, hs9, hb9⟩))
          go_roundg (gk - 1)
          case measure => have := HK.out; have := HLT.out; omega
          case rel => exact ⟨i + 1, by rw [show wrap64 ((i : Int) + 1) = ((i + 1 : Nat) : Int) from by have := HL.out; have := HLT.out; unfold wrap64; omega], ⟨HLT.out⟩, ⟨by have := HK.out; have := HLT.out; omega⟩, ⟨⟨_, _, _, by rw [HQ.out.1, HQ.out.2.1, HQ.out.2.2]; exact hs9, (below_step HBW.out HBX.out).trans hb9⟩⟩⟩
      · have h1 := eq_of_beq h23
        have hq : sts c base (i + 1) = fin (sts c base i) := by rw [hSS, h1]; rfl
        have hr := hTK (by rw [h1]; rfl) (by omega)
        rw [hME h1] at hr
        have HQ := Aside0.mk (And.intro hq (And.intro hr.1.symm hr.2.symm))
        have HEn := Aside0.mk (end_calls _ w.heap.size g base (sts c base i) _ _ _ _ _ i wr HST.out HFi.out HIv.out HSZ.out (by rw [lvp_length]; exact HLT.out) (by rw [typ_length]; exact HLT.out))
        clear h1 hq hr hSS hRM hSP hTK hMA hME
        go_wp2_with (first | (go_at_call 33; refine HEn.out.mono ?_; rintro e w9 ⟨rfl, sv9, lvv9, tyv9, hs9, hb9⟩))
        go_roundg (gk - 1)
        case measure => have := HK.out; have := HLT.out; omega
        case rel => exact ⟨i + 1, by rw [show wrap64 ((i : Int) + 1) = ((i + 1 : Nat) : Int) from by have := HL.out; have := HLT.out; unfold wrap64; omega], ⟨HLT.out⟩, ⟨by have := HK.out; have := HLT.out; omega⟩, ⟨⟨_, _, _, by rw [HQ.out.1, HQ.out.2.1, HQ.out.2.2]; exact hs9, HBW.out.trans hb9⟩⟩⟩
      · have h1 := eq_of_beq h19
        have hq : sts c base (i + 1) = pop (sts c base i) := by rw [hSS, h1]; rfl
        have hr := hRM (by rw [h1]; rfl)
        have HQ := Aside0.mk (And.intro hq (And.intro hr.1.symm hr.2.symm))
        have HPo := Aside0.mk (pop_calls _ w.heap.size g base (sts c base i) _ _ _ _ _ _ (HST.out.putLv i (-1)) HFi.out HIv.out (by rcases HBS.out with h | h <;> omega) (by have := HSZ.out; simpa [World.setCell] using this))
        have HBX := Aside0.mk (HBW.out.setCell (p := ⟨gl, i, none⟩) HGL.out (.int .i64 (-1)))
        clear h1 hq hr hSS hRM hSP hTK hMA hME
        go_wp2_with (first | (go_at_call 34; refine HPo.out.mono ?_; rintro e w9 ⟨rfl, sv9, lvv9, tyv9, hs9, hb9⟩))
        go_roundg (gk - 1)
        case measure => have := HK.out; have := HLT.out; omega
        case rel => exact ⟨i + 1, by rw [show wrap64 ((i : Int) + 1) = ((i + 1 : Nat) : Int) from by have := HL.out; have := HLT.out; unfold wrap64; omega], ⟨HLT.out⟩, ⟨by have := HK.out; have := HLT.out; omega⟩, ⟨⟨_, _, _, by rw [HQ.out.1, HQ.out.2.1, HQ.out.2.2]; exact hs9, HBX.out.trans hb9⟩⟩⟩
      · have h1 := eq_of_beq h10
        have hq : sts c base (i + 1) = sts c base i := by rw [hSS, h1]; rfl
        have hr := hRM (by rw [h1]; rfl)
        have HQ := Aside0.mk (And.intro hq (And.intro hr.1.symm hr.2.symm))
        clear h1 hq hr hSS hRM hSP hTK hMA hME
        go_wp2
        go_roundg (gk - 1)
        case measure => have := HK.out; have := HLT.out; omega
        case rel => exact ⟨i + 1, by rw [show wrap64 ((i : Int) + 1) = ((i + 1 : Nat) : Int) from by have := HL.out; have := HLT.out; unfold wrap64; omega], ⟨HLT.out⟩, ⟨by have := HK.out; have := HLT.out; omega⟩, ⟨⟨_, _, _, by rw [HQ.out.1, HQ.out.2.1, HQ.out.2.2]; exact HST.out.putLv i (-1), HBW.out.setCell (p := ⟨gl, i, none⟩) HGL.out (.int .i64 (-1))⟩⟩⟩
      · have h1 := eq_of_beq h11
        have hq : sts c base (i + 1) = sts c base i := by rw [hSS, h1]; rfl
        have hr := hSP h1
        have HQ := Aside0.mk (And.intro hq (And.intro hr.1.symm hr.2.symm))
        clear h1 hq hr hSS hRM hSP hTK hMA hME
        go_wp2
        go_roundg (gk - 1)
        case measure => have := HK.out; have := HLT.out; omega
        case rel => exact ⟨i + 1, by rw [show wrap64 ((i : Int) + 1) = ((i + 1 : Nat) : Int) from by have := HL.out; have := HLT.out; unfold wrap64; omega], ⟨HLT.out⟩, ⟨by have := HK.out; have := HLT.out; omega⟩, ⟨⟨_, _, _, by rw [HQ.out.1, HQ.out.2.1, HQ.out.2.2]; exact HST.out.putLv i base, HBW.out.setCell (p := ⟨gl, i, none⟩) HGL.out (.int .i64 base)⟩⟩⟩
      · have hem : emd x = false := by unfold emd; rw [n17, n15, n18, n16]; rfl
        have hsx : Iso.st x = false := by unfold Iso.st; rw [n20, n21, n22]; rfl
        have hq : sts c base (i + 1) = sts c base i := by
          rw [hSS]; unfold Exp.step
          rw [if_neg (by rw [hem]; simp), if_neg (by rw [hsx]; simp), if_neg (beq_eq_false_iff_ne.1 n23), if_neg (beq_eq_false_iff_ne.1 n19)]
        have hr := hTK (by unfold rem; rw [n17, n15, n18, n16, n19, n10]; rfl) (beq_eq_false_iff_ne.1 n11)
        rw [hMA (beq_eq_false_iff_ne.1 n23)] at hr
        have HQ := Aside0.mk (And.intro hq (And.intro hr.1.symm hr.2.symm))
        have HTk := Aside0.mk (take_calls _ w.heap.size g base (sts c base i) _ _ _ _ _ i wr HST.out HFi.out.ne (by rw [lvp_length]; exact HLT.out) (by rw [typ_length]; exact HLT.out) HSZ.out)
        clear hem hsx hq hr hSS hRM hSP hTK hMA hME
        go_wp2_with (first | (go_at_call 35; refine HTk.out.mono ?_; rintro e w9 ⟨rfl, sv9, lvv9, tyv9, hs9, hb9⟩))
        go_roundg (gk - 1)
        case measure => have := HK.out; have := HLT.out; omega
        case rel => exact ⟨i + 1, by rw [show wrap64 ((i : Int) + 1) = ((i + 1 : Nat) : Int) from by have := HL.out; have := HLT.out; unfold wrap64; omega], ⟨HLT.out⟩, ⟨by have := HK.out; have := HLT.out; omega⟩, ⟨⟨_, _, _, by rw [HQ.out.1, HQ.out.2.1, HQ.out.2.2]; exact hs9, HBW.out.trans hb9⟩⟩⟩
    · obtain rfl : i = c.length := by have := HI.out; omega
      have p3 : decide ((c.length : Int) < (c.length : Int)) = false := decide_eq_false (by omega)
      have p4 : decide (c.length < c.length) = false := decide_eq_false (by omega)
      have HST := Aside0.mk hst
      have HBW := Aside0.mk hbw
      have hc7 := hst.cells.2.2.2.2.2.2.2.1
      have hc8 := hst.cells.2.2.2.2.2.2.2.2
      clear hst hbw hlt
      go_wp2
      go_quiet (fail)
      go_wp2
      go_ret3
      have h2 := fun m => HST.out.below (pw_below_drewN (Below.refl wr.heap.size wr) m)
      exact ⟨_, _, rfl, by rw [← lvp_all]; exact Kd.R_mono (h2 _).lvs (fun _ hk => hk.2), by rw [← typ_all]; exact Kd.R_mono (h2 _).tys (fun _ hk => hk.2), HBW.out.trans (pw_below_drewN (Below.refl _ _) _)⟩
end Go.Proofs.Yteldofimjklckaa.G
/- explicit.Resolve. By hand. -/
namespace Go.Proofs.Yteldofimjklckaa.G
open Go.RowKit Go.Proofs.Yteldofimjklckaa.X Go.Proofs.YteldofimjklckaaW.PrintWords Go.Proofs.YteldofimjklckaaW.PrintLast Go.Proofs.YteldofimjklckaaW.PrintMore Go.Proofs.Yteldofimjklckaa.Exp
set_option linter.unusedVariables false
set_option linter.unusedSimpArgs false

set_option maxHeartbeats 16000000 in
set_option maxRecDepth 100000 in
theorem res_mainB (A0 : Option Addr) (c0 : Nat) (c : List Int) (base : Int) (w : World) (hr0 : Kd.C (Kd.int .i64) w A0 c.length c) (hc0 : c.length ≤ c0) (hl : c.length ≤ 17592186043904) (hB : base = 0 ∨ base = 1) (hf : formedB c = true) (hb : (base != 0) = true ∧ (base != 1) = false) :
    Calls Try.prog 16 #[.slice A0 c.length c0, .int .i64 base] w (ResPost (lvs c base) (tys c base) 0 w) := by
  have info3 : (Try.prog.info? 3).map (fun i => (i.zero, i.size, i.bytes)) = some (some (.int .i64 0), 1, 8) := by kernel_rfl
  obtain ⟨kf, hkf⟩ := Ev.rounds (formed_ev c hl)
  rw [hf] at hkf
  obtain ⟨km, hkm⟩ := Ev.rounds (Iso.Match_ev c hl)
  have HKF := Aside0.mk hkf
  have HKM := Aside0.mk hkm
  have HR0 := Aside0.mk hr0
  have HC0 := Aside0.mk hc0
  have HL := Aside0.mk hl
  have HFO := Aside0.mk hf
  have HBS := Aside0.mk hB
  have q0 : 0 ≤ (c.length : Int) := Int.natCast_nonneg _
  clear hkf hkm hr0 hc0 hl hf hB
  obtain ⟨b1, b2⟩ := hb
  go_enter Try.func16, Try.ntmps16
  go_upto_region 5 with (first | (go_at_call 29; refine (explicit_formed.calls kf A0 c0 c true _ HR0.out HC0.out HKF.out).mono ?_; rintro e w1 ⟨rfl, hd1⟩))
  have HB1 := Aside0.mk hd1.below
  have hp1 := hd1.below.size
  have HZ1 := Aside0.mk hp1
  clear hd1 hp1
  have Z1' : w.heap.size ≤ (World.drew w1).heap.size := drew_le HZ1.out
  refine start_ (n := 11) (S := fun w' => True) (ds := []) #[false, false, false, false, false, false, false, false, false, false, false] (by kernel_rfl) rfl rfl trivial (fun hHeld => ?_)
  refine pure_ (i := 0) (N := some 22) (v := ?_) (a' := ?_) #[true, false, false, false, false, false, false, false, false, false, false] rfl rfl (by kernel_rfl) (fun _ _ _ h => h) (Or.inl ⟨by rfl, ?_⟩) ?_ ?_
  rotate_left
  · intro w'
    go_simp
    with_reducible rfl
  rotate_left
  · simp only [Act.put, List.setIfInBounds_toArray, List.set_cons_zero, List.set_cons_succ, i64_w, i32_w]
    rfl
  refine pure_ (i := 1) (N := some 23) (v := ?_) (a' := ?_) #[true, true, false, false, false, false, false, false, false, false, false] rfl rfl (by kernel_rfl) (fun _ _ _ h => h) (Or.inl ⟨by rfl, ?_⟩) ?_ ?_
  rotate_left
  · intro w'
    go_simp
    with_reducible rfl
  rotate_left
  · simp only [Act.put, List.setIfInBounds_toArray, List.set_cons_zero, List.set_cons_succ, i64_w, i32_w]
    rfl
  refine pure_ (i := 2) (N := some 24) (v := ?_) (a' := ?_) #[true, true, true, false, false, false, false, false, false, false, false] rfl rfl (by kernel_rfl) (fun _ _ _ h => h) (Or.inl ⟨by rfl, ?_⟩) ?_ ?_
  rotate_left
  · intro w'
    go_simp
    with_reducible rfl
  rotate_left
  · simp only [Act.put, List.setIfInBounds_toArray, List.set_cons_zero, List.set_cons_succ, i64_w, i32_w]
    rfl
  refine pure_ (i := 3) (N := some 25) (v := ?_) (a' := ?_) #[true, true, true, true, false, false, false, false, false, false, false] rfl rfl (by kernel_rfl) (fun _ _ _ h => h) (Or.inl ⟨by rfl, ?_⟩) ?_ ?_
  rotate_left
  · intro w'
    go_simp
    with_reducible rfl
  rotate_left
  · simp only [Act.put, List.setIfInBounds_toArray, List.set_cons_zero, List.set_cons_succ, i64_w, i32_w]
    rfl
  refine pure_ (i := 6) (N := some 28) (v := ?_) (a' := ?_) #[true, true, true, true, false, false, true, false, false, false, false] rfl rfl (by kernel_rfl) (fun _ _ _ h => h) (Or.inl ⟨by rfl, ?_⟩) ?_ ?_
  rotate_left
  · intro w'
    go_simp
    with_reducible rfl
  rotate_left
  · simp only [Act.put, List.setIfInBounds_toArray, List.set_cons_zero, List.set_cons_succ, i64_w, i32_w]
    rfl
  refine join_ (σ := Value × Value × Value) 3 #[true, true, true, true, true, true, true, true, false, false, false] (fun s => [(26, s.1), (27, s.2.1), (29, s.2.2)]) (fun s w' => ∃ b, Kd.R (Kd.int .i64) 3 w' w.heap.size (fun k => k = b) s.1 (List.replicate c.length 0) ∧ Kd.R (Kd.int .i64) 3 w' w.heap.size (fun k => k ≠ b) s.2.2 c ∧ Below w.heap.size w w' ∧ w.heap.size ≤ w'.heap.size) ?_ ?_
  rotate_left
  · intro hCont
    refine two_ (i := 4) (j := 5) (Ni := some 26) (Nj := some 27) #[true, true, true, true, true, false, true, false, false, false, false] #[true, true, true, true, false, true, true, false, false, false, false] rfl rfl rfl rfl (by kernel_rfl) (by decide) (by decide) (fun K hK => ?_) (fun K hK => ?_)
    · skip
      refine Kd.R_make_step (Kd.int .i64) (w0 := w) w.heap.size 3 (by rfl) (N := 26) (by rfl) 22 (.tmp 25) (.tmp 25) (by rfl) (c.length : Int) (by rfl) (by rfl) Try.underlying22 (.int .i64 0) 8 info3 rfl (by decide) (by decide) 0 (ok := fun k => k = (World.drew w1).heap.size) (okp := fun _ => False) rfl (fun _ hk => hk.elim) rfl q0 (by have := HL.out; rw [Int.toNat_natCast]; omega) (below_drew1 HB1.out) (drew_le HZ1.out) ?_
      intro v4 w4 ho4 hb4 hg4 hn4
      rw [Int.toNat_natCast] at ho4
      have L4 := made_lt ho4 hn4
      have Z4 := grown_le Z1' hg4
      refine hK.out _ _ trivial (fun hHeld => ?_)
      clear hK K
      refine norm_ (a' := ?_) ?_ ?_
      rotate_left
      · show Act.put _ (some 26) _ = _
        simp only [Act.put, List.setIfInBounds_toArray, List.set_cons_zero, List.set_cons_succ, i64_w, i32_w]
        rfl
      refine one_ (i := 5) (N := some 27) #[true, true, true, true, true, true, true, false, false, false, false] rfl rfl (by kernel_rfl) (by decide) (fun K hK => ?_)
      refine Kd.R_lit_step (Kd.int .i64) (w0 := w) w.heap.size 3 (by rfl) (N := 27) (by rfl) (xs := ([] : List Int)) (inner := []) (ok := fun k => k ≠ (World.drew w1).heap.size) (okp := fun _ => False) ?hr (Reps.none _ _) (fun _ hk => hk.elim) (by omega) hb4 Z4 (by simp) ?_
      case hr => first | (go_simp; done) | (go_simp; rfl)
      intro v5 w5 ho5 hb5 hg5 hn5
      have L5 := Kd.R_grown ho4 hg5 (fun _ _ => by simp)
      have Z5 := grown_le Z4 hg5
      refine hK.out _ _ trivial (fun hHeld => ?_)
      clear hK K
      refine norm_ (a' := ?_) ?_ ?_
      rotate_left
      · show Act.put _ (some 27) _ = _
        simp only [Act.put, List.setIfInBounds_toArray, List.set_cons_zero, List.set_cons_succ, i64_w, i32_w]
        rfl
      refine one_ (i := 7) (N := some 29) #[true, true, true, true, true, true, true, true, false, false, false] rfl rfl (by kernel_rfl) (by decide) (fun K hK => ?_)
      refine step_append_row .i64 (w0 := w) w.heap.size (by rfl) (.tmp 27) (.tmp 28) 22 3 8 (by rfl) Try.underlying22 info3 (by decide) v5 [] c A0 c.length c0 (fun k => k ≠ (World.drew w1).heap.size) (by rfl) (by rfl) (fun k hk => by have := grown_le (Nat.le_refl _) hg5; omega) ho5 (Kd.C_below HR0.out hb5) hb5 Z5 (by have := HL.out; simp; omega) ?_
      intro v7 w7 ho7 hb7 hg7 hn7
      rw [List.nil_append] at ho7
      have L7 := Kd.R_grown L5 hg7 (fun k hk e => ho5.1 k e.symm hk)
      have Z7 := grown_le Z5 hg7
      refine hK.out _ _ trivial (fun hHeld => ?_)
      clear hK K
      refine norm_ (a' := ?_) ?_ ?_
      rotate_left
      · show Act.put _ (some 29) _ = _
        simp only [Act.put, List.setIfInBounds_toArray, List.set_cons_zero, List.set_cons_succ, i64_w, i32_w]
        rfl
      exact norm_ (by simp only [putAll, Act.put, List.setIfInBounds_toArray, List.set_cons_zero, List.set_cons_succ]) (hCont (v4, v5, v7) _ ⟨_, L7, ho7, hb7, Z7⟩)
    · skip
      refine Kd.R_lit_step (Kd.int .i64) (w0 := w) w.heap.size 3 (by rfl) (N := 27) (by rfl) (xs := ([] : List Int)) (inner := []) (ok := fun _ => True) (okp := fun _ => False) ?hr (Reps.none _ _) (fun _ hk => hk.elim) (trivial) (below_drew1 HB1.out) (drew_le HZ1.out) (by simp) ?_
      case hr => first | (go_simp; done) | (go_simp; rfl)
      intro v5 w5 ho5 hb5 hg5 hn5
      have Z5 := grown_le Z1' hg5
      refine hK.out _ _ trivial (fun hHeld => ?_)
      clear hK K
      refine norm_ (a' := ?_) ?_ ?_
      rotate_left
      · show Act.put _ (some 27) _ = _
        simp only [Act.put, List.setIfInBounds_toArray, List.set_cons_zero, List.set_cons_succ, i64_w, i32_w]
        rfl
      refine two_ (i := 4) (j := 7) (Ni := some 26) (Nj := some 29) #[true, true, true, true, true, true, true, false, false, false, false] #[true, true, true, true, false, true, true, true, false, false, false] rfl rfl rfl rfl (by kernel_rfl) (by decide) (by decide) (fun K hK => ?_) (fun K hK => ?_)
      · skip
        refine Kd.R_make_step (Kd.int .i64) (w0 := w) w.heap.size 3 (by rfl) (N := 26) (by rfl) 22 (.tmp 25) (.tmp 25) (by rfl) (c.length : Int) (by rfl) (by rfl) Try.underlying22 (.int .i64 0) 8 info3 rfl (by decide) (by decide) 0 (ok := fun k => k = w5.heap.size) (okp := fun _ => False) rfl (fun _ hk => hk.elim) rfl q0 (by have := HL.out; rw [Int.toNat_natCast]; omega) hb5 Z5 ?_
        intro v4 w4 ho4 hb4 hg4 hn4
        rw [Int.toNat_natCast] at ho4
        have L4 := made_lt ho4 hn4
        have Z4 := grown_le Z5 hg4
        have T4 := Kd.R_mono (Kd.R_grown (Kd.R_bound ho5) hg4 (fun _ _ => by simp)) (ok' := fun k => k ≠ w5.heap.size) (fun k hk => by have := hk.2.2.1; omega)
        refine hK.out _ _ trivial (fun hHeld => ?_)
        clear hK K
        refine norm_ (a' := ?_) ?_ ?_
        rotate_left
        · show Act.put _ (some 26) _ = _
          simp only [Act.put, List.setIfInBounds_toArray, List.set_cons_zero, List.set_cons_succ, i64_w, i32_w]
          rfl
        refine one_ (i := 7) (N := some 29) #[true, true, true, true, true, true, true, true, false, false, false] rfl rfl (by kernel_rfl) (by decide) (fun K hK => ?_)
        refine step_append_row .i64 (w0 := w) w.heap.size (by rfl) (.tmp 27) (.tmp 28) 22 3 8 (by rfl) Try.underlying22 info3 (by decide) v5 [] c A0 c.length c0 (fun k => k ≠ w5.heap.size) (by rfl) (by rfl) (fun k hk => by omega) T4 (Kd.C_below HR0.out hb4) hb4 Z4 (by have := HL.out; simp; omega) ?_
        intro v7 w7 ho7 hb7 hg7 hn7
        rw [List.nil_append] at ho7
        have L7 := Kd.R_grown ho4 hg7 (fun k hk e => T4.1 k e.symm hk)
        have Z7 := grown_le Z4 hg7
        refine hK.out _ _ trivial (fun hHeld => ?_)
        clear hK K
        refine norm_ (a' := ?_) ?_ ?_
        rotate_left
        · show Act.put _ (some 29) _ = _
          simp only [Act.put, List.setIfInBounds_toArray, List.set_cons_zero, List.set_cons_succ, i64_w, i32_w]
          rfl
        exact norm_ (by simp only [putAll, Act.put, List.setIfInBounds_toArray, List.set_cons_zero, List.set_cons_succ]) (hCont (v4, v5, v7) _ ⟨_, L7, ho7, hb7, Z7⟩)
      · skip
        refine step_append_row .i64 (w0 := w) w.heap.size (by rfl) (.tmp 27) (.tmp 28) 22 3 8 (by rfl) Try.underlying22 info3 (by decide) v5 [] c A0 c.length c0 (fun _ => True) (by rfl) (by rfl) (fun _ _ => trivial) ho5 (Kd.C_below HR0.out hb5) hb5 Z5 (by have := HL.out; simp; omega) ?_
        intro v7 w7 ho7 hb7 hg7 hn7
        rw [List.nil_append] at ho7
        have Z7 := grown_le Z5 hg7
        refine hK.out _ _ trivial (fun hHeld => ?_)
        clear hK K
        refine norm_ (a' := ?_) ?_ ?_
        rotate_left
        · show Act.put _ (some 29) _ = _
          simp only [Act.put, List.setIfInBounds_toArray, List.set_cons_zero, List.set_cons_succ, i64_w, i32_w]
          rfl
        refine one_ (i := 4) (N := some 26) #[true, true, true, true, true, true, true, true, false, false, false] rfl rfl (by kernel_rfl) (by decide) (fun K hK => ?_)
        refine Kd.R_make_step (Kd.int .i64) (w0 := w) w.heap.size 3 (by rfl) (N := 26) (by rfl) 22 (.tmp 25) (.tmp 25) (by rfl) (c.length : Int) (by rfl) (by rfl) Try.underlying22 (.int .i64 0) 8 info3 rfl (by decide) (by decide) 0 (ok := fun k => k = w7.heap.size) (okp := fun _ => False) rfl (fun _ hk => hk.elim) rfl q0 (by have := HL.out; rw [Int.toNat_natCast]; omega) hb7 Z7 ?_
        intro v4 w4 ho4 hb4 hg4 hn4
        rw [Int.toNat_natCast] at ho4
        have Z4 := grown_le Z7 hg4
        have T4 := Kd.R_mono (Kd.R_grown (Kd.R_bound ho7) hg4 (fun _ _ => by simp)) (ok' := fun k => k ≠ w7.heap.size) (fun k hk => by have := hk.2.2.1; omega)
        refine hK.out _ _ trivial (fun hHeld => ?_)
        clear hK K
        refine norm_ (a' := ?_) ?_ ?_
        rotate_left
        · show Act.put _ (some 26) _ = _
          simp only [Act.put, List.setIfInBounds_toArray, List.set_cons_zero, List.set_cons_succ, i64_w, i32_w]
          rfl
        exact norm_ (by simp only [putAll, Act.put, List.setIfInBounds_toArray, List.set_cons_zero, List.set_cons_succ]) (hCont (v4, v5, v7) _ ⟨_, ho4, T4, hb4, Z4⟩)
  rintro ⟨lvv, u27, tyv⟩ w' ⟨b, HRl, HRt, HB5, HZ5⟩
  dsimp only at HRl HRt
  obtain ⟨Al, ml, cl, hml, rfl⟩ : ∃ A m c', m = c.length ∧ lvv = .slice A m c' := by obtain ⟨A, c', e⟩ := Kd.R_slice HRl; exact ⟨A, _, c', List.length_replicate, e⟩
  subst hml
  obtain ⟨At, ct, rfl⟩ := Kd.R_slice HRt
  have hHeld : True := trivial
  refine norm_ (a' := ?_) ?_ ?_
  rotate_left
  · simp only [putAll, Act.put, List.setIfInBounds_toArray, List.set_cons_zero, List.set_cons_succ]
    rfl
  refine pure_ (i := 8) (N := some 30) (v := ?_) (a' := ?_) #[true, true, true, true, true, true, true, true, true, false, false] rfl rfl (by kernel_rfl) (fun _ _ _ h => h) (Or.inl ⟨by rfl, ?_⟩) ?_ ?_
  rotate_left
  · intro w'
    go_simp
    with_reducible rfl
  rotate_left
  · simp only [Act.put, List.setIfInBounds_toArray, List.set_cons_zero, List.set_cons_succ, i64_w, i32_w]
    rfl
  refine one_ (i := 9) (N := some 31) #[true, true, true, true, true, true, true, true, true, true, false] rfl rfl (by kernel_rfl) (by decide) (fun K hK => ?_)
  refine value_ (w1 := ?_) (v := ?_) (by rfl) rfl ?_ ?_
  rotate_left 2
  · go_simp
    constructor
    · rfl
    · rfl
  refine hK.out _ _ trivial (fun hHeld => ?_)
  clear hK K
  refine norm_ (a' := ?_) ?_ ?_
  rotate_left
  · show Act.put _ (some 31) _ = _
    simp only [Act.put, List.setIfInBounds_toArray, List.set_cons_zero, List.set_cons_succ, i64_w, i32_w]
    rfl
  refine pure_ (i := 10) (N := some 7) (v := ?_) (a' := ?_) #[true, true, true, true, true, true, true, true, true, true, true] rfl rfl (by kernel_rfl) (fun _ _ _ h => h) (Or.inl ⟨by rfl, ?_⟩) ?_ ?_
  rotate_left
  · intro w'
    go_simp
    with_reducible rfl
  rotate_left
  · simp only [Act.put, List.setIfInBounds_toArray, List.set_cons_zero, List.set_cons_succ, i64_w, i32_w]
    rfl
  refine done_ (by kernel_rfl) ?_
  have hbk := blk_new w' (Obj.cells #[.slice none 0 0, .int .i64 base, .int .i64 0, .bool false, .int .i64 0, .int .i64 0, .int .i64 0, .slice Al c.length cl, .slice At c.length ct] 56)
  have hB6 := below_alloc HB5 (Obj.cells #[.slice none 0 0, .int .i64 base, .int .i64 0, .bool false, .int .i64 0, .int .i64 0, .int .i64 0, .slice Al c.length cl, .slice At c.length ct] 56)
  have HRl6 := Kd.R_alloc HRl (Obj.cells #[.slice none 0 0, .int .i64 base, .int .i64 0, .bool false, .int .i64 0, .int .i64 0, .int .i64 0, .slice Al c.length cl, .slice At c.length ct] 56)
  have HRt6 := Kd.R_alloc HRt (Obj.cells #[.slice none 0 0, .int .i64 base, .int .i64 0, .bool false, .int .i64 0, .int .i64 0, .int .i64 0, .slice Al c.length cl, .slice At c.length ct] 56)
  have HLl := Aside0.mk (apart_of HRl6 HRt6 (fun k a b => b a))
  have HLt := Aside0.mk (apart_of HRt6 HRl6 (fun k a b => a b))
  have HBK := Aside0.mk hbk
  have HB6 := Aside0.mk hB6
  have HGE := Aside0.mk HZ5
  have hz6 : w.heap.size ≤ (w'.alloc (Obj.cells #[.slice none 0 0, .int .i64 base, .int .i64 0, .bool false, .int .i64 0, .int .i64 0, .int .i64 0, .slice Al c.length cl, .slice At c.length ct] 56)).heap.size := by have := blk_lt hbk; omega
  have HZ6 := Aside0.mk hz6
  have hx1 := (blk_cell hbk 1).trans (show _ = some (.int .i64 base : Value) from rfl)
  have hx2 := (blk_cell hbk 2).trans (show _ = some (.int .i64 0 : Value) from rfl)
  have hx3 := (blk_cell hbk 3).trans (show _ = some (.bool false : Value) from rfl)
  clear HB1 HZ1 Z1' HRl HRt HB5 HZ5 hbk hB6 HRl6 HRt6 hz6
  generalize w'.alloc (Obj.cells #[.slice none 0 0, .int .i64 base, .int .i64 0, .bool false, .int .i64 0, .int .i64 0, .int .i64 0, .slice Al c.length cl, .slice At c.length ct] 56) = W6 at *
  generalize w'.heap.size = g at *
  have hbk7 := blk_alloc HBK.out (Obj.cells #[.int .i64 base, .int .i64 0, .bool false] 53)
  have hy0 := (blk_cell hbk7 0).trans (show _ = some (.slice none 0 0 : Value) from rfl)
  have hz0 := blk_frozen hbk7 0
  have HST7 := Aside0.mk (St.start HBK.out HGE.out HZ6.out HLl.out HLt.out)
  have HB7 := Aside0.mk ((below_alloc HB6.out (Obj.cells #[.int .i64 base, .int .i64 0, .bool false] 53)).setCell (p := ⟨g, 0, none⟩) HGE.out (.slice (some ⟨W6.heap.size, 0, none⟩) 1 1))
  clear hbk7 HLl HLt HBK
  go_wp2_with (first | (go_at_call 17; refine of_halt ?_))
  unfold Halt
  clear hx1 hx2 hx3 hy0 hz0
  generalize ((W6.alloc (Obj.cells #[.int .i64 base, .int .i64 0, .bool false] 53)).setCell ⟨g, 0, none⟩ (.slice (some ⟨W6.heap.size, 0, none⟩) 1 1)) = W7 at *
  refine (isolate_Match.calls km A0 c0 c (Iso.mts c) _ (Kd.C_below HR0.out HB7.out) HC0.out HKM.out).mono ?_
  rintro e w8 ⟨v8, rfl, ho8, hb8⟩
  dsimp only
  obtain ⟨A8, m8, c8, hm8, rfl⟩ : ∃ A m c', m = c.length ∧ v8 = .slice A m c' := by obtain ⟨A, c', e⟩ := Kd.R_slice ho8; exact ⟨A, _, c', Iso.mts_length c, e⟩
  subst hm8
  have HST8 := Aside0.mk (St.meet HST7.out hb8 (zOf (.slice A8 c.length c8) w8) (fun k o e => ⟨Kd.R_base ho8 k (zOf_some e).1.symm, (zOf_some e).2⟩))
  have HB8 := Aside0.mk (below_step HB7.out hb8)
  have HM8 := Aside0.mk ho8
  clear ho8 hb8 HST7 HB7 HB6 HZ6
  go_wp2
  go_loopg [44] (c.length + 1) (fun kq v44 w' => ∃ i : Nat, v44 = .int .i64 (i : Int) ∧ Aside0 (i ≤ c.length) ∧ Aside0 (kq + i = c.length + 1) ∧ Aside0 (∃ sv lvv tyv, St (zOf (.slice A8 c.length c8) w8) w.heap.size g base (sts c base i) (lvp c base i) (typ c base i) sv lvv tyv w' ∧ Below w.heap.size w w'))
  case atStart => exact ⟨0, rfl, ⟨Nat.zero_le _⟩, ⟨rfl⟩, ⟨⟨_, _, _, by rw [lvp_zero, typ_zero]; exact HST8.out, HB8.out⟩⟩⟩
  case round =>
    obtain ⟨i, rfl, HI, HK, ⟨sv, lvv, tyv, hst, hbw⟩⟩ := hrel
    clear HST8 HB8
    by_cases hlt : i < c.length
    · obtain ⟨ad, e, hx⟩ := Kd.at_int (Kd.C_below HR0.out hbw) (i : Int) (by omega) (by omega)
      cases e
      rw [Int.toNat_natCast, Iso.rd_nat] at hx
      have HRi := Aside0.mk (fun hs : Iso.st (c.getD i 0) = true => Ev.rounds (right_ev c HL.out i hlt hs))
      have HFi := Aside0.mk (fits c HBS.out HL.out i (by omega))
      have HIv := Aside0.mk (sts_inv c (base := base) (by rcases HBS.out with h | h <;> omega) i)
      have hsz := below_size hbw
      obtain ⟨gl, cl1, e, hgl, _⟩ := Kd.R_form hst.lvs (by rw [lvp_length]; omega)
      have hlv := hst.lvs
      rw [e] at hlv
      rw [lvp_length] at e
      subst e
      obtain ⟨hcl, hclz⟩ := Kd.R_cell 0 hlv (i : Int) (by omega) (by rw [lvp_length]; omega)
      rw [Int.toNat_natCast] at hcl hclz
      have hc7 := hst.cells.2.2.2.2.2.2.2.1
      have p1 : ((i : Int) < (c.length : Int)) = True := eq_true (by omega)
      have p2 : (i < c.length) = True := eq_true hlt
      have p3 : decide ((i : Int) < (c.length : Int)) = true := decide_eq_true (by omega)
      have p4 : decide (i < c.length) = true := decide_eq_true hlt
      have HST := Aside0.mk hst
      have HBW := Aside0.mk hbw
      have HSZ := Aside0.mk hsz
      have HGL := Aside0.mk hgl
      have HLT := Aside0.mk hlt
      have hSS := sts_succ c base i
      have hRM := one_rem c base i hlt
      have hSP := one_sep c base i hlt
      have hTK := one_take c HBS.out i hlt
      have hMA := met_at c base i
      have hME := met_end c base i
      obtain ⟨x, hxx⟩ : ∃ x, c.getD i 0 = x := ⟨_, rfl⟩
      rw [hxx] at hx hSS hRM hSP hTK hMA hME HRi
      have hcase : ((x == 17) = true ∨ (x == 17) = false ∧ (x == 15) = true ∨ (x == 17) = false ∧ (x == 15) = false ∧ (x == 18) = true ∨ (x == 17) = false ∧ (x == 15) = false ∧ (x == 18) = false ∧ (x == 16) = true) ∨
          (x == 17) = false ∧ (x == 15) = false ∧ (x == 18) = false ∧ (x == 16) = false ∧ (((x == 21) = true ∨ (x == 21) = false ∧ (x == 20) = true ∨ (x == 21) = false ∧ (x == 20) = false ∧ (x == 22) = true) ∨
            (x == 21) = false ∧ (x == 20) = false ∧ (x == 22) = false ∧ ((x == 23) = true ∨ (x == 23) = false ∧ ((x == 19) = true ∨ (x == 19) = false ∧ ((x == 10) = true ∨ (x == 10) = false ∧ ((x == 11) = true ∨ (x == 11) = false))))) := by
        cases (x == 17) <;> cases (x == 15) <;> cases (x == 18) <;> cases (x == 16) <;> cases (x == 21) <;> cases (x == 20) <;> cases (x == 22) <;> cases (x == 23) <;> cases (x == 19) <;> cases (x == 10) <;> cases (x == 11) <;> simp
      clear hst hbw hsz hgl hlt hxx hlv
      rcases hcase with hE | ⟨n17, n15, n18, n16, hS | ⟨n21, n20, n22, h23 | ⟨n23, h19 | ⟨n19, h10 | ⟨n10, h11 | n11⟩⟩⟩⟩⟩
      · have hem : emd x = true := by unfold emd; rcases hE with h | ⟨_, h⟩ | ⟨_, _, h⟩ | ⟨_, _, _, h⟩ <;> rw [h] <;> simp
        have hxo : x = 15 ∨ x = 16 ∨ x = 17 ∨ x = 18 := by
          rcases hE with h | ⟨_, h⟩ | ⟨_, _, h⟩ | ⟨_, _, _, h⟩ <;> have := eq_of_beq h <;> omega
        have hq : sts c base (i + 1) = embed (sts c base i) x := by rw [hSS]; unfold Exp.step; rw [if_pos hem]
        have hr := hRM (emd_rem hem)
        have HQ := Aside0.mk (And.intro hq (And.intro hr.1.symm hr.2.symm))
        have HEm := Aside0.mk (embed_calls _ w.heap.size g base (sts c base i) _ _ _ _ _ x _ (HST.out.putLv i (-1)) HFi.out (by have := HSZ.out; simpa [World.setCell] using this) hxo)
        have HBX := Aside0.mk (HBW.out.setCell (p := ⟨gl, i, none⟩) HGL.out (.int .i64 (-1)))
        clear hem hxo hq hr hSS hRM hSP hTK hMA hME
        rcases hE with b17 | ⟨b17, b15⟩ | ⟨b17, b15, b18⟩ | ⟨b17, b15, b18, b16⟩
        all_goals
          go_wp2_with (first | (go_at_call 30; refine HEm.out.mono ?_; rintro e w9 ⟨rfl, sv9, lvv9, tyv9, hs9, hb9⟩))
          go_roundg (gk - 1)
          case measure => have := HK.out; have := HLT.out; omega
          case rel => exact ⟨i + 1, by rw [show wrap64 ((i : Int) + 1) = ((i + 1 : Nat) : Int) from by have := HL.out; have := HLT.out; unfold wrap64; omega], ⟨HLT.out⟩, ⟨by have := HK.out; have := HLT.out; omega⟩, ⟨⟨_, _, _, by rw [HQ.out.1, HQ.out.2.1, HQ.out.2.2]; exact hs9, HBX.out.trans hb9⟩⟩⟩
      · have hst1 : Iso.st x = true := by unfold Iso.st; rcases hS with h | ⟨_, h⟩ | ⟨_, _, h⟩ <;> rw [h] <;> simp
        have hxo : x = 20 ∨ x = 21 ∨ x = 22 := by
          rcases hS with h | ⟨_, h⟩ | ⟨_, _, h⟩ <;> have := eq_of_beq h <;> omega
        have hq : sts c base (i + 1) = begin_ (sts c base i) (rt c i) := by rw [hSS]; unfold Exp.step; rw [if_neg (by rw [st_emd hst1]; simp), if_pos hst1]
        have hr := hTK (by rcases hxo with rfl | rfl | rfl <;> rfl) (by omega)
        rw [hMA (by omega)] at hr
        have HQ := Aside0.mk (And.intro hq (And.intro hr.1.symm hr.2.symm))
        obtain ⟨kr, hkr⟩ := HRi.out hst1
        have hmt := Kd.R_reads' (zOf_R HM8.out HST.out)
        have hri := explicit_right.calls kr (some ad) c0 c A8 c8 (Iso.mts c) (i : Int) (rt c i) wr (Kd.C_below HR0.out HBW.out) HC0.out hmt.2.2 (by rw [Iso.mts_length]; exact hmt.2.1) hkr
        rw [Iso.mts_length] at hri
        have HRI := Aside0.mk hri
        have HBe := Aside0.mk (fun V (hb : Below wr.heap.size wr V) => begin_calls _ w.heap.size g base (sts c base i) _ _ _ _ _ i (rt c i) V (HST.out.below hb) HFi.out (Nat.le_trans HSZ.out (below_size hb)) (by rw [lvp_length]; exact HLT.out) (by rw [typ_length]; exact HLT.out))
        clear hst1 hxo hq hr hkr hmt hri hSS hRM hSP hTK hMA hME
        rcases hS with b21 | ⟨b21, b20⟩ | ⟨b21, b20, b22⟩
        all_goals
          go_wp2_with (first | (go_at_call 32; refine HRI.out.mono ?_; rintro e w5 ⟨rfl, hb5⟩; refine of_halt ?_))
          unfold Halt
          have HBX := Aside0.mk hb5
          clear hb5
          go_wp2_with (first | (go_at_call 31; refine (HBe.out _ HBX.out).mono ?_; rintro e w9 ⟨rfl, sv9, lvv9, tyv9, hs9, hb9⟩))
          go_roundg (gk - 1)
          case measure => have := HK.out; have := HLT.out; omega
          case rel => exact ⟨i + 1, by rw [show wrap64 ((i : Int) + 1) = ((i + 1 : Nat) : Int) from by have := HL.out; have := HLT.out; unfold wrap64; omega], ⟨HLT.out⟩, ⟨by have := HK.out; have := HLT.out; omega⟩, ⟨⟨_, _, _, by rw [HQ.out.1, HQ.out.2.1, HQ.out.2.2]; exact hs9, (below_step HBW.out HBX.out).trans hb9⟩⟩⟩
      · have h1 := eq_of_beq h23
        have hq : sts c base (i + 1) = fin (sts c base i) := by rw [hSS, h1]; rfl
        have hr := hTK (by rw [h1]; rfl) (by omega)
        rw [hME h1] at hr
        have HQ := Aside0.mk (And.intro hq (And.intro hr.1.symm hr.2.symm))
        have HEn := Aside0.mk (end_calls _ w.heap.size g base (sts c base i) _ _ _ _ _ i wr HST.out HFi.out HIv.out HSZ.out (by rw [lvp_length]; exact HLT.out) (by rw [typ_length]; exact HLT.out))
        clear h1 hq hr hSS hRM hSP hTK hMA hME
        go_wp2_with (first | (go_at_call 33; refine HEn.out.mono ?_; rintro e w9 ⟨rfl, sv9, lvv9, tyv9, hs9, hb9⟩))
        go_roundg (gk - 1)
        case measure => have := HK.out; have := HLT.out; omega
        case rel => exact ⟨i + 1, by rw [show wrap64 ((i : Int) + 1) = ((i + 1 : Nat) : Int) from by have := HL.out; have := HLT.out; unfold wrap64; omega], ⟨HLT.out⟩, ⟨by have := HK.out; have := HLT.out; omega⟩, ⟨⟨_, _, _, by rw [HQ.out.1, HQ.out.2.1, HQ.out.2.2]; exact hs9, HBW.out.trans hb9⟩⟩⟩
      · have h1 := eq_of_beq h19
        have hq : sts c base (i + 1) = pop (sts c base i) := by rw [hSS, h1]; rfl
        have hr := hRM (by rw [h1]; rfl)
        have HQ := Aside0.mk (And.intro hq (And.intro hr.1.symm hr.2.symm))
        have HPo := Aside0.mk (pop_calls _ w.heap.size g base (sts c base i) _ _ _ _ _ _ (HST.out.putLv i (-1)) HFi.out HIv.out (by rcases HBS.out with h | h <;> omega) (by have := HSZ.out; simpa [World.setCell] using this))
        have HBX := Aside0.mk (HBW.out.setCell (p := ⟨gl, i, none⟩) HGL.out (.int .i64 (-1)))
        clear h1 hq hr hSS hRM hSP hTK hMA hME
        go_wp2_with (first | (go_at_call 34; refine HPo.out.mono ?_; rintro e w9 ⟨rfl, sv9, lvv9, tyv9, hs9, hb9⟩))
        go_roundg (gk - 1)
        case measure => have := HK.out; have := HLT.out; omega
        case rel => exact ⟨i + 1, by rw [show wrap64 ((i : Int) + 1) = ((i + 1 : Nat) : Int) from by have := HL.out; have := HLT.out; unfold wrap64; omega], ⟨HLT.out⟩, ⟨by have := HK.out; have := HLT.out; omega⟩, ⟨⟨_, _, _, by rw [HQ.out.1, HQ.out.2.1, HQ.out.2.2]; exact hs9, HBX.out.trans hb9⟩⟩⟩
      · have h1 := eq_of_beq h10
        have hq : sts c base (i + 1) = sts c base i := by rw [hSS, h1]; rfl
        have hr := hRM (by rw [h1]; rfl)
        have HQ := Aside0.mk (And.intro hq (And.intro hr.1.symm hr.2.symm))
        clear h1 hq hr hSS hRM hSP hTK hMA hME
        go_wp2
        go_roundg (gk - 1)
        case measure => have := HK.out; have := HLT.out; omega
        case rel => exact ⟨i + 1, by rw [show wrap64 ((i : Int) + 1) = ((i + 1 : Nat) : Int) from by have := HL.out; have := HLT.out; unfold wrap64; omega], ⟨HLT.out⟩, ⟨by have := HK.out; have := HLT.out; omega⟩, ⟨⟨_, _, _, by rw [HQ.out.1, HQ.out.2.1, HQ.out.2.2]; exact HST.out.putLv i (-1), HBW.out.setCell (p := ⟨gl, i, none⟩) HGL.out (.int .i64 (-1))⟩⟩⟩
      · have h1 := eq_of_beq h11
        have hq : sts c base (i + 1) = sts c base i := by rw [hSS, h1]; rfl
        have hr := hSP h1
        have HQ := Aside0.mk (And.intro hq (And.intro hr.1.symm hr.2.symm))
        clear h1 hq hr hSS hRM hSP hTK hMA hME
        go_wp2
        go_roundg (gk - 1)
        case measure => have := HK.out; have := HLT.out; omega
        case rel => exact ⟨i + 1, by rw [show wrap64 ((i : Int) + 1) = ((i + 1 : Nat) : Int) from by have := HL.out; have := HLT.out; unfold wrap64; omega], ⟨HLT.out⟩, ⟨by have := HK.out; have := HLT.out; omega⟩, ⟨⟨_, _, _, by rw [HQ.out.1, HQ.out.2.1, HQ.out.2.2]; exact HST.out.putLv i base, HBW.out.setCell (p := ⟨gl, i, none⟩) HGL.out (.int .i64 base)⟩⟩⟩
      · have hem : emd x = false := by unfold emd; rw [n17, n15, n18, n16]; rfl
        have hsx : Iso.st x = false := by unfold Iso.st; rw [n20, n21, n22]; rfl
        have hq : sts c base (i + 1) = sts c base i := by
          rw [hSS]; unfold Exp.step
          rw [if_neg (by rw [hem]; simp), if_neg (by rw [hsx]; simp), if_neg (beq_eq_false_iff_ne.1 n23), if_neg (beq_eq_false_iff_ne.1 n19)]
        have hr := hTK (by unfold rem; rw [n17, n15, n18, n16, n19, n10]; rfl) (beq_eq_false_iff_ne.1 n11)
        rw [hMA (beq_eq_false_iff_ne.1 n23)] at hr
        have HQ := Aside0.mk (And.intro hq (And.intro hr.1.symm hr.2.symm))
        have HTk := Aside0.mk (take_calls _ w.heap.size g base (sts c base i) _ _ _ _ _ i wr HST.out HFi.out.ne (by rw [lvp_length]; exact HLT.out) (by rw [typ_length]; exact HLT.out) HSZ.out)
        clear hem hsx hq hr hSS hRM hSP hTK hMA hME
        go_wp2_with (first | (go_at_call 35; refine HTk.out.mono ?_; rintro e w9 ⟨rfl, sv9, lvv9, tyv9, hs9, hb9⟩))
        go_roundg (gk - 1)
        case measure => have := HK.out; have := HLT.out; omega
        case rel => exact ⟨i + 1, by rw [show wrap64 ((i : Int) + 1) = ((i + 1 : Nat) : Int) from by have := HL.out; have := HLT.out; unfold wrap64; omega], ⟨HLT.out⟩, ⟨by have := HK.out; have := HLT.out; omega⟩, ⟨⟨_, _, _, by rw [HQ.out.1, HQ.out.2.1, HQ.out.2.2]; exact hs9, HBW.out.trans hb9⟩⟩⟩
    · obtain rfl : i = c.length := by have := HI.out; omega
      have p3 : decide ((c.length : Int) < (c.length : Int)) = false := decide_eq_false (by omega)
      have p4 : decide (c.length < c.length) = false := decide_eq_false (by omega)
      have HST := Aside0.mk hst
      have HBW := Aside0.mk hbw
      have hc7 := hst.cells.2.2.2.2.2.2.2.1
      have hc8 := hst.cells.2.2.2.2.2.2.2.2
      clear hst hbw hlt
      go_wp2
      go_quiet (fail)
      go_wp2
      go_ret3
      have h2 := fun m => HST.out.below (pw_below_drewN (Below.refl wr.heap.size wr) m)
      exact ⟨_, _, rfl, by rw [← lvp_all]; exact Kd.R_mono (h2 _).lvs (fun _ hk => hk.2), by rw [← typ_all]; exact Kd.R_mono (h2 _).tys (fun _ hk => hk.2), HBW.out.trans (pw_below_drewN (Below.refl _ _) _)⟩
end Go.Proofs.Yteldofimjklckaa.G
/- explicit.Resolve. By hand. -/
namespace Go.Proofs.Yteldofimjklckaa.G
open Go.RowKit Go.Proofs.Yteldofimjklckaa.X Go.Proofs.YteldofimjklckaaW.PrintWords Go.Proofs.YteldofimjklckaaW.PrintLast Go.Proofs.YteldofimjklckaaW.PrintMore Go.Proofs.Yteldofimjklckaa.Exp
set_option linter.unusedVariables false
set_option linter.unusedSimpArgs false

set_option maxHeartbeats 16000000 in
set_option maxRecDepth 100000 in
theorem res_bad (A0 : Option Addr) (c0 : Nat) (c : List Int) (base : Int) (w : World) (hB : base ≠ 0 ∧ base ≠ 1) :
    Calls Try.prog 16 #[.slice A0 c.length c0, .int .i64 base] w (ResPost [] [] 2 w) := by
  have b1 : (base != 0) = true := by simpa using hB.1
  have b2 : (base != 1) = true := by simpa using hB.2
  clear hB
  go_enter Try.func16, Try.ntmps16
  go_wp2
  go_ret3
  exact ⟨_, _, rfl, Kd.R_nil _ _ _ _ _, Kd.R_nil _ _ _ _ _, Below.refl _ _⟩
set_option maxHeartbeats 16000000 in
set_option maxRecDepth 100000 in
theorem res_form (A0 : Option Addr) (c0 : Nat) (c : List Int) (base : Int) (w : World) (hr0 : Kd.C (Kd.int .i64) w A0 c.length c) (hc0 : c.length ≤ c0) (hl : c.length ≤ 17592186043904) (hB : base = 0 ∨ base = 1) (hf : formedB c = false) :
    Calls Try.prog 16 #[.slice A0 c.length c0, .int .i64 base] w (ResPost [] [] 50 w) := by
  obtain ⟨kf, hkf⟩ := Ev.rounds (formed_ev c hl)
  rw [hf] at hkf
  have HKF := Aside0.mk hkf
  have HR0 := Aside0.mk hr0
  have HC0 := Aside0.mk hc0
  have hb : (base != 0) = false ∨ (base != 0) = true ∧ (base != 1) = false := by rcases hB with rfl | rfl <;> decide
  clear hkf hr0 hc0 hl hf hB
  rcases hb with b1 | ⟨b1, b2⟩
  all_goals
    go_enter Try.func16, Try.ntmps16
    go_wp2_with (first | (go_at_call 29; refine (explicit_formed.calls kf A0 c0 c false _ HR0.out HC0.out HKF.out).mono ?_; rintro e w1 ⟨rfl, hd1⟩))
    go_ret3
    exact ⟨_, _, rfl, Kd.R_nil _ _ _ _ _, Kd.R_nil _ _ _ _ _, hd1.below⟩
theorem explicit_Resolve.calls (A0 : Option Addr) (c0 : Nat) (l0 : List Int) (a1 : Int) (r1 r2 : List Int) (r3 : Int) (w : World) (hr0 : Kd.C (Kd.int .i64) w A0 l0.length l0) (hc0 : l0.length ≤ c0) (h : explicit_Resolve.f l0 a1 = some (r1, r2, r3)) :
    Calls Try.prog 16 #[.slice A0 l0.length c0, .int .i64 a1] w fun e w' => ∃ v0_ v1_ : Value, e = .returned (.tuple #[v0_, v1_, .int .i64 r3]) ∧ Kd.R (Kd.int .i64) 3 w' w.heap.size (fun k_ => some k_ ≠ (v1_ : Value).ownBlock) v0_ r1 ∧ Kd.R (Kd.int .i64) 3 w' w.heap.size (fun k_ => some k_ ≠ (v0_ : Value).ownBlock) v1_ r2 ∧ Below w.heap.size w w' := by
  have hl : l0.length ≤ 17592186043904 := by unfold explicit_Resolve.f at h; split at h; assumption; simp at h
  rw [explicit_Resolve.f, if_pos hl] at h
  by_cases h1 : a1 ≠ 0 ∧ a1 ≠ 1
  · rw [if_pos h1] at h
    simp only [Option.some.injEq, Prod.mk.injEq] at h
    obtain ⟨rfl, rfl, rfl⟩ := h
    exact res_bad A0 c0 l0 a1 w h1
  · rw [if_neg h1] at h
    have hB : a1 = 0 ∨ a1 = 1 := by omega
    by_cases h2 : formedB l0 = false
    · rw [if_pos h2] at h
      simp only [Option.some.injEq, Prod.mk.injEq] at h
      obtain ⟨rfl, rfl, rfl⟩ := h
      exact res_form A0 c0 l0 a1 w hr0 hc0 hl hB h2
    · rw [if_neg h2] at h
      simp only [Option.some.injEq, Prod.mk.injEq] at h
      obtain ⟨rfl, rfl, rfl⟩ := h
      have hb : (a1 != 0) = false ∨ (a1 != 0) = true ∧ (a1 != 1) = false := by rcases hB with rfl | rfl <;> decide
      rcases hb with hb | hb
      · exact res_mainA A0 c0 l0 a1 w hr0 hc0 hl hB (by simpa using h2) hb
      · exact res_mainB A0 c0 l0 a1 w hr0 hc0 hl hB (by simpa using h2) hb
end Go.Proofs.Yteldofimjklckaa.G
/- What Resolve tells. -/
namespace Go.Proofs.Yteldofimjklckaa.Exp
open Go.RowKit Go.Proofs.Yteldofimjklckaa.X Go.Proofs.Yteldofimjklckaa.G Go.Proofs.Yteldofimjklckaa.Iso Go.Proofs.YteldofimjklckaaW.PrintWords Go.Proofs.YteldofimjklckaaW.PrintLast

/-- What Resolve tells of a paragraph. -/
theorem res_ok (c : List Int) (base : Int) (hl : c.length ≤ 17592186043904) (hB : base = 0 ∨ base = 1) (hf : formed c) : explicit_Resolve.f c base = some (lvs c base, tys c base, 0) := by
  rw [explicit_Resolve.f, if_pos hl, if_neg (by omega), if_neg (by rw [(formedB_iff c).2 hf]; simp)]
theorem res_no (c : List Int) (base : Int) (hl : c.length ≤ 17592186043904) (h : ¬ ((base = 0 ∨ base = 1) ∧ formed c)) : ∃ e, e ≠ 0 ∧ explicit_Resolve.f c base = some ([], [], e) := by
  rw [explicit_Resolve.f, if_pos hl]
  by_cases h1 : base ≠ 0 ∧ base ≠ 1
  · exact ⟨2, by decide, by rw [if_pos h1]⟩
  · refine ⟨50, by decide, ?_⟩
    rw [if_neg h1, if_pos]
    cases hf : formedB c with
    | false => rfl
    | true => exact absurd ⟨by omega, (formedB_iff c).1 hf⟩ h
end Go.Proofs.Yteldofimjklckaa.Exp
