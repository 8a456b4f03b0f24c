/- The state of explicit levels: push, take. By hand. -/
import Derived.Test.YthokljlalgclkaaHSt
namespace Go.Proofs.Ythokljlalgclkaa.G
open Go.RowKit Go.Proofs.YthokljlalgclkaaW.PrintWords Go.Proofs.YthokljlalgclkaaW.PrintLast Go.Proofs.YthokljlalgclkaaW.PrintMore Go.Proofs.Ythokljlalgclkaa.Exp
set_option linter.unusedVariables false
set_option linter.unusedSimpArgs false

/-- What a method without a result leaves. -/
def StPost (Z : Nat → Option Obj) (b0 g : Nat) (base : Int) (s : S) (lv ty : List Int) (W : World) (r : Ending) (e : Ending) (w' : World) : Prop := e = r ∧ ∃ sv lvv tyv, St Z b0 g base s lv ty sv lvv tyv w' ∧ Below b0 W w'
theorem StPost.of {Z : Nat → Option Obj} {b0 g : Nat} {base : Int} {s : S} {lv ty : List Int} {sv lvv tyv : Value} {W w' : World} {r : Ending} (h : St Z b0 g base s lv ty sv lvv tyv w') (hb : Below b0 W w') : StPost Z b0 g base s lv ty W r r w' := ⟨rfl, sv, lvv, tyv, h, hb⟩
set_option maxHeartbeats 8000000 in
set_option maxRecDepth 100000 in
theorem push_calls (Z : Nat → Option Obj) (b0 g : Nat) (base : Int) (s : S) (lv ty : List Int) (sv lvv tyv : Value) (r : Bool) (f : Int) (i : Bool) (W : World) (hst : St Z b0 g base s lv ty sv lvv tyv W) (hne : s.stk ≠ []) (h0 : 0 ≤ (top s).lvl) (h1 : (top s).lvl ≤ 125) (hlen : s.stk.length ≤ 1000) (hb : b0 ≤ W.heap.size) :
    Calls Try.prog 30 #[.pointer (some ⟨g, 0, none⟩), .bool r, .int .i64 f, .bool i] W (StPost Z b0 g base (if can s r = true then push s r f i else s) lv ty W (.returned (.bool (can s r)))) := by
  have HNext := Aside0.mk (next_calls Z b0 g base s lv ty sv lvv tyv r W hst hne h0 h1)
  have HST := Aside0.mk hst
  have HB := Aside0.mk hb
  have HLN := Aside0.mk hlen
  obtain ⟨cc, hcc⟩ : ∃ cc, can s r = cc := ⟨_, rfl⟩
  rw [hcc] at HNext ⊢
  clear hst hne h0 h1 hb hlen
  cases cc with
  | false =>
    rw [if_neg (by simp)]
    clear hcc
    go_enter Try.func30, Try.ntmps30
    go_wp2_with (first | (go_at_call 36; refine HNext.out.mono ?_; rintro e w1 ⟨rfl, hb1⟩))
    go_ret
    exact ⟨rfl, _, _, _, HST.out.below hb1, hb1.mono HB.out⟩
  | true =>
    rw [if_pos rfl]
    obtain ⟨nn, hnn⟩ : ∃ nn, nl (top s).lvl r = nn := ⟨_, rfl⟩
    rw [hnn] at HNext
    have HN := Aside0.mk hnn
    have info43 : (Try.prog.info? 43).map (fun i => (i.zero, i.size, i.bytes)) = some (some (.agg #[.int .i64 0, .int .i64 0, .bool false]), 3, 24) := by kernel_rfl
    clear hcc hnn
    go_enter Try.func30, Try.ntmps30
    go_upto_region 2 with (first | (go_at_call 36; refine HNext.out.mono ?_; rintro e w1 ⟨rfl, hb1⟩))
    have HST1 := Aside0.mk (HST.out.below hb1)
    have HB1 := Aside0.mk hb1
    clear hb1
    obtain ⟨hc0, _⟩ := HST1.out.cells
    have hz0 := blk_frozen HST1.out.blk 0
    go_wp2_with (first | ((with_reducible refine gate_builtin (b := .append) (xs := #[.tmp 22, .tmp 27]) rfl ?_); at_builtin; refine of_halt ?_))
    unfold Halt
    refine Kd.R_append entK (w0 := W) b0 rfl (.tmp 22) (.tmp 27) 44 43 (.agg #[.int .i64 0, .int .i64 0, .bool false]) 24 rfl Try.underlying44 info43 rfl (by decide) (by omega) sv (s.stk.reverse.map enc) (nn, f, i) [.int .i64 nn, .int .i64 f, .bool i] (fun k => Z k = none) (fun _ => False) rfl rfl (entK_M _ _ _ (nn, f, i)) (fun _ hk => hk.elim) (fun k hk => HST1.out.znew hk) HST1.out.stk (HB1.out.mono HB.out) (Nat.le_trans HB.out HB1.out.size) (by have := HLN.out; rw [List.length_map, List.length_reverse]; omega) ?_
    intro v7 w7 ho7 hb7 hg7 hat7
    obtain ⟨A7, c7, rfl⟩ := Kd.R_slice ho7
    generalize hl7 : (s.stk.reverse.map enc ++ [(nn, f, i)]).length = L7 at *
    have HX7 := Aside0.mk (blk_grown_ty HST1.out.blk HST1.out.stk hg7 (by decide))
    have hlv7 : Kd.R (Kd.int .i64) 3 w7 b0 (fun k => Z k = none ∧ some k ≠ tyv.ownBlock) lvv lv := Kd.R_mono (Kd.R_grown (Kd.R_bound HST1.out.lvs) hg7 (fun k hk e => by
      obtain ⟨_, _, _, q, hq, cells, hh⟩ := hk
      obtain ⟨cells', hh'⟩ := own_ty HST1.out.stk k e.symm
      rw [hh] at hh'
      injection hh' with hh'
      injection hh' with _ hh'
      subst hh'
      simp [Kd.int, Kd.scalar] at hq)) (fun _ hk => hk.1)
    have hty7 : Kd.R (Kd.int .i64) 3 w7 b0 (fun k => Z k = none ∧ some k ≠ lvv.ownBlock) tyv ty := Kd.R_mono (Kd.R_grown (Kd.R_bound HST1.out.tys) hg7 (fun k hk e => by
      obtain ⟨_, _, _, q, hq, cells, hh⟩ := hk
      obtain ⟨cells', hh'⟩ := own_ty HST1.out.stk k e.symm
      rw [hh] at hh'
      injection hh' with hh'
      injection hh' with _ hh'
      subst hh'
      simp [Kd.int, Kd.scalar] at hq)) (fun _ hk => hk.1)
    have hzk7 : ∀ k o, Z k = some o → w7.heap[k]? = some o := fun k o e => blk_grown (HST1.out.zk k o e) hg7 (fun q => by
      have hq := HST1.out.stk.1 k q.symm
      simp only [e] at hq
      cases hq)
    have HZK := Aside0.mk hzk7
    have HLV := Aside0.mk hlv7
    have HTY := Aside0.mk hty7
    have HO7 := Aside0.mk ho7
    have HB7 := Aside0.mk hb7
    have hd0 : w7.cell? ⟨g, 0, none⟩ = some sv := (blk_cell HX7.out 0).trans rfl
    have hy0 := blk_frozen HX7.out 0
    clear hzk7 hlv7 hty7 ho7 hb7 hg7 hat7 hc0 hz0 hl7
    go_wp2
    go_ret
    refine ⟨rfl, _, lvv, tyv, ⟨blk_put HX7.out 0 _ rfl, HST.out.ge, HST.out.zg, fun k o e => far_any (HZK.out k o e) (HST.out.zne e) _, ?_, Kd.R_set HLV.out HX7.out (by decide) 0 _, Kd.R_set HTY.out HX7.out (by decide) 0 _⟩, HB7.out.setCell (p := ⟨g, 0, none⟩) HST.out.ge _⟩
    have h8 := Kd.R_set HO7.out HX7.out (by decide) 0 (.slice A7 L7 c7)
    rw [← HN.out] at h8
    simpa [push, enc] using h8
theorem St.putLv {Z : Nat → Option Obj} {b0 g : Nat} {base : Int} {s : S} {lv ty : List Int} {sv tyv : Value} {gl n cl : Nat} {W : World} (h : St Z b0 g base s lv ty sv (.slice (some ⟨gl, 0, none⟩) n cl) tyv W) (i : Nat) (x : Int) : St Z b0 g base s (lv.set i x) ty sv (.slice (some ⟨gl, 0, none⟩) n cl) tyv (W.setCell ⟨gl, i, none⟩ (.int .i64 x)) := by
  obtain ⟨cells, hh⟩ := own_ty h.lvs gl rfl
  have hzl := (h.lvs.1 gl rfl).1
  have hne : g ≠ gl := blk_ne h.blk hh (by decide)
  refine ⟨blk_far h.blk hne _, h.ge, h.zg, fun k o e => far_any (h.zk k o e) (fun q => by rw [q, hzl] at e; cases e) _, Kd.R_set h.stk hh (by decide) i _, ?_, Kd.R_far h.tys (fun k hk e => hk.2 (by rw [e]; rfl)) _⟩
  have := Kd.R_putn h.lvs (i : Int) x
  rwa [Int.toNat_natCast] at this
theorem St.putTy {Z : Nat → Option Obj} {b0 g : Nat} {base : Int} {s : S} {lv ty : List Int} {sv lvv : Value} {gl n cl : Nat} {W : World} (h : St Z b0 g base s lv ty sv lvv (.slice (some ⟨gl, 0, none⟩) n cl) W) (i : Nat) (x : Int) : St Z b0 g base s lv (ty.set i x) sv lvv (.slice (some ⟨gl, 0, none⟩) n cl) (W.setCell ⟨gl, i, none⟩ (.int .i64 x)) := by
  obtain ⟨cells, hh⟩ := own_ty h.tys gl rfl
  have hzl := (h.tys.1 gl rfl).1
  have hne : g ≠ gl := blk_ne h.blk hh (by decide)
  refine ⟨blk_far h.blk hne _, h.ge, h.zg, fun k o e => far_any (h.zk k o e) (fun q => by rw [q, hzl] at e; cases e) _, Kd.R_set h.stk hh (by decide) i _, Kd.R_far h.lvs (fun k hk e => hk.2 (by rw [e]; rfl)) _, ?_⟩
  have := Kd.R_putn h.tys (i : Int) x
  rwa [Int.toNat_natCast] at this
/-- What take leaves. -/
def tkL (s : S) (lv : List Int) (i : Nat) : List Int := lv.set i (top s).lvl
def tkT (s : S) (ty : List Int) (i : Nat) : List Int := if (top s).frc = 1 then ty.set i 1 else if (top s).frc = 2 then ty.set i 2 else ty
set_option maxHeartbeats 8000000 in
set_option maxRecDepth 100000 in
theorem take_calls (Z : Nat → Option Obj) (b0 g : Nat) (base : Int) (s : S) (lv ty : List Int) (sv lvv tyv : Value) (i : Nat) (W : World) (hst : St Z b0 g base s lv ty sv lvv tyv W) (hne : s.stk ≠ []) (hi : i < lv.length) (hi2 : i < ty.length) (hb : b0 ≤ W.heap.size) :
    Calls Try.prog 24 #[.pointer (some ⟨g, 0, none⟩), .int .i64 (i : Int)] W (StPost Z b0 g base s (tkL s lv i) (tkT s ty i) W (.returned (.tuple #[]))) := by
  obtain ⟨gl, cl, rfl, hgl, _⟩ := Kd.R_form hst.lvs (by omega)
  obtain ⟨gt, ct, rfl, hgt, _⟩ := Kd.R_form hst.tys (by omega)
  obtain ⟨nl_, hnl⟩ : ∃ n, lv.length = n := ⟨_, rfl⟩
  obtain ⟨nt_, hnt⟩ : ∃ n, ty.length = n := ⟨_, rfl⟩
  rw [hnl] at hst hi
  rw [hnt] at hst hi2
  have hml : nl_ ≤ 9223372036854775807 := by rw [← hnl]; exact Kd.C_max (Kd.R_reads' hst.lvs).2.2
  have HLast := Aside0.mk (fun V (hb : Below W.heap.size W V) => last_calls Z b0 g base s lv ty sv _ _ V (hst.below hb) hne)
  have HST := Aside0.mk hst
  have HB := Aside0.mk hb
  have HNL := Aside0.mk (And.intro hnl hnt)
  have HGE := Aside0.mk (And.intro hgl hgt)
  have HNE := Aside0.mk hne
  obtain ⟨x, hx⟩ : ∃ x, (top s).lvl = x := ⟨_, rfl⟩
  obtain ⟨f, hf⟩ : ∃ f, (top s).frc = f := ⟨_, rfl⟩
  have hTL : tkL s lv i = lv.set i x := by rw [tkL, hx]
  have hTT : tkT s ty i = if f = 1 then ty.set i 1 else if f = 2 then ty.set i 2 else ty := by rw [tkT, hf]
  have HTT := Aside0.mk (And.intro hTL hTT)
  rw [hx, hf] at HLast
  have hf0 := fld0 x f (top s).iso
  have hf1 := fld1 x f (top s).iso
  have p1 : ((i : Int) < (nl_ : Int)) = True := eq_true (by omega)
  have p2 : (i < nl_) = True := eq_true hi
  have p3 : ((i : Int) < (nt_ : Int)) = True := eq_true (by omega)
  have p4 : (i < nt_) = True := eq_true hi2
  have HI := Aside0.mk (And.intro hi hi2)
  have HXF := Aside0.mk (And.intro hx hf)
  clear hst hne hb hnl hnt hx hf hTL hTT hml hgl hgt hi hi2
  go_enter Try.func24, Try.ntmps24
  have hzl : ∀ V : World, Below W.heap.size W V → V.cell? ⟨g, 7, none⟩ = some (.slice (some ⟨gl, 0, none⟩) nl_ cl) ∧ (∃ y, V.cell? ⟨gl, i, none⟩ = some y) ∧ V.frozen? ⟨gl, i, none⟩ = false := by
    intro V hbV
    have h2 := HST.out.below hbV
    have h3 := h2.lvs
    rw [← HNL.out.1] at h3
    have := Kd.R_cell 0 h3 (i : Int) (by omega) (by rw [HNL.out.1]; have := HI.out.1; omega)
    rw [Int.toNat_natCast] at this
    exact ⟨h2.cells.2.2.2.2.2.2.2.1, ⟨_, this.1⟩, this.2⟩
  have HZL := Aside0.mk hzl
  clear hzl
  go_upto_region 0 with (fail)
  refine start_ (n := 10) (S := fun w' => w'.cell? ⟨g, 7, none⟩ = some (.slice (some ⟨gl, 0, none⟩) nl_ cl)) (ds := [9]) #[false, false, false, false, false, false, false, false, false, false] (by kernel_rfl) rfl rfl ((HZL.out _ (below_drew1 (Below.refl _ _))).1) (fun hHeld => ?_)
  refine pure_ (i := 0) (N := some 4) (v := ?_) (a' := ?_) #[true, false, false, false, false, false, false, false, false, false] rfl rfl (by kernel_rfl) (fun _ _ _ h => h) (Or.inl ⟨by rfl, ?_⟩) ?_ ?_
  rotate_left
  · intro w'
    go_simp
    with_reducible rfl
  rotate_left
  · simp only [Act.put, List.setIfInBounds_toArray, List.set_cons_zero, List.set_cons_succ, i64_w, i32_w]
    rfl
  refine pure_ (i := 1) (N := some 5) (v := ?_) (a' := ?_) #[true, true, false, false, false, false, false, false, false, false] rfl rfl (by kernel_rfl) (fun _ _ _ h => h) (Or.inl ⟨by rfl, ?_⟩) ?_ ?_
  rotate_left
  · intro w'
    go_simp
    with_reducible rfl
  rotate_left
  · simp only [Act.put, List.setIfInBounds_toArray, List.set_cons_zero, List.set_cons_succ, i64_w, i32_w]
    rfl
  refine pure_ (i := 2) (N := some 6) (v := ?_) (a' := ?_) #[true, true, true, false, false, false, false, false, false, false] rfl rfl (by kernel_rfl) (fun _ _ _ h => h) (Or.inl ⟨by rfl, ?_⟩) ?_ ?_
  rotate_left
  · intro w'
    go_simp
    with_reducible rfl
  rotate_left
  · simp only [Act.put, List.setIfInBounds_toArray, List.set_cons_zero, List.set_cons_succ, i64_w, i32_w]
    rfl
  refine pure_ (i := 4) (N := some 8) (v := ?_) (a' := ?_) #[true, true, true, false, true, false, false, false, false, false] rfl rfl (by kernel_rfl) (fun _ _ _ h => h) (Or.inl ⟨by rfl, ?_⟩) ?_ ?_
  rotate_left
  · intro w'
    go_simp
    with_reducible rfl
  rotate_left
  · simp only [Act.put, List.setIfInBounds_toArray, List.set_cons_zero, List.set_cons_succ, i64_w, i32_w]
    rfl
  refine pure_ (i := 5) (N := some 9) (v := ?_) (a' := ?_) #[true, true, true, false, true, true, false, false, false, false] rfl rfl (by kernel_rfl) (fun _ _ _ h => h) (Or.inl ⟨by rfl, ?_⟩) ?_ ?_
  rotate_left
  · intro w'
    go_simp
    with_reducible rfl
  rotate_left
  · simp only [Act.put, List.setIfInBounds_toArray, List.set_cons_zero, List.set_cons_succ, i64_w, i32_w]
    rfl
  refine take_ (i := 3) (N := some 7) (v := ?_) (a' := ?_) #[true, true, true, true, true, true, false, false, false, false] rfl rfl (by kernel_rfl) (fun _ _ _ h => h) (Or.inl ⟨by rfl, ?_⟩) hHeld ?_ ?_
  rotate_left
  · intro w' s0
    go_simp
    with_reducible rfl
  rotate_left
  · simp only [Act.put, List.setIfInBounds_toArray, List.set_cons_zero, List.set_cons_succ, i64_w, i32_w]
    rfl
  refine one_ (i := 6) (N := some 10) #[true, true, true, true, true, true, true, false, false, false] rfl rfl (by kernel_rfl) (by decide) (fun K hK => ?_)
  refine goes_ Try.func32 (by kernel_rfl) rfl #[.pointer (some ⟨g, 0, none⟩)] (by rfl) rfl rfl (by simp only [List.map_toArray, List.map_cons, List.map_nil]; rfl) ?_
  with_reducible refine (HLast.out _ (below_drew1 (Below.refl _ _))).mono ?_
  rintro e w3 ⟨rfl, hb3⟩
  refine ⟨_, rfl, ?_⟩
  have HB3 := Aside0.mk (below_step (below_drew1 (Below.refl W.heap.size W)) hb3)
  obtain ⟨_, ⟨y3, hy3⟩, hz3⟩ := HZL.out _ HB3.out
  clear hb3
  refine hK.out _ _ ((HZL.out _ HB3.out).1) (fun hHeld => ?_)
  clear hK K
  refine norm_ (a' := ?_) ?_ ?_
  rotate_left
  · show Act.put _ (some 10) _ = _
    simp only [Act.put, List.setIfInBounds_toArray, List.set_cons_zero, List.set_cons_succ, i64_w, i32_w]
    rfl
  refine pure_ (i := 7) (N := some 11) (v := ?_) (a' := ?_) #[true, true, true, true, true, true, true, true, false, false] rfl rfl (by kernel_rfl) (fun _ _ _ h => h) (Or.inl ⟨by rfl, ?_⟩) ?_ ?_
  rotate_left
  · intro w'
    go_simp
    with_reducible rfl
  rotate_left
  · simp only [Act.put, List.setIfInBounds_toArray, List.set_cons_zero, List.set_cons_succ, i64_w, i32_w]
    rfl
  refine pure_ (i := 8) (N := some 12) (v := ?_) (a' := ?_) #[true, true, true, true, true, true, true, true, true, false] rfl rfl (by kernel_rfl) (fun _ _ _ h => h) (Or.inl ⟨by rfl, ?_⟩) ?_ ?_
  rotate_left
  · intro w'
    go_simp
    with_reducible rfl
  rotate_left
  · simp only [Act.put, List.setIfInBounds_toArray, List.set_cons_zero, List.set_cons_succ, i64_w, i32_w]
    rfl
  refine last_ (i := 9) (N := none) #[true, true, true, true, true, true, true, true, true, true] rfl rfl (by kernel_rfl) (by decide) (fun K hK => ?_)
  refine skip_ (w1 := ?_) (by rfl) rfl ?_ ?_
  rotate_left
  · go_simp
    rfl
  refine hK.out _ _ ?_
  clear hK K
  refine done_ (by kernel_rfl) ?_
  have HST4 := Aside0.mk ((HST.out.below HB3.out).putLv i x)
  have HB4 := Aside0.mk ((HB3.out.mono HB.out).setCell (p := ⟨gl, i, none⟩) HGE.out.1 (.int .i64 x))
  have hsz : W.heap.size ≤ (w3.setCell ⟨gl, i, none⟩ (.int .i64 x)).heap.size := by have := HB3.out.size; simpa [World.setCell] using this
  have HSZ := Aside0.mk hsz
  clear hy3 hz3 HB3 HZL hsz
  generalize w3.setCell ⟨gl, i, none⟩ (.int .i64 x) = W4 at *
  have hl4 := last_calls Z b0 g base s (lv.set i x) ty sv _ _ W4 HST4.out HNE.out
  rw [HXF.out.1, HXF.out.2] at hl4
  have HLast4 := Aside0.mk hl4
  clear hl4
  by_cases f1 : f = 1
  · have b1 : (f == 1) = true := by rw [f1]; rfl
    have HT2 := Aside0.mk (HTT.out.2.trans (if_pos f1))
    clear f1
    go_wp2_with (first | (go_at_call 32; refine HLast4.out.mono ?_; rintro e w5 ⟨rfl, hb5⟩; refine of_halt ?_))
    unfold Halt
    have HST5 := Aside0.mk (HST4.out.below hb5)
    have HB5 := Aside0.mk (HB4.out.trans (hb5.mono (Nat.le_trans HB.out HSZ.out)))
    obtain ⟨_, _, _, _, _, _, _, _, hc8⟩ := HST5.out.cells
    have h5 := HST5.out.tys
    rw [← HNL.out.2] at h5
    obtain ⟨hy5, hz5⟩ := Kd.R_cell 0 h5 (i : Int) (by omega) (by rw [HNL.out.2]; have := HI.out.2; omega)
    rw [Int.toNat_natCast] at hy5 hz5
    clear hb5 h5
    go_wp2
    go_end0
    have hfin := HST5.out.putTy i 1
    rw [← HT2.out, ← HTT.out.1] at hfin
    exact StPost.of hfin (HB5.out.setCell (p := ⟨gt, i, none⟩) HGE.out.2 _)
  · have b1 : (f == 1) = false := beq_eq_false_iff_ne.2 f1
    by_cases f2 : f = 2
    · have b2 : (f == 2) = true := by rw [f2]; rfl
      have HT2 := Aside0.mk ((HTT.out.2.trans (if_neg f1)).trans (if_pos f2))
      clear f1 f2
      go_wp2_with (first | (go_at_call 32; refine HLast4.out.mono ?_; rintro e w5 ⟨rfl, hb5⟩; refine of_halt ?_))
      unfold Halt
      have HST5 := Aside0.mk (HST4.out.below hb5)
      have HB5 := Aside0.mk (HB4.out.trans (hb5.mono (Nat.le_trans HB.out HSZ.out)))
      obtain ⟨_, _, _, _, _, _, _, _, hc8⟩ := HST5.out.cells
      have h5 := HST5.out.tys
      rw [← HNL.out.2] at h5
      obtain ⟨hy5, hz5⟩ := Kd.R_cell 0 h5 (i : Int) (by omega) (by rw [HNL.out.2]; have := HI.out.2; omega)
      rw [Int.toNat_natCast] at hy5 hz5
      clear hb5 h5
      go_wp2
      go_end0
      have hfin := HST5.out.putTy i 2
      rw [← HT2.out, ← HTT.out.1] at hfin
      exact StPost.of hfin (HB5.out.setCell (p := ⟨gt, i, none⟩) HGE.out.2 _)
    · have b2 : (f == 2) = false := beq_eq_false_iff_ne.2 f2
      have HT2 := Aside0.mk ((HTT.out.2.trans (if_neg f1)).trans (if_neg f2))
      clear f1 f2
      go_wp2_with (first | (go_at_call 32; refine HLast4.out.mono ?_; rintro e w5 ⟨rfl, hb5⟩))
      go_end0
      have hfin := HST4.out.below hb5
      rw [← HTT.out.1] at hfin
      rw [HT2.out]
      exact StPost.of hfin (HB4.out.trans (hb5.mono (Nat.le_trans HB.out HSZ.out)))
end Go.Proofs.Ythokljlalgclkaa.G
