/- The state of explicit levels: how it lies in memory. By hand. -/
import Derived.Test.YteldofimjklckaaHTy
import Derived.Test.YteldofimjklckaaRunM
import Derived.Test.YteldofimjklckaaKitM
namespace Go.Proofs.Yteldofimjklckaa.G
open Go.RowKit Go.Proofs.YteldofimjklckaaW.PrintWords Go.Proofs.YteldofimjklckaaW.PrintLast Go.Proofs.YteldofimjklckaaW.PrintMore Go.Proofs.Yteldofimjklckaa.Exp
set_option linter.unusedVariables false
set_option linter.unusedSimpArgs false

abbrev Row3 := Int × Int × Bool
/-- An entry of the stack: three cells. -/
def entK : Kd Row3 := Kd.pair (Kd.int .i64) (Kd.pair (Kd.int .i64) Kd.bool)
def enc (e : E) : Row3 := (e.lvl, e.frc, e.iso)
theorem entK_sz : entK.sz = 3 := rfl
theorem entK_cells {W : World} {x : Row3} {cs : List Value} (h : entK.K W x cs) : cs = [.int .i64 x.1, .int .i64 x.2.1, .bool x.2.2] := by
  obtain ⟨c0, c1, rfl, h0, c2, c3, rfl, h2, h3⟩ := h
  have e0 : c0 = [.int .i64 x.1] := h0
  have e2 : c2 = [.int .i64 x.2.1] := h2
  have e3 : c3 = [.bool x.2.2] := h3
  rw [e0, e2, e3]
  rfl
theorem entK_M (W : World) (base : Nat) (ok : Nat → Prop) (x : Row3) : entK.M W base ok x [.int .i64 x.1, .int .i64 x.2.1, .bool x.2.2] :=
  ⟨[.int .i64 x.1], [.int .i64 x.2.1, .bool x.2.2], rfl, rfl, [.int .i64 x.2.1], [.bool x.2.2], rfl, rfl, rfl⟩
/-- The cells of the element at a place. -/
theorem ent_at {W : World} {ad : Addr} {n : Nat} {xs : List Row3} (h : entK.C W (some ad) n xs) (j : Nat) (hj : j < n) (x : Row3) (hx : xs[j]? = some x) :
    W.cell? (ad.add (j * 3)) = some (.int .i64 x.1) ∧ W.cell? ⟨(ad.add (j * 3)).block, (ad.add (j * 3)).off + 1, none⟩ = some (.int .i64 x.2.1) ∧ W.cell? ⟨(ad.add (j * 3)).block, (ad.add (j * 3)).off + 2, none⟩ = some (.bool x.2.2) := by
  obtain ⟨ad', e, hc⟩ := h.2.2 (by omega)
  injection e with e
  subst e
  obtain ⟨cs, hl, hk, hu⟩ := hc j x hx
  rw [entK_cells hk] at hu
  have h0 := hu 0 _ rfl
  have h1 := hu 1 _ rfl
  have h2 := hu 2 _ rfl
  rw [entK_sz] at h0 h1 h2
  rw [← Addr.add_add] at h1 h2
  exact ⟨h0, h1, h2⟩
theorem far_any {w : World} {k : Nat} {o : Obj} (h : w.heap[k]? = some o) {p : Addr} (hp : k ≠ p.block) (u : Value) : (w.setCell p u).heap[k]? = some o := (Below.heap_setCell w p u k hp).trans h
/-- A state at block g: made since b0. -/
structure St (Z : Nat → Option Obj) (b0 : Nat) (g : Nat) (base : Int) (s : S) (lv ty : List Int) (sv lvv tyv : Value) (W : World) : Prop where
  blk : W.heap[g]? = some (.cells #[sv, .int .i64 base, .int .i64 0, .bool false, .int .i64 (s.isl : Int), .int .i64 (s.emb : Int), .int .i64 (s.val : Int), lvv, tyv] 56 (0, 0))
  ge : b0 ≤ g
  zg : Z g = none
  zk : ∀ k o, Z k = some o → W.heap[k]? = some o
  stk : entK.R 53 W b0 (fun k => Z k = none) sv (s.stk.reverse.map enc)
  lvs : Kd.R (Kd.int .i64) 3 W b0 (fun k => Z k = none ∧ some k ≠ tyv.ownBlock) lvv lv
  tys : Kd.R (Kd.int .i64) 3 W b0 (fun k => Z k = none ∧ some k ≠ lvv.ownBlock) tyv ty
theorem St.zne {Z : Nat → Option Obj} {b0 g : Nat} {base : Int} {s : S} {lv ty : List Int} {sv lvv tyv : Value} {W : World} (h : St Z b0 g base s lv ty sv lvv tyv W) {k : Nat} {o : Obj} (e : Z k = some o) : k ≠ g := by
  rintro rfl
  rw [h.zg] at e
  cases e
theorem St.znew {Z : Nat → Option Obj} {b0 g : Nat} {base : Int} {s : S} {lv ty : List Int} {sv lvv tyv : Value} {W : World} (h : St Z b0 g base s lv ty sv lvv tyv W) {k : Nat} (hk : W.heap.size ≤ k) : Z k = none := by
  cases e : Z k with
  | none => rfl
  | some o => have := blk_lt (h.zk k o e); omega
theorem St.below {Z : Nat → Option Obj} {b0 g : Nat} {base : Int} {s : S} {lv ty : List Int} {sv lvv tyv : Value} {W W' : World} (h : St Z b0 g base s lv ty sv lvv tyv W) (hb : Below W.heap.size W W') : St Z b0 g base s lv ty sv lvv tyv W' :=
  ⟨blk_below h.blk hb, h.ge, h.zg, fun k o e => blk_below (h.zk k o e) hb, Kd.R_below h.stk hb, Kd.R_below h.lvs hb, Kd.R_below h.tys hb⟩
theorem St.drew {Z : Nat → Option Obj} {b0 g : Nat} {base : Int} {s : S} {lv ty : List Int} {sv lvv tyv : Value} {W : World} (h : St Z b0 g base s lv ty sv lvv tyv W) : St Z b0 g base s lv ty sv lvv tyv W.drew :=
  ⟨blk_drew h.blk, h.ge, h.zg, fun k o e => blk_drew (h.zk k o e), Kd.R_drew h.stk, Kd.R_drew h.lvs, Kd.R_drew h.tys⟩
/-- A number of the state's own is stored into. -/
theorem St.put {Z : Nat → Option Obj} {b0 g : Nat} {base : Int} {s s' : S} {lv ty : List Int} {sv lvv tyv : Value} {W : World} (h : St Z b0 g base s lv ty sv lvv tyv W) (j : Nat) (u : Value) (hs : s'.stk = s.stk)
    (e : (#[sv, .int .i64 base, .int .i64 0, .bool false, .int .i64 (s.isl : Int), .int .i64 (s.emb : Int), .int .i64 (s.val : Int), lvv, tyv] : Array Value).setIfInBounds j u = #[sv, .int .i64 base, .int .i64 0, .bool false, .int .i64 (s'.isl : Int), .int .i64 (s'.emb : Int), .int .i64 (s'.val : Int), lvv, tyv]) : St Z b0 g base s' lv ty sv lvv tyv (W.setCell ⟨g, j, none⟩ u) :=
  ⟨blk_put h.blk j u e, h.ge, h.zg, fun k o e => far_any (h.zk k o e) (h.zne e) _, by rw [hs]; exact Kd.R_set h.stk h.blk (by decide) j u, Kd.R_set h.lvs h.blk (by decide) j u, Kd.R_set h.tys h.blk (by decide) j u⟩
/-- The cells of a state. -/
theorem St.cells {Z : Nat → Option Obj} {b0 g : Nat} {base : Int} {s : S} {lv ty : List Int} {sv lvv tyv : Value} {W : World} (h : St Z b0 g base s lv ty sv lvv tyv W) :
    W.cell? ⟨g, 0, none⟩ = some sv ∧ W.cell? ⟨g, 1, none⟩ = some (.int .i64 base) ∧ W.cell? ⟨g, 2, none⟩ = some (.int .i64 0) ∧ W.cell? ⟨g, 3, none⟩ = some (.bool false) ∧ W.cell? ⟨g, 4, none⟩ = some (.int .i64 (s.isl : Int)) ∧ W.cell? ⟨g, 5, none⟩ = some (.int .i64 (s.emb : Int)) ∧ W.cell? ⟨g, 6, none⟩ = some (.int .i64 (s.val : Int)) ∧ W.cell? ⟨g, 7, none⟩ = some lvv ∧ W.cell? ⟨g, 8, none⟩ = some tyv :=
  ⟨(blk_cell h.blk 0).trans rfl, (blk_cell h.blk 1).trans rfl, (blk_cell h.blk 2).trans rfl, (blk_cell h.blk 3).trans rfl, (blk_cell h.blk 4).trans rfl, (blk_cell h.blk 5).trans rfl, (blk_cell h.blk 6).trans rfl, (blk_cell h.blk 7).trans rfl, (blk_cell h.blk 8).trans rfl⟩
theorem top_last (s : S) (h : s.stk ≠ []) : (s.stk.reverse.map enc)[s.stk.length - 1]? = some (enc (top s)) := by
  cases hs : s.stk with
  | nil => exact absurd hs h
  | cons e t => simp [top, hs]
set_option maxHeartbeats 4000000 in
set_option maxRecDepth 100000 in
theorem last_calls (Z : Nat → Option Obj) (b0 g : Nat) (base : Int) (s : S) (lv ty : List Int) (sv lvv tyv : Value) (W : World) (hst : St Z b0 g base s lv ty sv lvv tyv W) (hne : s.stk ≠ []) :
    Calls Try.prog 49 #[.pointer (some ⟨g, 0, none⟩)] W fun e w' => e = .returned (.agg #[.int .i64 (top s).lvl, .int .i64 (top s).frc, .bool (top s).iso]) ∧ Below W.heap.size W w' := by
  obtain ⟨m, N, hm, hN⟩ : ∃ m N, s.stk.length = N ∧ N = m + 1 := ⟨s.stk.length - 1, _, rfl, by have := List.length_pos_iff.2 hne; omega⟩
  obtain ⟨A, c, rfl, hc, hC⟩ := Kd.R_reads hst.stk
  have hl : (s.stk.reverse.map enc).length = N := by simp [hm]
  rw [hl] at hc hC
  obtain ⟨ad, rfl⟩ : ∃ ad, A = some ad := by
    obtain ⟨ad, e, _⟩ := hC.2.2 (by omega)
    exact ⟨ad, e⟩
  have htl := top_last s hne
  rw [show s.stk.length - 1 = m by omega] at htl
  have HST := Aside0.mk hst
  have hmax : N ≤ 9223372036854775807 := Kd.C_max hC
  have e1 : wrap64 ((N : Int) - 1) = (m : Int) := by unfold wrap64; omega
  have p1 : ((m : Int) < (N : Int)) = True := eq_true (by omega)
  have p2 : (m < N) = True := eq_true (by omega)
  have hS : ∀ V : World, Below W.heap.size W V → V.cell? ⟨g, 0, none⟩ = some (.slice (some ad) N c) ∧ V.cell? (ad.add (m * 3)) = some (.int .i64 (top s).lvl) ∧ V.cell? ⟨(ad.add (m * 3)).block, (ad.add (m * 3)).off + 1, none⟩ = some (.int .i64 (top s).frc) ∧ V.cell? ⟨(ad.add (m * 3)).block, (ad.add (m * 3)).off + 2, none⟩ = some (.bool (top s).iso) := by
    intro V hb
    have h2 := HST.out.below hb
    have hc0 := h2.cells.1
    rw [hl] at hc0
    have := ent_at (Kd.C_below hC hb) m (by omega) _ htl
    exact ⟨hc0, this⟩
  have HS := Aside0.mk hS
  clear hst hC htl hS hl hm hne hN hmax
  go_enter Try.func49, Try.ntmps49
  go_upto_region 1 with (fail)
  refine start_ (n := 13) (S := fun w' => w'.cell? ⟨g, 0, none⟩ = some (.slice (some ad) N c) ∧ w'.cell? (ad.add (m * 3)) = some (.int .i64 (top s).lvl) ∧ w'.cell? ⟨(ad.add (m * 3)).block, (ad.add (m * 3)).off + 1, none⟩ = some (.int .i64 (top s).frc) ∧ w'.cell? ⟨(ad.add (m * 3)).block, (ad.add (m * 3)).off + 2, none⟩ = some (.bool (top s).iso)) (ds := [12]) #[false, false, false, false, false, false, false, false, false, false, false, false, false] (by kernel_rfl) rfl rfl ⟨(HS.out _ (below_drew1 (below_alloc (Below.refl _ _) _))).1, (HS.out _ (below_drew1 (below_alloc (Below.refl _ _) _))).2.1, (HS.out _ (below_drew1 (below_alloc (Below.refl _ _) _))).2.2.1, (HS.out _ (below_drew1 (below_alloc (Below.refl _ _) _))).2.2.2⟩ (fun hHeld => ?_)
  refine pure_ (i := 0) (N := some 3) (v := ?_) (a' := ?_) #[true, false, false, false, false, false, false, false, false, false, false, false, false] rfl rfl (by kernel_rfl) (fun _ _ _ h => h) (Or.inl ⟨by rfl, ?_⟩) ?_ ?_
  rotate_left
  · intro w'
    go_simp
    with_reducible rfl
  rotate_left
  · simp only [Act.put, List.setIfInBounds_toArray, List.set_cons_zero, List.set_cons_succ, i64_w, i32_w]
    rfl
  refine pure_ (i := 1) (N := some 4) (v := ?_) (a' := ?_) #[true, true, false, false, false, false, false, false, false, false, false, false, false] rfl rfl (by kernel_rfl) (fun _ _ _ h => h) (Or.inl ⟨by rfl, ?_⟩) ?_ ?_
  rotate_left
  · intro w'
    go_simp
    with_reducible rfl
  rotate_left
  · simp only [Act.put, List.setIfInBounds_toArray, List.set_cons_zero, List.set_cons_succ, i64_w, i32_w]
    rfl
  refine pure_ (i := 2) (N := some 5) (v := ?_) (a' := ?_) #[true, true, true, false, false, false, false, false, false, false, false, false, false] rfl rfl (by kernel_rfl) (fun _ _ _ h => h) (Or.inl ⟨by rfl, ?_⟩) ?_ ?_
  rotate_left
  · intro w'
    go_simp
    with_reducible rfl
  rotate_left
  · simp only [Act.put, List.setIfInBounds_toArray, List.set_cons_zero, List.set_cons_succ, i64_w, i32_w]
    rfl
  refine pure_ (i := 4) (N := some 7) (v := ?_) (a' := ?_) #[true, true, true, false, true, false, false, false, false, false, false, false, false] rfl rfl (by kernel_rfl) (fun _ _ _ h => h) (Or.inl ⟨by rfl, ?_⟩) ?_ ?_
  rotate_left
  · intro w'
    go_simp
    with_reducible rfl
  rotate_left
  · simp only [Act.put, List.setIfInBounds_toArray, List.set_cons_zero, List.set_cons_succ, i64_w, i32_w]
    rfl
  refine pure_ (i := 5) (N := some 8) (v := ?_) (a' := ?_) #[true, true, true, false, true, true, false, false, false, false, false, false, false] rfl rfl (by kernel_rfl) (fun _ _ _ h => h) (Or.inl ⟨by rfl, ?_⟩) ?_ ?_
  rotate_left
  · intro w'
    go_simp
    with_reducible rfl
  rotate_left
  · simp only [Act.put, List.setIfInBounds_toArray, List.set_cons_zero, List.set_cons_succ, i64_w, i32_w]
    rfl
  refine pure_ (i := 6) (N := some 9) (v := ?_) (a' := ?_) #[true, true, true, false, true, true, true, false, false, false, false, false, false] rfl rfl (by kernel_rfl) (fun _ _ _ h => h) (Or.inl ⟨by rfl, ?_⟩) ?_ ?_
  rotate_left
  · intro w'
    go_simp
    with_reducible rfl
  rotate_left
  · simp only [Act.put, List.setIfInBounds_toArray, List.set_cons_zero, List.set_cons_succ, i64_w, i32_w]
    rfl
  refine take_ (i := 3) (N := some 6) (v := ?_) (a' := ?_) #[true, true, true, true, true, true, true, false, false, false, false, false, false] rfl rfl (by kernel_rfl) (fun _ _ _ h => h) (Or.inl ⟨by rfl, ?_⟩) hHeld ?_ ?_
  rotate_left
  · rintro w' ⟨s0, s1, s2, s3⟩
    go_simp
    with_reducible rfl
  rotate_left
  · simp only [Act.put, List.setIfInBounds_toArray, List.set_cons_zero, List.set_cons_succ, i64_w, i32_w]
    rfl
  refine take_ (i := 7) (N := some 10) (v := ?_) (a' := ?_) #[true, true, true, true, true, true, true, true, false, false, false, false, false] rfl rfl (by kernel_rfl) (fun _ _ _ h => h) (Or.inl ⟨by rfl, ?_⟩) hHeld ?_ ?_
  rotate_left
  · rintro w' ⟨s0, s1, s2, s3⟩
    go_simp
    with_reducible rfl
  rotate_left
  · simp only [Act.put, List.setIfInBounds_toArray, List.set_cons_zero, List.set_cons_succ, i64_w, i32_w]
    rfl
  refine pure_ (i := 8) (N := some 11) (v := ?_) (a' := ?_) #[true, true, true, true, true, true, true, true, true, false, false, false, false] rfl rfl (by kernel_rfl) (fun _ _ _ h => h) (Or.inl ⟨by rfl, ?_⟩) ?_ ?_
  rotate_left
  · intro w'
    go_simp
    with_reducible rfl
  rotate_left
  · simp only [Act.put, List.setIfInBounds_toArray, List.set_cons_zero, List.set_cons_succ, i64_w, i32_w]
    rfl
  refine pure_ (i := 9) (N := some 12) (v := ?_) (a' := ?_) #[true, true, true, true, true, true, true, true, true, true, false, false, false] rfl rfl (by kernel_rfl) (fun _ _ _ h => h) (Or.inl ⟨by rfl, ?_⟩) ?_ ?_
  rotate_left
  · intro w'
    go_simp
    with_reducible rfl
  rotate_left
  · simp only [Act.put, List.setIfInBounds_toArray, List.set_cons_zero, List.set_cons_succ, i64_w, i32_w]
    rfl
  refine pure_ (i := 10) (N := some 13) (v := ?_) (a' := ?_) #[true, true, true, true, true, true, true, true, true, true, true, false, false] rfl rfl (by kernel_rfl) (fun _ _ _ h => h) (Or.inl ⟨by rfl, ?_⟩) ?_ ?_
  rotate_left
  · intro w'
    go_simp
    with_reducible rfl
  rotate_left
  · simp only [Act.put, List.setIfInBounds_toArray, List.set_cons_zero, List.set_cons_succ, i64_w, i32_w]
    rfl
  refine take_ (i := 11) (N := some 14) (v := ?_) (a' := ?_) #[true, true, true, true, true, true, true, true, true, true, true, true, false] rfl rfl (by kernel_rfl) (fun _ _ _ h => h) (Or.inl ⟨by rfl, ?_⟩) hHeld ?_ ?_
  rotate_left
  · rintro w' ⟨s0, s1, s2, s3⟩
    go_simp
    with_reducible rfl
  rotate_left
  · simp only [Act.put, List.setIfInBounds_toArray, List.set_cons_zero, List.set_cons_succ, i64_w, i32_w]
    rfl
  refine last_ (i := 12) (N := none) #[true, true, true, true, true, true, true, true, true, true, true, true, true] rfl rfl (by kernel_rfl) (by decide) (fun K hK => ?_)
  refine skip_ (w1 := ?_) (by rfl) rfl ?_ ?_
  rotate_left
  · go_simp
    rfl
  refine hK.out _ _ ?_
  clear hK K
  refine done_ (by kernel_rfl) ?_
  go_wp2
  refine bodyPost_ret (results_single rfl (.cell W.heap.size 53 _ (0, 0) _ rfl (blk_drew (blk_new W _)) Try.underlying53 rfl (by kernel_rfl) .nil)) rfl ?_
  exact ⟨rfl, below_drew1 (below_alloc (Below.refl _ _) _)⟩
theorem fld0 (a b : Int) (c : Bool) (W : World) : (Instr.field 53 (.agg #[.int .i64 a, .int .i64 b, .bool c]) 0).run Try.prog W = .ok (.int .i64 a) W := by kernel_rfl
theorem fld1 (a b : Int) (c : Bool) (W : World) : (Instr.field 53 (.agg #[.int .i64 a, .int .i64 b, .bool c]) 1).run Try.prog W = .ok (.int .i64 b) W := by kernel_rfl
theorem fld2 (a b : Int) (c : Bool) (W : World) : (Instr.field 53 (.agg #[.int .i64 a, .int .i64 b, .bool c]) 2).run Try.prog W = .ok (.bool c) W := by kernel_rfl
set_option maxHeartbeats 16000000 in
set_option maxRecDepth 100000 in
theorem next_calls (Z : Nat → Option Obj) (b0 g : Nat) (base : Int) (s : S) (lv ty : List Int) (sv lvv tyv : Value) (r : Bool) (W : World) (hst : St Z b0 g base s lv ty sv lvv tyv W) (hne : s.stk ≠ []) (h0 : 0 ≤ (top s).lvl) (h1 : (top s).lvl ≤ 125) :
    Calls Try.prog 53 #[.pointer (some ⟨g, 0, none⟩), .bool r] W fun e w' => e = .returned (.tuple #[.int .i64 (nl (top s).lvl r), .bool (can s r)]) ∧ Below W.heap.size W w' := by
  have HLast := Aside0.mk (last_calls Z b0 g base s lv ty sv lvv tyv W hst hne)
  have HST := Aside0.mk hst
  have hcan : can s r = (decide (nl (top s).lvl r ≤ 125) && ((s.isl : Int) == 0) && ((s.emb : Int) == 0)) := by
    rw [can, Bool.eq_iff_iff]
    simp [and_assoc]
  obtain ⟨cc, hcc⟩ : ∃ cc, can s r = cc := ⟨_, rfl⟩
  rw [hcc] at hcan ⊢
  obtain ⟨pb, hpb⟩ : ∃ pb, decide (decide (((top s).lvl + 1) % 2 = 1) = r) = pb := ⟨_, rfl⟩
  have hb : ((((top s).lvl + 1) % 2 == 1) == r) = pb := by rw [← hpb]; cases r <;> rw [Bool.eq_iff_iff] <;> simp
  have hnn : nl (top s).lvl r = if pb = true then (top s).lvl + 1 else (top s).lvl + 1 + 1 := by
    rw [nl, ← hpb]
    split
    · rename_i h; rw [if_pos (by simpa using h)]
    · rename_i h; rw [if_neg (by simpa using h)]; omega
  generalize hx : (top s).lvl = x at *
  have hf0 := fld0 x (top s).frc (top s).iso
  have e1 : wrap64 (x + 1) = x + 1 := by unfold wrap64; omega
  have hp0 : 0 ≤ x + 1 := by omega
  have hp1 : 0 ≤ x + 1 + 1 := by omega
  rw [hnn] at hcan ⊢
  clear hnn hpb hcc hst hne hx
  have hcase : (cc = false ∧ decide ((if pb = true then x + 1 else x + 1 + 1) ≤ 125) = false) ∨ (cc = false ∧ decide ((if pb = true then x + 1 else x + 1 + 1) ≤ 125) = true ∧ ((s.isl : Int) == 0) = false) ∨ (cc = false ∧ decide ((if pb = true then x + 1 else x + 1 + 1) ≤ 125) = true ∧ ((s.isl : Int) == 0) = true ∧ ((s.emb : Int) == 0) = false) ∨ (cc = true ∧ decide ((if pb = true then x + 1 else x + 1 + 1) ≤ 125) = true ∧ ((s.isl : Int) == 0) = true ∧ ((s.emb : Int) == 0) = true) := by
    rw [hcan]
    cases decide ((if pb = true then x + 1 else x + 1 + 1) ≤ 125) <;> cases ((s.isl : Int) == 0) <;> cases ((s.emb : Int) == 0) <;> simp
  clear hcan
  cases pb
  all_goals
    simp only [Bool.false_eq_true, if_false, if_true] at hcase ⊢
    rcases hcase with ⟨rfl, b1⟩ | ⟨rfl, b1, b2⟩ | ⟨rfl, b1, b2, b3⟩ | ⟨rfl, b1, b2, b3⟩
  all_goals
    go_enter Try.func53, Try.ntmps53
    go_wp2_with (first | (go_at_call 49; refine HLast.out.mono ?_; rintro e w1 ⟨rfl, hb1⟩; refine of_halt ?_))
    unfold Halt
    have HST1 := Aside0.mk (HST.out.below hb1)
    have HB1 := Aside0.mk hb1
    clear hb1
    go_upto_region 4 with (fail)
    obtain ⟨_, _, _, _, hc4, hc5, _, _, _⟩ := HST1.out.cells
    go_quiet (fail)
    go_wp2
    go_ret2
    exact ⟨rfl, pw_below_drewN HB1.out _⟩
end Go.Proofs.Yteldofimjklckaa.G
/- The state of explicit levels: push, take. By hand. -/
namespace Go.Proofs.Yteldofimjklckaa.G
open Go.RowKit Go.Proofs.YteldofimjklckaaW.PrintWords Go.Proofs.YteldofimjklckaaW.PrintLast Go.Proofs.YteldofimjklckaaW.PrintMore Go.Proofs.Yteldofimjklckaa.Exp
set_option linter.unusedVariables false
set_option linter.unusedSimpArgs false

/-- What a method without a result leaves. -/
def StPost (Z : Nat → Option Obj) (b0 g : Nat) (base : Int) (s : S) (lv ty : List Int) (W : World) (r : Ending) (e : Ending) (w' : World) : Prop := e = r ∧ ∃ sv lvv tyv, St Z b0 g base s lv ty sv lvv tyv w' ∧ Below b0 W w'
theorem StPost.of {Z : Nat → Option Obj} {b0 g : Nat} {base : Int} {s : S} {lv ty : List Int} {sv lvv tyv : Value} {W w' : World} {r : Ending} (h : St Z b0 g base s lv ty sv lvv tyv w') (hb : Below b0 W w') : StPost Z b0 g base s lv ty W r r w' := ⟨rfl, sv, lvv, tyv, h, hb⟩
set_option maxHeartbeats 8000000 in
set_option maxRecDepth 100000 in
theorem push_calls (Z : Nat → Option Obj) (b0 g : Nat) (base : Int) (s : S) (lv ty : List Int) (sv lvv tyv : Value) (r : Bool) (f : Int) (i : Bool) (W : World) (hst : St Z b0 g base s lv ty sv lvv tyv W) (hne : s.stk ≠ []) (h0 : 0 ≤ (top s).lvl) (h1 : (top s).lvl ≤ 125) (hlen : s.stk.length ≤ 1000) (hb : b0 ≤ W.heap.size) :
    Calls Try.prog 47 #[.pointer (some ⟨g, 0, none⟩), .bool r, .int .i64 f, .bool i] W (StPost Z b0 g base (if can s r = true then push s r f i else s) lv ty W (.returned (.bool (can s r)))) := by
  have HNext := Aside0.mk (next_calls Z b0 g base s lv ty sv lvv tyv r W hst hne h0 h1)
  have HST := Aside0.mk hst
  have HB := Aside0.mk hb
  have HLN := Aside0.mk hlen
  obtain ⟨cc, hcc⟩ : ∃ cc, can s r = cc := ⟨_, rfl⟩
  rw [hcc] at HNext ⊢
  clear hst hne h0 h1 hb hlen
  cases cc with
  | false =>
    rw [if_neg (by simp)]
    clear hcc
    go_enter Try.func47, Try.ntmps47
    go_wp2_with (first | (go_at_call 53; refine HNext.out.mono ?_; rintro e w1 ⟨rfl, hb1⟩))
    go_ret
    exact ⟨rfl, _, _, _, HST.out.below hb1, hb1.mono HB.out⟩
  | true =>
    rw [if_pos rfl]
    obtain ⟨nn, hnn⟩ : ∃ nn, nl (top s).lvl r = nn := ⟨_, rfl⟩
    rw [hnn] at HNext
    have HN := Aside0.mk hnn
    have info43 : (Try.prog.info? 53).map (fun i => (i.zero, i.size, i.bytes)) = some (some (.agg #[.int .i64 0, .int .i64 0, .bool false]), 3, 24) := by kernel_rfl
    clear hcc hnn
    go_enter Try.func47, Try.ntmps47
    go_upto_region 2 with (first | (go_at_call 53; refine HNext.out.mono ?_; rintro e w1 ⟨rfl, hb1⟩))
    have HST1 := Aside0.mk (HST.out.below hb1)
    have HB1 := Aside0.mk hb1
    clear hb1
    obtain ⟨hc0, _⟩ := HST1.out.cells
    have hz0 := blk_frozen HST1.out.blk 0
    go_wp2_with (first | ((with_reducible refine gate_builtin (b := .append) (xs := #[.tmp 22, .tmp 27]) rfl ?_); at_builtin; refine of_halt ?_))
    unfold Halt
    refine Kd.R_append entK (w0 := W) b0 rfl (.tmp 22) (.tmp 27) 54 53 (.agg #[.int .i64 0, .int .i64 0, .bool false]) 24 rfl Try.underlying54 info43 rfl (by decide) (by omega) sv (s.stk.reverse.map enc) (nn, f, i) [.int .i64 nn, .int .i64 f, .bool i] (fun k => Z k = none) (fun _ => False) rfl rfl (entK_M _ _ _ (nn, f, i)) (fun _ hk => hk.elim) (fun k hk => HST1.out.znew hk) HST1.out.stk (HB1.out.mono HB.out) (Nat.le_trans HB.out HB1.out.size) (by have := HLN.out; rw [List.length_map, List.length_reverse]; omega) ?_
    intro v7 w7 ho7 hb7 hg7 hat7
    obtain ⟨A7, c7, rfl⟩ := Kd.R_slice ho7
    generalize hl7 : (s.stk.reverse.map enc ++ [(nn, f, i)]).length = L7 at *
    have HX7 := Aside0.mk (blk_grown_ty HST1.out.blk HST1.out.stk hg7 (by decide))
    have hlv7 : Kd.R (Kd.int .i64) 3 w7 b0 (fun k => Z k = none ∧ some k ≠ tyv.ownBlock) lvv lv := Kd.R_mono (Kd.R_grown (Kd.R_bound HST1.out.lvs) hg7 (fun k hk e => by
      obtain ⟨_, _, _, q, hq, cells, hh⟩ := hk
      obtain ⟨cells', hh'⟩ := own_ty HST1.out.stk k e.symm
      rw [hh] at hh'
      injection hh' with hh'
      injection hh' with _ hh'
      subst hh'
      simp [Kd.int, Kd.scalar] at hq)) (fun _ hk => hk.1)
    have hty7 : Kd.R (Kd.int .i64) 3 w7 b0 (fun k => Z k = none ∧ some k ≠ lvv.ownBlock) tyv ty := Kd.R_mono (Kd.R_grown (Kd.R_bound HST1.out.tys) hg7 (fun k hk e => by
      obtain ⟨_, _, _, q, hq, cells, hh⟩ := hk
      obtain ⟨cells', hh'⟩ := own_ty HST1.out.stk k e.symm
      rw [hh] at hh'
      injection hh' with hh'
      injection hh' with _ hh'
      subst hh'
      simp [Kd.int, Kd.scalar] at hq)) (fun _ hk => hk.1)
    have hzk7 : ∀ k o, Z k = some o → w7.heap[k]? = some o := fun k o e => blk_grown (HST1.out.zk k o e) hg7 (fun q => by
      have hq := HST1.out.stk.1 k q.symm
      simp only [e] at hq
      cases hq)
    have HZK := Aside0.mk hzk7
    have HLV := Aside0.mk hlv7
    have HTY := Aside0.mk hty7
    have HO7 := Aside0.mk ho7
    have HB7 := Aside0.mk hb7
    have hd0 : w7.cell? ⟨g, 0, none⟩ = some sv := (blk_cell HX7.out 0).trans rfl
    have hy0 := blk_frozen HX7.out 0
    clear hzk7 hlv7 hty7 ho7 hb7 hg7 hat7 hc0 hz0 hl7
    go_wp2
    go_ret
    refine ⟨rfl, _, lvv, tyv, ⟨blk_put HX7.out 0 _ rfl, HST.out.ge, HST.out.zg, fun k o e => far_any (HZK.out k o e) (HST.out.zne e) _, ?_, Kd.R_set HLV.out HX7.out (by decide) 0 _, Kd.R_set HTY.out HX7.out (by decide) 0 _⟩, HB7.out.setCell (p := ⟨g, 0, none⟩) HST.out.ge _⟩
    have h8 := Kd.R_set HO7.out HX7.out (by decide) 0 (.slice A7 L7 c7)
    rw [← HN.out] at h8
    simpa [push, enc] using h8
theorem St.putLv {Z : Nat → Option Obj} {b0 g : Nat} {base : Int} {s : S} {lv ty : List Int} {sv tyv : Value} {gl n cl : Nat} {W : World} (h : St Z b0 g base s lv ty sv (.slice (some ⟨gl, 0, none⟩) n cl) tyv W) (i : Nat) (x : Int) : St Z b0 g base s (lv.set i x) ty sv (.slice (some ⟨gl, 0, none⟩) n cl) tyv (W.setCell ⟨gl, i, none⟩ (.int .i64 x)) := by
  obtain ⟨cells, hh⟩ := own_ty h.lvs gl rfl
  have hzl := (h.lvs.1 gl rfl).1
  have hne : g ≠ gl := blk_ne h.blk hh (by decide)
  refine ⟨blk_far h.blk hne _, h.ge, h.zg, fun k o e => far_any (h.zk k o e) (fun q => by rw [q, hzl] at e; cases e) _, Kd.R_set h.stk hh (by decide) i _, ?_, Kd.R_far h.tys (fun k hk e => hk.2 (by rw [e]; rfl)) _⟩
  have := Kd.R_putn h.lvs (i : Int) x
  rwa [Int.toNat_natCast] at this
theorem St.putTy {Z : Nat → Option Obj} {b0 g : Nat} {base : Int} {s : S} {lv ty : List Int} {sv lvv : Value} {gl n cl : Nat} {W : World} (h : St Z b0 g base s lv ty sv lvv (.slice (some ⟨gl, 0, none⟩) n cl) W) (i : Nat) (x : Int) : St Z b0 g base s lv (ty.set i x) sv lvv (.slice (some ⟨gl, 0, none⟩) n cl) (W.setCell ⟨gl, i, none⟩ (.int .i64 x)) := by
  obtain ⟨cells, hh⟩ := own_ty h.tys gl rfl
  have hzl := (h.tys.1 gl rfl).1
  have hne : g ≠ gl := blk_ne h.blk hh (by decide)
  refine ⟨blk_far h.blk hne _, h.ge, h.zg, fun k o e => far_any (h.zk k o e) (fun q => by rw [q, hzl] at e; cases e) _, Kd.R_set h.stk hh (by decide) i _, Kd.R_far h.lvs (fun k hk e => hk.2 (by rw [e]; rfl)) _, ?_⟩
  have := Kd.R_putn h.tys (i : Int) x
  rwa [Int.toNat_natCast] at this
/-- What take leaves. -/
def tkL (s : S) (lv : List Int) (i : Nat) : List Int := lv.set i (top s).lvl
def tkT (s : S) (ty : List Int) (i : Nat) : List Int := if (top s).frc = 1 then ty.set i 1 else if (top s).frc = 2 then ty.set i 2 else ty
set_option maxHeartbeats 8000000 in
set_option maxRecDepth 100000 in
theorem take_calls (Z : Nat → Option Obj) (b0 g : Nat) (base : Int) (s : S) (lv ty : List Int) (sv lvv tyv : Value) (i : Nat) (W : World) (hst : St Z b0 g base s lv ty sv lvv tyv W) (hne : s.stk ≠ []) (hi : i < lv.length) (hi2 : i < ty.length) (hb : b0 ≤ W.heap.size) :
    Calls Try.prog 35 #[.pointer (some ⟨g, 0, none⟩), .int .i64 (i : Int)] W (StPost Z b0 g base s (tkL s lv i) (tkT s ty i) W (.returned (.tuple #[]))) := by
  obtain ⟨gl, cl, rfl, hgl, _⟩ := Kd.R_form hst.lvs (by omega)
  obtain ⟨gt, ct, rfl, hgt, _⟩ := Kd.R_form hst.tys (by omega)
  obtain ⟨nl_, hnl⟩ : ∃ n, lv.length = n := ⟨_, rfl⟩
  obtain ⟨nt_, hnt⟩ : ∃ n, ty.length = n := ⟨_, rfl⟩
  rw [hnl] at hst hi
  rw [hnt] at hst hi2
  have hml : nl_ ≤ 9223372036854775807 := by rw [← hnl]; exact Kd.C_max (Kd.R_reads' hst.lvs).2.2
  have HLast := Aside0.mk (fun V (hb : Below W.heap.size W V) => last_calls Z b0 g base s lv ty sv _ _ V (hst.below hb) hne)
  have HST := Aside0.mk hst
  have HB := Aside0.mk hb
  have HNL := Aside0.mk (And.intro hnl hnt)
  have HGE := Aside0.mk (And.intro hgl hgt)
  have HNE := Aside0.mk hne
  obtain ⟨x, hx⟩ : ∃ x, (top s).lvl = x := ⟨_, rfl⟩
  obtain ⟨f, hf⟩ : ∃ f, (top s).frc = f := ⟨_, rfl⟩
  have hTL : tkL s lv i = lv.set i x := by rw [tkL, hx]
  have hTT : tkT s ty i = if f = 1 then ty.set i 1 else if f = 2 then ty.set i 2 else ty := by rw [tkT, hf]
  have HTT := Aside0.mk (And.intro hTL hTT)
  rw [hx, hf] at HLast
  have hf0 := fld0 x f (top s).iso
  have hf1 := fld1 x f (top s).iso
  have p1 : ((i : Int) < (nl_ : Int)) = True := eq_true (by omega)
  have p2 : (i < nl_) = True := eq_true hi
  have p3 : ((i : Int) < (nt_ : Int)) = True := eq_true (by omega)
  have p4 : (i < nt_) = True := eq_true hi2
  have HI := Aside0.mk (And.intro hi hi2)
  have HXF := Aside0.mk (And.intro hx hf)
  clear hst hne hb hnl hnt hx hf hTL hTT hml hgl hgt hi hi2
  go_enter Try.func35, Try.ntmps35
  have hzl : ∀ V : World, Below W.heap.size W V → V.cell? ⟨g, 7, none⟩ = some (.slice (some ⟨gl, 0, none⟩) nl_ cl) ∧ (∃ y, V.cell? ⟨gl, i, none⟩ = some y) ∧ V.frozen? ⟨gl, i, none⟩ = false := by
    intro V hbV
    have h2 := HST.out.below hbV
    have h3 := h2.lvs
    rw [← HNL.out.1] at h3
    have := Kd.R_cell 0 h3 (i : Int) (by omega) (by rw [HNL.out.1]; have := HI.out.1; omega)
    rw [Int.toNat_natCast] at this
    exact ⟨h2.cells.2.2.2.2.2.2.2.1, ⟨_, this.1⟩, this.2⟩
  have HZL := Aside0.mk hzl
  clear hzl
  go_upto_region 0 with (fail)
  refine start_ (n := 10) (S := fun w' => w'.cell? ⟨g, 7, none⟩ = some (.slice (some ⟨gl, 0, none⟩) nl_ cl)) (ds := [9]) #[false, false, false, false, false, false, false, false, false, false] (by kernel_rfl) rfl rfl ((HZL.out _ (below_drew1 (Below.refl _ _))).1) (fun hHeld => ?_)
  refine pure_ (i := 0) (N := some 4) (v := ?_) (a' := ?_) #[true, false, false, false, false, false, false, false, false, false] rfl rfl (by kernel_rfl) (fun _ _ _ h => h) (Or.inl ⟨by rfl, ?_⟩) ?_ ?_
  rotate_left
  · intro w'
    go_simp
    with_reducible rfl
  rotate_left
  · simp only [Act.put, List.setIfInBounds_toArray, List.set_cons_zero, List.set_cons_succ, i64_w, i32_w]
    rfl
  refine pure_ (i := 1) (N := some 5) (v := ?_) (a' := ?_) #[true, true, false, false, false, false, false, false, false, false] rfl rfl (by kernel_rfl) (fun _ _ _ h => h) (Or.inl ⟨by rfl, ?_⟩) ?_ ?_
  rotate_left
  · intro w'
    go_simp
    with_reducible rfl
  rotate_left
  · simp only [Act.put, List.setIfInBounds_toArray, List.set_cons_zero, List.set_cons_succ, i64_w, i32_w]
    rfl
  refine pure_ (i := 2) (N := some 6) (v := ?_) (a' := ?_) #[true, true, true, false, false, false, false, false, false, false] rfl rfl (by kernel_rfl) (fun _ _ _ h => h) (Or.inl ⟨by rfl, ?_⟩) ?_ ?_
  rotate_left
  · intro w'
    go_simp
    with_reducible rfl
  rotate_left
  · simp only [Act.put, List.setIfInBounds_toArray, List.set_cons_zero, List.set_cons_succ, i64_w, i32_w]
    rfl
  refine pure_ (i := 4) (N := some 8) (v := ?_) (a' := ?_) #[true, true, true, false, true, false, false, false, false, false] rfl rfl (by kernel_rfl) (fun _ _ _ h => h) (Or.inl ⟨by rfl, ?_⟩) ?_ ?_
  rotate_left
  · intro w'
    go_simp
    with_reducible rfl
  rotate_left
  · simp only [Act.put, List.setIfInBounds_toArray, List.set_cons_zero, List.set_cons_succ, i64_w, i32_w]
    rfl
  refine pure_ (i := 5) (N := some 9) (v := ?_) (a' := ?_) #[true, true, true, false, true, true, false, false, false, false] rfl rfl (by kernel_rfl) (fun _ _ _ h => h) (Or.inl ⟨by rfl, ?_⟩) ?_ ?_
  rotate_left
  · intro w'
    go_simp
    with_reducible rfl
  rotate_left
  · simp only [Act.put, List.setIfInBounds_toArray, List.set_cons_zero, List.set_cons_succ, i64_w, i32_w]
    rfl
  refine take_ (i := 3) (N := some 7) (v := ?_) (a' := ?_) #[true, true, true, true, true, true, false, false, false, false] rfl rfl (by kernel_rfl) (fun _ _ _ h => h) (Or.inl ⟨by rfl, ?_⟩) hHeld ?_ ?_
  rotate_left
  · intro w' s0
    go_simp
    with_reducible rfl
  rotate_left
  · simp only [Act.put, List.setIfInBounds_toArray, List.set_cons_zero, List.set_cons_succ, i64_w, i32_w]
    rfl
  refine one_ (i := 6) (N := some 10) #[true, true, true, true, true, true, true, false, false, false] rfl rfl (by kernel_rfl) (by decide) (fun K hK => ?_)
  refine goes_ Try.func49 (by kernel_rfl) rfl #[.pointer (some ⟨g, 0, none⟩)] (by rfl) rfl rfl (by simp only [List.map_toArray, List.map_cons, List.map_nil]; rfl) ?_
  with_reducible refine (HLast.out _ (below_drew1 (Below.refl _ _))).mono ?_
  rintro e w3 ⟨rfl, hb3⟩
  refine ⟨_, rfl, ?_⟩
  have HB3 := Aside0.mk (below_step (below_drew1 (Below.refl W.heap.size W)) hb3)
  obtain ⟨_, ⟨y3, hy3⟩, hz3⟩ := HZL.out _ HB3.out
  clear hb3
  refine hK.out _ _ ((HZL.out _ HB3.out).1) (fun hHeld => ?_)
  clear hK K
  refine norm_ (a' := ?_) ?_ ?_
  rotate_left
  · show Act.put _ (some 10) _ = _
    simp only [Act.put, List.setIfInBounds_toArray, List.set_cons_zero, List.set_cons_succ, i64_w, i32_w]
    rfl
  refine pure_ (i := 7) (N := some 11) (v := ?_) (a' := ?_) #[true, true, true, true, true, true, true, true, false, false] rfl rfl (by kernel_rfl) (fun _ _ _ h => h) (Or.inl ⟨by rfl, ?_⟩) ?_ ?_
  rotate_left
  · intro w'
    go_simp
    with_reducible rfl
  rotate_left
  · simp only [Act.put, List.setIfInBounds_toArray, List.set_cons_zero, List.set_cons_succ, i64_w, i32_w]
    rfl
  refine pure_ (i := 8) (N := some 12) (v := ?_) (a' := ?_) #[true, true, true, true, true, true, true, true, true, false] rfl rfl (by kernel_rfl) (fun _ _ _ h => h) (Or.inl ⟨by rfl, ?_⟩) ?_ ?_
  rotate_left
  · intro w'
    go_simp
    with_reducible rfl
  rotate_left
  · simp only [Act.put, List.setIfInBounds_toArray, List.set_cons_zero, List.set_cons_succ, i64_w, i32_w]
    rfl
  refine last_ (i := 9) (N := none) #[true, true, true, true, true, true, true, true, true, true] rfl rfl (by kernel_rfl) (by decide) (fun K hK => ?_)
  refine skip_ (w1 := ?_) (by rfl) rfl ?_ ?_
  rotate_left
  · go_simp
    rfl
  refine hK.out _ _ ?_
  clear hK K
  refine done_ (by kernel_rfl) ?_
  have HST4 := Aside0.mk ((HST.out.below HB3.out).putLv i x)
  have HB4 := Aside0.mk ((HB3.out.mono HB.out).setCell (p := ⟨gl, i, none⟩) HGE.out.1 (.int .i64 x))
  have hsz : W.heap.size ≤ (w3.setCell ⟨gl, i, none⟩ (.int .i64 x)).heap.size := by have := HB3.out.size; simpa [World.setCell] using this
  have HSZ := Aside0.mk hsz
  clear hy3 hz3 HB3 HZL hsz
  generalize w3.setCell ⟨gl, i, none⟩ (.int .i64 x) = W4 at *
  have hl4 := last_calls Z b0 g base s (lv.set i x) ty sv _ _ W4 HST4.out HNE.out
  rw [HXF.out.1, HXF.out.2] at hl4
  have HLast4 := Aside0.mk hl4
  clear hl4
  by_cases f1 : f = 1
  · have b1 : (f == 1) = true := by rw [f1]; rfl
    have HT2 := Aside0.mk (HTT.out.2.trans (if_pos f1))
    clear f1
    go_wp2_with (first | (go_at_call 49; refine HLast4.out.mono ?_; rintro e w5 ⟨rfl, hb5⟩; refine of_halt ?_))
    unfold Halt
    have HST5 := Aside0.mk (HST4.out.below hb5)
    have HB5 := Aside0.mk (HB4.out.trans (hb5.mono (Nat.le_trans HB.out HSZ.out)))
    obtain ⟨_, _, _, _, _, _, _, _, hc8⟩ := HST5.out.cells
    have h5 := HST5.out.tys
    rw [← HNL.out.2] at h5
    obtain ⟨hy5, hz5⟩ := Kd.R_cell 0 h5 (i : Int) (by omega) (by rw [HNL.out.2]; have := HI.out.2; omega)
    rw [Int.toNat_natCast] at hy5 hz5
    clear hb5 h5
    go_wp2
    go_end0
    have hfin := HST5.out.putTy i 1
    rw [← HT2.out, ← HTT.out.1] at hfin
    exact StPost.of hfin (HB5.out.setCell (p := ⟨gt, i, none⟩) HGE.out.2 _)
  · have b1 : (f == 1) = false := beq_eq_false_iff_ne.2 f1
    by_cases f2 : f = 2
    · have b2 : (f == 2) = true := by rw [f2]; rfl
      have HT2 := Aside0.mk ((HTT.out.2.trans (if_neg f1)).trans (if_pos f2))
      clear f1 f2
      go_wp2_with (first | (go_at_call 49; refine HLast4.out.mono ?_; rintro e w5 ⟨rfl, hb5⟩; refine of_halt ?_))
      unfold Halt
      have HST5 := Aside0.mk (HST4.out.below hb5)
      have HB5 := Aside0.mk (HB4.out.trans (hb5.mono (Nat.le_trans HB.out HSZ.out)))
      obtain ⟨_, _, _, _, _, _, _, _, hc8⟩ := HST5.out.cells
      have h5 := HST5.out.tys
      rw [← HNL.out.2] at h5
      obtain ⟨hy5, hz5⟩ := Kd.R_cell 0 h5 (i : Int) (by omega) (by rw [HNL.out.2]; have := HI.out.2; omega)
      rw [Int.toNat_natCast] at hy5 hz5
      clear hb5 h5
      go_wp2
      go_end0
      have hfin := HST5.out.putTy i 2
      rw [← HT2.out, ← HTT.out.1] at hfin
      exact StPost.of hfin (HB5.out.setCell (p := ⟨gt, i, none⟩) HGE.out.2 _)
    · have b2 : (f == 2) = false := beq_eq_false_iff_ne.2 f2
      have HT2 := Aside0.mk ((HTT.out.2.trans (if_neg f1)).trans (if_neg f2))
      clear f1 f2
      go_wp2_with (first | (go_at_call 49; refine HLast4.out.mono ?_; rintro e w5 ⟨rfl, hb5⟩))
      go_end0
      have hfin := HST4.out.below hb5
      rw [← HTT.out.1] at hfin
      rw [HT2.out]
      exact StPost.of hfin (HB4.out.trans (hb5.mono (Nat.le_trans HB.out HSZ.out)))
end Go.Proofs.Yteldofimjklckaa.G
/- The state of explicit levels: embed, begin, end, pop. By hand. -/
namespace Go.Proofs.Yteldofimjklckaa.G
open Go.RowKit Go.Proofs.YteldofimjklckaaW.PrintWords Go.Proofs.YteldofimjklckaaW.PrintLast Go.Proofs.YteldofimjklckaaW.PrintMore Go.Proofs.Yteldofimjklckaa.Exp
set_option linter.unusedVariables false
set_option linter.unusedSimpArgs false

/-- What every state on the way meets. -/
structure Fits (s : S) : Prop where
  ne : s.stk ≠ []
  lo : 0 ≤ (top s).lvl
  hi : (top s).lvl ≤ 125
  len : s.stk.length ≤ 1000
  isl : s.isl ≤ 4611686018427387904
  emb : s.emb ≤ 4611686018427387904
  val : s.val ≤ 4611686018427387904
theorem cast1 (n : Nat) (h : n ≤ 4611686018427387904) : wrap64 ((n : Int) + 1) = ((n + 1 : Nat) : Int) := by unfold wrap64; omega
theorem cast2 (n : Nat) (h : n ≤ 4611686018427387904) (h0 : 0 < n) : wrap64 ((n : Int) - 1) = ((n - 1 : Nat) : Int) := by unfold wrap64; omega
set_option maxHeartbeats 16000000 in
set_option maxRecDepth 100000 in
theorem embed_calls (Z : Nat → Option Obj) (b0 g : Nat) (base : Int) (s : S) (lv ty : List Int) (sv lvv tyv : Value) (x : Int) (W : World) (hst : St Z b0 g base s lv ty sv lvv tyv W) (hf : Fits s) (hb : b0 ≤ W.heap.size) (hx : x = 15 ∨ x = 16 ∨ x = 17 ∨ x = 18) :
    Calls Try.prog 30 #[.pointer (some ⟨g, 0, none⟩), .int .i64 x] W (StPost Z b0 g base (embed s x) lv ty W (.returned (.tuple #[]))) := by
  have hp := push_calls Z b0 g base s lv ty sv lvv tyv (rgt x) (frcOf x) false W hst hf.ne hf.lo hf.hi hf.len hb
  have HF := Aside0.mk hf
  have hcase : (can s (rgt x) = true ∧ embed s x = push s (rgt x) (frcOf x) false) ∨ (can s (rgt x) = false ∧ ((s.isl : Int) == 0) = true ∧ embed s x = ⟨s.stk, s.isl, s.emb + 1, s.val⟩) ∨ (can s (rgt x) = false ∧ ((s.isl : Int) == 0) = false ∧ embed s x = s) := by
    unfold embed
    by_cases h1 : can s (rgt x) = true
    · exact .inl ⟨h1, if_pos h1⟩
    · by_cases h2 : s.isl = 0
      · exact .inr (.inl ⟨by simpa using h1, by simp [h2], by rw [if_neg h1, if_pos h2]⟩)
      · exact .inr (.inr ⟨by simpa using h1, by simp [h2], by rw [if_neg h1, if_neg h2]⟩)
  have hcc : ∀ y, y = embed s x → StPost Z b0 g base (embed s x) lv ty W = StPost Z b0 g base y lv ty W := fun y h => by rw [h]
  rcases hcase with ⟨h1, h2⟩ | ⟨h1, h3, h2⟩ | ⟨h1, h3, h2⟩
  · rw [h2]
    rw [h1, if_pos rfl] at hp
    have HP := Aside0.mk hp
    clear hp hst hf hb h2 h1 hcc
    rcases hx with rfl | rfl | rfl | rfl
    all_goals
      go_enter Try.func30, Try.ntmps30
      go_wp2_with (first | (go_at_call 47; refine HP.out.mono ?_; rintro e w5 ⟨rfl, sv5, lvv5, tyv5, hst5, hb5⟩))
      go_end0
      exact StPost.of hst5 hb5
  · rw [h2]
    rw [h1, if_neg (by simp)] at hp
    have HP := Aside0.mk hp
    clear hp hst hf hb h2 h1 hcc
    rcases hx with rfl | rfl | rfl | rfl
    all_goals
      go_enter Try.func30, Try.ntmps30
      go_wp2_with (first | (go_at_call 47; refine HP.out.mono ?_; rintro e w5 ⟨rfl, sv5, lvv5, tyv5, hst5, hb5⟩; refine of_halt ?_))
      unfold Halt
      have HST5 := Aside0.mk hst5
      have HB5 := Aside0.mk hb5
      obtain ⟨_, _, _, _, hc4, hc5, _, _, _⟩ := hst5.cells
      have hz5 := blk_frozen hst5.blk 5
      clear hst5 hb5
      go_wp2
      go_end0
      refine StPost.of (HST5.out.put (s' := ⟨s.stk, s.isl, s.emb + 1, s.val⟩) 5 _ rfl ?_) (HB5.out.setCell (p := ⟨g, 5, none⟩) HST5.out.ge _)
      rw [cast1 s.emb HF.out.emb]
      rfl
  · rw [h2]
    rw [h1, if_neg (by simp)] at hp
    have HP := Aside0.mk hp
    clear hp hst hf hb h2 h1 hcc
    rcases hx with rfl | rfl | rfl | rfl
    all_goals
      go_enter Try.func30, Try.ntmps30
      go_wp2_with (first | (go_at_call 47; refine HP.out.mono ?_; rintro e w5 ⟨rfl, sv5, lvv5, tyv5, hst5, hb5⟩; refine of_halt ?_))
      unfold Halt
      have HST5 := Aside0.mk hst5
      have HB5 := Aside0.mk hb5
      obtain ⟨_, _, _, _, hc4, hc5, _, _, _⟩ := hst5.cells
      clear hst5 hb5
      go_wp2
      go_end0
      exact StPost.of HST5.out HB5.out
set_option maxHeartbeats 16000000 in
set_option maxRecDepth 100000 in
theorem begin_calls (Z : Nat → Option Obj) (b0 g : Nat) (base : Int) (s : S) (lv ty : List Int) (sv lvv tyv : Value) (i : Nat) (r : Bool) (W : World) (hst : St Z b0 g base s lv ty sv lvv tyv W) (hf : Fits s) (hb : b0 ≤ W.heap.size) (hi : i < lv.length) (hi2 : i < ty.length) :
    Calls Try.prog 31 #[.pointer (some ⟨g, 0, none⟩), .int .i64 (i : Int), .bool r] W (StPost Z b0 g base (begin_ s r) (tkL s lv i) (tkT s ty i) W (.returned (.tuple #[]))) := by
  have HTk := Aside0.mk (take_calls Z b0 g base s lv ty sv lvv tyv i W hst hf.ne hi hi2 hb)
  have HPu := Aside0.mk (fun (sv lvv tyv : Value) (V : World) (h : St Z b0 g base s (tkL s lv i) (tkT s ty i) sv lvv tyv V) (hbV : b0 ≤ V.heap.size) => push_calls Z b0 g base s (tkL s lv i) (tkT s ty i) sv lvv tyv r 0 true V h hf.ne hf.lo hf.hi hf.len hbV)
  have HF := Aside0.mk hf
  have HB := Aside0.mk hb
  clear hst hf hb hi hi2
  by_cases h1 : can s r = true
  · have hbg : begin_ s r = ⟨(push s r 0 true).stk, s.isl, s.emb, s.val + 1⟩ := by unfold begin_; rw [if_pos h1]; rfl
    rw [h1] at HPu
    simp only [if_true] at HPu
    rw [hbg]
    clear hbg h1
    go_enter Try.func31, Try.ntmps31
    go_wp2_with (first | (go_at_call 35; refine HTk.out.mono ?_; rintro e w4 ⟨rfl, sv4, lvv4, tyv4, hst4, hb4⟩; refine of_halt ?_))
    unfold Halt
    have HB4 := Aside0.mk hb4
    have HP4 := Aside0.mk (HPu.out _ _ _ _ hst4 (Nat.le_trans HB.out hb4.size))
    clear hst4 hb4
    go_wp2_with (first | (go_at_call 47; refine HP4.out.mono ?_; rintro e w5 ⟨rfl, sv5, lvv5, tyv5, hst5, hb5⟩; refine of_halt ?_))
    unfold Halt
    have HST5 := Aside0.mk hst5
    have HB5 := Aside0.mk (HB4.out.trans hb5)
    obtain ⟨_, _, _, _, _, _, hc6, _, _⟩ := hst5.cells
    have hz6 := blk_frozen hst5.blk 6
    clear hst5 hb5
    go_wp2
    go_end0
    refine StPost.of (HST5.out.put (s' := ⟨(push s r 0 true).stk, s.isl, s.emb, s.val + 1⟩) 6 _ rfl ?_) (HB5.out.setCell (p := ⟨g, 6, none⟩) HST5.out.ge _)
    rw [show wrap64 (((push s r 0 true).val : Int) + 1) = ((s.val + 1 : Nat) : Int) from cast1 s.val HF.out.val]
    rfl
  · have hbg : begin_ s r = ⟨s.stk, s.isl + 1, s.emb, s.val⟩ := by unfold begin_; rw [if_neg h1]
    have h1f : can s r = false := by simpa using h1
    rw [h1f] at HPu
    simp only [Bool.false_eq_true, if_false] at HPu
    rw [hbg]
    clear hbg h1 h1f
    go_enter Try.func31, Try.ntmps31
    go_wp2_with (first | (go_at_call 35; refine HTk.out.mono ?_; rintro e w4 ⟨rfl, sv4, lvv4, tyv4, hst4, hb4⟩; refine of_halt ?_))
    unfold Halt
    have HB4 := Aside0.mk hb4
    have HP4 := Aside0.mk (HPu.out _ _ _ _ hst4 (Nat.le_trans HB.out hb4.size))
    clear hst4 hb4
    go_wp2_with (first | (go_at_call 47; refine HP4.out.mono ?_; rintro e w5 ⟨rfl, sv5, lvv5, tyv5, hst5, hb5⟩; refine of_halt ?_))
    unfold Halt
    have HST5 := Aside0.mk hst5
    have HB5 := Aside0.mk (HB4.out.trans hb5)
    obtain ⟨_, _, _, _, hc4, _, _, _, _⟩ := hst5.cells
    have hz4 := blk_frozen hst5.blk 4
    clear hst5 hb5
    go_wp2
    go_end0
    refine StPost.of (HST5.out.put (s' := ⟨s.stk, s.isl + 1, s.emb, s.val⟩) 4 _ rfl ?_) (HB5.out.setCell (p := ⟨g, 4, none⟩) HST5.out.ge _)
    rw [cast1 s.isl HF.out.isl]
    rfl
/-- The stack without its last entry. -/
theorem St.cut {Z : Nat → Option Obj} {b0 g : Nat} {base : Int} {s s' : S} {lv ty : List Int} {A : Option Addr} {n c : Nat} {lvv tyv : Value} {W : World} (h : St Z b0 g base s lv ty (.slice A n c) lvv tyv W) (m : Nat) (hm : n = m + 1) (hs : s' = ⟨s.stk.tail, s.isl, s.emb, s.val⟩) : St Z b0 g base s' lv ty (.slice A m c) lvv tyv (W.setCell ⟨g, 0, none⟩ (.slice A m c)) := by
  have hl := (Kd.R_reads' h.stk).1
  rw [List.length_map, List.length_reverse] at hl
  subst hs
  refine ⟨blk_put h.blk 0 _ rfl, h.ge, h.zg, fun k o e => far_any (h.zk k o e) (h.zne e) _, Kd.R_set ?_ h.blk (by decide) 0 _, Kd.R_set h.lvs h.blk (by decide) 0 _, Kd.R_set h.tys h.blk (by decide) 0 _⟩
  have := Kd.R_take (m := m) h.stk (by rw [List.length_map, List.length_reverse]; omega)
  rwa [show (s.stk.reverse.map enc).take m = s.stk.tail.reverse.map enc from ?_] at this
  cases hs : s.stk with
  | nil => rw [hs] at hl; simp at hl; omega
  | cons e t =>
    rw [hs] at hl
    simp only [List.length_cons] at hl
    rw [List.reverse_cons, List.map_append, List.take_append_of_le_length (by rw [List.length_map, List.length_reverse]; omega), List.take_of_length_le (by rw [List.length_map, List.length_reverse]; omega)]
    rfl
set_option maxHeartbeats 16000000 in
set_option maxRecDepth 100000 in
/-- 's.stack = s.stack[:len(s.stack)-1]', in each of its places: what a walk behind it needs. -/
theorem cut_facts {Z : Nat → Option Obj} {b0 g : Nat} {base : Int} {s : S} {lv ty : List Int} {sv lvv tyv : Value} {W : World} (h : St Z b0 g base s lv ty sv lvv tyv W) (hf : 1 < s.stk.length) :
    ∃ A N m c, sv = .slice A N c ∧ N = m + 1 ∧ N = s.stk.length ∧ N ≤ c ∧ N ≤ 9223372036854775807 ∧ wrap64 ((N : Int) - 1) = (m : Int) := by
  obtain ⟨A, c, hsv, hc, hC⟩ := Kd.R_reads h.stk
  rw [List.length_map, List.length_reverse] at hsv hc
  have hm := Kd.C_max hC
  rw [List.length_map, List.length_reverse] at hm
  refine ⟨A, s.stk.length, s.stk.length - 1, c, hsv, by omega, rfl, hc, hm, by unfold wrap64; omega⟩
set_option maxHeartbeats 16000000 in
set_option maxRecDepth 100000 in
theorem end_calls (Z : Nat → Option Obj) (b0 g : Nat) (base : Int) (s : S) (lv ty : List Int) (sv lvv tyv : Value) (i : Nat) (W : World) (hst : St Z b0 g base s lv ty sv lvv tyv W) (hf : Fits s) (hI : Inv base s) (hb : b0 ≤ W.heap.size) (hi : i < lv.length) (hi2 : i < ty.length) :
    Calls Try.prog 33 #[.pointer (some ⟨g, 0, none⟩), .int .i64 (i : Int)] W (StPost Z b0 g base (fin s) (tkL (fin s) lv i) (tkT (fin s) ty i) W (.returned (.tuple #[]))) := by
  have HF := Aside0.mk hf
  have HB := Aside0.mk hb
  have HST := Aside0.mk hst
  have HTk := Aside0.mk (fun (s' : S) (sv lvv tyv : Value) (V : World) (h : St Z b0 g base s' lv ty sv lvv tyv V) (hne : s'.stk ≠ []) (hbV : b0 ≤ V.heap.size) => take_calls Z b0 g base s' lv ty sv lvv tyv i V h hne hi hi2 hbV)
  by_cases h1 : 0 < s.isl
  · have hfin : fin s = ⟨s.stk, s.isl - 1, s.emb, s.val⟩ := by unfold fin; rw [if_pos h1]
    rw [hfin]
    have b1 : decide ((0 : Int) < (s.isl : Int)) = true := decide_eq_true (by omega)
    have b1b : decide (0 < s.isl) = true := decide_eq_true h1
    obtain ⟨_, _, _, _, hc4, _, _, _, _⟩ := hst.cells
    have hz4 := blk_frozen hst.blk 4
    have e1 := cast2 s.isl hf.isl h1
    have HS2 := Aside0.mk (hst.put (s' := ⟨s.stk, s.isl - 1, s.emb, s.val⟩) 4 (.int .i64 (wrap64 ((s.isl : Int) - 1))) rfl (by rw [e1]; rfl))
    have HE1 := Aside0.mk e1
    have hge := hst.ge
    have HSZ := Aside0.mk (show b0 ≤ (W.setCell ⟨g, 4, none⟩ (.int .i64 (wrap64 ((s.isl : Int) - 1)))).heap.size by simpa [World.setCell] using hb)
    have HBB := Aside0.mk ((Below.refl b0 W).setCell (p := ⟨g, 4, none⟩) hge (.int .i64 (wrap64 ((s.isl : Int) - 1))))
    clear hst hf hI hb hi hi2 h1 hfin e1 hge
    go_enter Try.func33, Try.ntmps33
    go_upto_region 8 with (fail)
    generalize W.setCell ⟨g, 4, none⟩ (.int .i64 (wrap64 ((s.isl : Int) - 1))) = W2 at *
    have HT2 := Aside0.mk (HTk.out _ _ _ _ W2 HS2.out HF.out.ne HSZ.out)
    go_wp2_with (first | (go_at_call 35; refine HT2.out.mono ?_; rintro e w4 ⟨rfl, sv4, lvv4, tyv4, hst4, hb4⟩))
    go_end0
    exact StPost.of hst4 (HBB.out.trans hb4)
  · have b1 : decide ((0 : Int) < (s.isl : Int)) = false := decide_eq_false (by omega)
    have b1b : decide (0 < s.isl) = false := decide_eq_false h1
    by_cases h2 : 0 < s.val
    · have hfin : fin s = ⟨unto s.stk, s.isl, 0, s.val - 1⟩ := by unfold fin; rw [if_neg h1, if_pos h2]
      rw [hfin]
      have b2 : decide ((0 : Int) < (s.val : Int)) = true := decide_eq_true (by omega)
      have b2b : decide (0 < s.val) = true := decide_eq_true h2
      obtain ⟨_, _, _, _, hc4, hc5, hc6, _, _⟩ := hst.cells
      have hz5 := blk_frozen hst.blk 5
      have HS2 := Aside0.mk (hst.put (s' := ⟨s.stk, s.isl, 0, s.val⟩) 5 (.int .i64 0) rfl rfl)
      have HGE := Aside0.mk hst.ge
      have HSZ := Aside0.mk (show b0 ≤ (W.setCell ⟨g, 5, none⟩ (.int .i64 0)).heap.size by simpa [World.setCell] using hb)
      have HBB := Aside0.mk ((Below.refl b0 W).setCell (p := ⟨g, 5, none⟩) hst.ge (.int .i64 0))
      have HGd := Aside0.mk hI.good
      have HCn := Aside0.mk (show 0 < cnt s.stk by rw [← hI.val]; exact h2)
      have HV := Aside0.mk (cast2 s.val hf.val h2)
      clear hst hf hI hb hi hi2 h1 hfin h2
      go_enter Try.func33, Try.ntmps33
      go_upto_block 0 with (fail)
      generalize W.setCell ⟨g, 5, none⟩ (.int .i64 0) = W2 at *
      clear hc4 hc5 hc6 hz5
      go_wp2
      go_loopg [] (s.stk.length + 1) (fun kq w' => ∃ (l : List E) (sv' lvv' tyv' : Value), Aside0 (St Z b0 g base ⟨l, s.isl, 0, s.val⟩ lv ty sv' lvv' tyv' w') ∧ Aside0 (Exp.Good base l ∧ 0 < cnt l ∧ unto l = unto s.stk) ∧ Aside0 (kq = l.length + 1) ∧ Aside0 (Below b0 W w' ∧ b0 ≤ w'.heap.size))
      case atStart => exact ⟨s.stk, _, _, _, HS2, ⟨HGd.out, HCn.out, rfl⟩, ⟨rfl⟩, ⟨HBB.out, HSZ.out⟩⟩
      case round =>
        clear HS2 HGd HCn HBB HSZ
        obtain ⟨l, sv', lvv', tyv', HS, HL, HK, HBW⟩ := hrel
        cases l with
        | nil => exact absurd HL.out.1 (fun h => h.elim)
        | cons x t =>
          have hlen : 1 < (x :: t).length := by
            cases t with
            | nil =>
              rcases HL.out.1 with ⟨rfl, _⟩ | ⟨_, _, _, _, h⟩
              · have := HL.out.2.1; simp [cnt] at this
              · exact h.elim
            | cons y t => simp
          obtain ⟨A, N, m, c, rfl, hN, hNl, hNc, hNm, eN⟩ := cut_facts HS.out hlen
          have hl1 := last_calls Z b0 g base ⟨x :: t, s.isl, 0, s.val⟩ lv ty _ _ _ wr HS.out (by simp)
          rw [show top ⟨x :: t, s.isl, 0, s.val⟩ = x from rfl] at hl1
          obtain ⟨xi, hxi⟩ : ∃ b, x.iso = b := ⟨_, rfl⟩
          rw [hxi] at hl1
          have HLa := Aside0.mk hl1
          have hf2 := fld2 x.lvl x.frc xi
          have p1 : ((m : Int) ≤ (c : Int)) = True := eq_true (by omega)
          have p2 : (m ≤ c) = True := eq_true (by omega)
          have HN := Aside0.mk hN
          have HXI := Aside0.mk hxi
          have hm0 : (0 : Int) ≤ (m : Int) := by omega
          clear hl1 hxi hlen hN hNl hNc hNm
          go_wp2_with (first | (go_at_call 49; refine HLa.out.mono ?_; rintro e w5 ⟨rfl, hb5⟩; refine of_halt ?_))
          unfold Halt
          have HS5 := Aside0.mk (HS.out.below hb5)
          have HB5 := Aside0.mk (And.intro (HBW.out.1.trans (hb5.mono HBW.out.2)) (Nat.le_trans HBW.out.2 hb5.size))
          have HC0 := Aside0.mk HS5.out.cells.1
          have hz0 := blk_frozen HS5.out.blk 0
          clear hb5
          cases xi with
          | false =>
            go_upto_region 5 with (fail)
            refine start_ (n := 15) (S := fun w' => w'.cell? ⟨g, 0, none⟩ = some (.slice A N c)) (ds := [14]) #[false, false, false, false, false, false, false, false, false, false, false, false, false, false, false] (by kernel_rfl) rfl rfl ((by exact HC0.out)) (fun hHeld => ?_)
            refine pure_ (i := 0) (N := some 28) (v := ?_) (a' := ?_) #[true, false, false, false, false, false, false, false, false, false, false, false, false, false, false] rfl rfl (by kernel_rfl) (fun _ _ _ h => h) (Or.inl ⟨by rfl, ?_⟩) ?_ ?_
            rotate_left
            · intro w'
              go_simp
              with_reducible rfl
            rotate_left
            · simp only [Act.put, List.setIfInBounds_toArray, List.set_cons_zero, List.set_cons_succ, i64_w, i32_w]
              rfl
            refine pure_ (i := 1) (N := some 29) (v := ?_) (a' := ?_) #[true, true, false, false, false, false, false, false, false, false, false, false, false, false, false] rfl rfl (by kernel_rfl) (fun _ _ _ h => h) (Or.inl ⟨by rfl, ?_⟩) ?_ ?_
            rotate_left
            · intro w'
              go_simp
              with_reducible rfl
            rotate_left
            · simp only [Act.put, List.setIfInBounds_toArray, List.set_cons_zero, List.set_cons_succ, i64_w, i32_w]
              rfl
            refine pure_ (i := 2) (N := some 30) (v := ?_) (a' := ?_) #[true, true, true, false, false, false, false, false, false, false, false, false, false, false, false] rfl rfl (by kernel_rfl) (fun _ _ _ h => h) (Or.inl ⟨by rfl, ?_⟩) ?_ ?_
            rotate_left
            · intro w'
              go_simp
              with_reducible rfl
            rotate_left
            · simp only [Act.put, List.setIfInBounds_toArray, List.set_cons_zero, List.set_cons_succ, i64_w, i32_w]
              rfl
            refine pure_ (i := 3) (N := some 31) (v := ?_) (a' := ?_) #[true, true, true, true, false, false, false, false, false, false, false, false, false, false, false] rfl rfl (by kernel_rfl) (fun _ _ _ h => h) (Or.inl ⟨by rfl, ?_⟩) ?_ ?_
            rotate_left
            · intro w'
              go_simp
              with_reducible rfl
            rotate_left
            · simp only [Act.put, List.setIfInBounds_toArray, List.set_cons_zero, List.set_cons_succ, i64_w, i32_w]
              rfl
            refine pure_ (i := 5) (N := some 33) (v := ?_) (a' := ?_) #[true, true, true, true, false, true, false, false, false, false, false, false, false, false, false] rfl rfl (by kernel_rfl) (fun _ _ _ h => h) (Or.inl ⟨by rfl, ?_⟩) ?_ ?_
            rotate_left
            · intro w'
              go_simp
              with_reducible rfl
            rotate_left
            · simp only [Act.put, List.setIfInBounds_toArray, List.set_cons_zero, List.set_cons_succ, i64_w, i32_w]
              rfl
            refine pure_ (i := 6) (N := some 34) (v := ?_) (a' := ?_) #[true, true, true, true, false, true, true, false, false, false, false, false, false, false, false] rfl rfl (by kernel_rfl) (fun _ _ _ h => h) (Or.inl ⟨by rfl, ?_⟩) ?_ ?_
            rotate_left
            · intro w'
              go_simp
              with_reducible rfl
            rotate_left
            · simp only [Act.put, List.setIfInBounds_toArray, List.set_cons_zero, List.set_cons_succ, i64_w, i32_w]
              rfl
            refine pure_ (i := 7) (N := some 35) (v := ?_) (a' := ?_) #[true, true, true, true, false, true, true, true, false, false, false, false, false, false, false] rfl rfl (by kernel_rfl) (fun _ _ _ h => h) (Or.inl ⟨by rfl, ?_⟩) ?_ ?_
            rotate_left
            · intro w'
              go_simp
              with_reducible rfl
            rotate_left
            · simp only [Act.put, List.setIfInBounds_toArray, List.set_cons_zero, List.set_cons_succ, i64_w, i32_w]
              rfl
            refine take_ (i := 4) (N := some 32) (v := ?_) (a' := ?_) #[true, true, true, true, true, true, true, true, false, false, false, false, false, false, false] rfl rfl (by kernel_rfl) (fun _ _ _ h => h) (Or.inl ⟨by rfl, ?_⟩) hHeld ?_ ?_
            rotate_left
            · intro w' s0
              go_simp
              with_reducible rfl
            rotate_left
            · simp only [Act.put, List.setIfInBounds_toArray, List.set_cons_zero, List.set_cons_succ, i64_w, i32_w]
              rfl
            refine take_ (i := 8) (N := some 36) (v := ?_) (a' := ?_) #[true, true, true, true, true, true, true, true, true, false, false, false, false, false, false] rfl rfl (by kernel_rfl) (fun _ _ _ h => h) (Or.inl ⟨by rfl, ?_⟩) hHeld ?_ ?_
            rotate_left
            · intro w' s0
              go_simp
              with_reducible rfl
            rotate_left
            · simp only [Act.put, List.setIfInBounds_toArray, List.set_cons_zero, List.set_cons_succ, i64_w, i32_w]
              rfl
            refine pure_ (i := 9) (N := some 37) (v := ?_) (a' := ?_) #[true, true, true, true, true, true, true, true, true, true, false, false, false, false, false] rfl rfl (by kernel_rfl) (fun _ _ _ h => h) (Or.inl ⟨by rfl, ?_⟩) ?_ ?_
            rotate_left
            · intro w'
              go_simp
              with_reducible rfl
            rotate_left
            · simp only [Act.put, List.setIfInBounds_toArray, List.set_cons_zero, List.set_cons_succ, i64_w, i32_w]
              rfl
            refine pure_ (i := 10) (N := some 38) (v := ?_) (a' := ?_) #[true, true, true, true, true, true, true, true, true, true, true, false, false, false, false] rfl rfl (by kernel_rfl) (fun _ _ _ h => h) (Or.inl ⟨by rfl, ?_⟩) ?_ ?_
            rotate_left
            · intro w'
              go_simp
              with_reducible rfl
            rotate_left
            · simp only [Act.put, List.setIfInBounds_toArray, List.set_cons_zero, List.set_cons_succ, i64_w, i32_w]
              rfl
            refine pure_ (i := 11) (N := some 39) (v := ?_) (a' := ?_) #[true, true, true, true, true, true, true, true, true, true, true, true, false, false, false] rfl rfl (by kernel_rfl) (fun _ _ _ h => h) (Or.inl ⟨by rfl, ?_⟩) ?_ ?_
            rotate_left
            · intro w'
              go_simp
              with_reducible rfl
            rotate_left
            · simp only [Act.put, List.setIfInBounds_toArray, List.set_cons_zero, List.set_cons_succ, i64_w, i32_w]
              rfl
            refine pure_ (i := 12) (N := some 40) (v := ?_) (a' := ?_) #[true, true, true, true, true, true, true, true, true, true, true, true, true, false, false] rfl rfl (by kernel_rfl) (fun _ _ _ h => h) (Or.inl ⟨by rfl, ?_⟩) ?_ ?_
            rotate_left
            · intro w'
              go_simp
              with_reducible rfl
            rotate_left
            · simp only [Act.put, List.setIfInBounds_toArray, List.set_cons_zero, List.set_cons_succ, i64_w, i32_w]
              rfl
            refine pure_ (i := 13) (N := some 41) (v := ?_) (a' := ?_) #[true, true, true, true, true, true, true, true, true, true, true, true, true, true, false] rfl rfl (by kernel_rfl) (fun _ _ _ h => h) (Or.inl ⟨by rfl, ?_⟩) ?_ ?_
            rotate_left
            · intro w'
              go_simp
              with_reducible rfl
            rotate_left
            · simp only [Act.put, List.setIfInBounds_toArray, List.set_cons_zero, List.set_cons_succ, i64_w, i32_w]
              rfl
            refine last_ (i := 14) (N := none) #[true, true, true, true, true, true, true, true, true, true, true, true, true, true, true] rfl rfl (by kernel_rfl) (by decide) (fun K hK => ?_)
            refine skip_ (w1 := ?_) (by rfl) rfl ?_ ?_
            rotate_left
            · go_simp
              rfl
            refine hK.out _ _ ?_
            clear hK K
            refine done_ (by kernel_rfl) ?_
            have HS6 := Aside0.mk (St.drew (St.cut (s' := ⟨t, s.isl, 0, s.val⟩) HS5.out m HN.out rfl))
            have HB6 := Aside0.mk (Below.drew (HB5.out.1.setCell (p := ⟨g, 0, none⟩) HGE.out (.slice A m c)))
            have HL6 := Aside0.mk (show Exp.Good base t ∧ 0 < cnt t ∧ unto t = unto s.stk by
              have h3 := HL.out.2.1
              have h4 := HL.out.2.2
              rw [← h4]
              refine ⟨?_, by simpa [cnt, HXI.out] using h3, by simp [unto, HXI.out]⟩
              rcases HL.out.1 with ⟨rfl, rfl⟩ | ⟨_, _, _, _, h⟩
              · simp [cnt] at h3
              · exact h)
            clear hz0
            go_wp2
            go_roundg (gk - 1)
            case measure => have := HK.out; simp at this ⊢; omega
            case rel => exact ⟨t, _, _, _, HS6, HL6, ⟨by have := HK.out; simp at this ⊢; omega⟩, ⟨HB6.out, by have := HB5.out.2; simpa [World.setCell] using this⟩⟩
          | true =>
            go_upto_region 6 with (fail)
            refine start_ (n := 15) (S := fun w' => w'.cell? ⟨g, 0, none⟩ = some (.slice A N c)) (ds := [14]) #[false, false, false, false, false, false, false, false, false, false, false, false, false, false, false] (by kernel_rfl) rfl rfl ((by exact HC0.out)) (fun hHeld => ?_)
            refine pure_ (i := 0) (N := some 42) (v := ?_) (a' := ?_) #[true, false, false, false, false, false, false, false, false, false, false, false, false, false, false] rfl rfl (by kernel_rfl) (fun _ _ _ h => h) (Or.inl ⟨by rfl, ?_⟩) ?_ ?_
            rotate_left
            · intro w'
              go_simp
              with_reducible rfl
            rotate_left
            · simp only [Act.put, List.setIfInBounds_toArray, List.set_cons_zero, List.set_cons_succ, i64_w, i32_w]
              rfl
            refine pure_ (i := 1) (N := some 43) (v := ?_) (a' := ?_) #[true, true, false, false, false, false, false, false, false, false, false, false, false, false, false] rfl rfl (by kernel_rfl) (fun _ _ _ h => h) (Or.inl ⟨by rfl, ?_⟩) ?_ ?_
            rotate_left
            · intro w'
              go_simp
              with_reducible rfl
            rotate_left
            · simp only [Act.put, List.setIfInBounds_toArray, List.set_cons_zero, List.set_cons_succ, i64_w, i32_w]
              rfl
            refine pure_ (i := 2) (N := some 44) (v := ?_) (a' := ?_) #[true, true, true, false, false, false, false, false, false, false, false, false, false, false, false] rfl rfl (by kernel_rfl) (fun _ _ _ h => h) (Or.inl ⟨by rfl, ?_⟩) ?_ ?_
            rotate_left
            · intro w'
              go_simp
              with_reducible rfl
            rotate_left
            · simp only [Act.put, List.setIfInBounds_toArray, List.set_cons_zero, List.set_cons_succ, i64_w, i32_w]
              rfl
            refine pure_ (i := 3) (N := some 45) (v := ?_) (a' := ?_) #[true, true, true, true, false, false, false, false, false, false, false, false, false, false, false] rfl rfl (by kernel_rfl) (fun _ _ _ h => h) (Or.inl ⟨by rfl, ?_⟩) ?_ ?_
            rotate_left
            · intro w'
              go_simp
              with_reducible rfl
            rotate_left
            · simp only [Act.put, List.setIfInBounds_toArray, List.set_cons_zero, List.set_cons_succ, i64_w, i32_w]
              rfl
            refine pure_ (i := 5) (N := some 47) (v := ?_) (a' := ?_) #[true, true, true, true, false, true, false, false, false, false, false, false, false, false, false] rfl rfl (by kernel_rfl) (fun _ _ _ h => h) (Or.inl ⟨by rfl, ?_⟩) ?_ ?_
            rotate_left
            · intro w'
              go_simp
              with_reducible rfl
            rotate_left
            · simp only [Act.put, List.setIfInBounds_toArray, List.set_cons_zero, List.set_cons_succ, i64_w, i32_w]
              rfl
            refine pure_ (i := 6) (N := some 48) (v := ?_) (a' := ?_) #[true, true, true, true, false, true, true, false, false, false, false, false, false, false, false] rfl rfl (by kernel_rfl) (fun _ _ _ h => h) (Or.inl ⟨by rfl, ?_⟩) ?_ ?_
            rotate_left
            · intro w'
              go_simp
              with_reducible rfl
            rotate_left
            · simp only [Act.put, List.setIfInBounds_toArray, List.set_cons_zero, List.set_cons_succ, i64_w, i32_w]
              rfl
            refine pure_ (i := 7) (N := some 49) (v := ?_) (a' := ?_) #[true, true, true, true, false, true, true, true, false, false, false, false, false, false, false] rfl rfl (by kernel_rfl) (fun _ _ _ h => h) (Or.inl ⟨by rfl, ?_⟩) ?_ ?_
            rotate_left
            · intro w'
              go_simp
              with_reducible rfl
            rotate_left
            · simp only [Act.put, List.setIfInBounds_toArray, List.set_cons_zero, List.set_cons_succ, i64_w, i32_w]
              rfl
            refine take_ (i := 4) (N := some 46) (v := ?_) (a' := ?_) #[true, true, true, true, true, true, true, true, false, false, false, false, false, false, false] rfl rfl (by kernel_rfl) (fun _ _ _ h => h) (Or.inl ⟨by rfl, ?_⟩) hHeld ?_ ?_
            rotate_left
            · intro w' s0
              go_simp
              with_reducible rfl
            rotate_left
            · simp only [Act.put, List.setIfInBounds_toArray, List.set_cons_zero, List.set_cons_succ, i64_w, i32_w]
              rfl
            refine take_ (i := 8) (N := some 50) (v := ?_) (a' := ?_) #[true, true, true, true, true, true, true, true, true, false, false, false, false, false, false] rfl rfl (by kernel_rfl) (fun _ _ _ h => h) (Or.inl ⟨by rfl, ?_⟩) hHeld ?_ ?_
            rotate_left
            · intro w' s0
              go_simp
              with_reducible rfl
            rotate_left
            · simp only [Act.put, List.setIfInBounds_toArray, List.set_cons_zero, List.set_cons_succ, i64_w, i32_w]
              rfl
            refine pure_ (i := 9) (N := some 51) (v := ?_) (a' := ?_) #[true, true, true, true, true, true, true, true, true, true, false, false, false, false, false] rfl rfl (by kernel_rfl) (fun _ _ _ h => h) (Or.inl ⟨by rfl, ?_⟩) ?_ ?_
            rotate_left
            · intro w'
              go_simp
              with_reducible rfl
            rotate_left
            · simp only [Act.put, List.setIfInBounds_toArray, List.set_cons_zero, List.set_cons_succ, i64_w, i32_w]
              rfl
            refine pure_ (i := 10) (N := some 52) (v := ?_) (a' := ?_) #[true, true, true, true, true, true, true, true, true, true, true, false, false, false, false] rfl rfl (by kernel_rfl) (fun _ _ _ h => h) (Or.inl ⟨by rfl, ?_⟩) ?_ ?_
            rotate_left
            · intro w'
              go_simp
              with_reducible rfl
            rotate_left
            · simp only [Act.put, List.setIfInBounds_toArray, List.set_cons_zero, List.set_cons_succ, i64_w, i32_w]
              rfl
            refine pure_ (i := 11) (N := some 53) (v := ?_) (a' := ?_) #[true, true, true, true, true, true, true, true, true, true, true, true, false, false, false] rfl rfl (by kernel_rfl) (fun _ _ _ h => h) (Or.inl ⟨by rfl, ?_⟩) ?_ ?_
            rotate_left
            · intro w'
              go_simp
              with_reducible rfl
            rotate_left
            · simp only [Act.put, List.setIfInBounds_toArray, List.set_cons_zero, List.set_cons_succ, i64_w, i32_w]
              rfl
            refine pure_ (i := 12) (N := some 54) (v := ?_) (a' := ?_) #[true, true, true, true, true, true, true, true, true, true, true, true, true, false, false] rfl rfl (by kernel_rfl) (fun _ _ _ h => h) (Or.inl ⟨by rfl, ?_⟩) ?_ ?_
            rotate_left
            · intro w'
              go_simp
              with_reducible rfl
            rotate_left
            · simp only [Act.put, List.setIfInBounds_toArray, List.set_cons_zero, List.set_cons_succ, i64_w, i32_w]
              rfl
            refine pure_ (i := 13) (N := some 55) (v := ?_) (a' := ?_) #[true, true, true, true, true, true, true, true, true, true, true, true, true, true, false] rfl rfl (by kernel_rfl) (fun _ _ _ h => h) (Or.inl ⟨by rfl, ?_⟩) ?_ ?_
            rotate_left
            · intro w'
              go_simp
              with_reducible rfl
            rotate_left
            · simp only [Act.put, List.setIfInBounds_toArray, List.set_cons_zero, List.set_cons_succ, i64_w, i32_w]
              rfl
            refine last_ (i := 14) (N := none) #[true, true, true, true, true, true, true, true, true, true, true, true, true, true, true] rfl rfl (by kernel_rfl) (by decide) (fun K hK => ?_)
            refine skip_ (w1 := ?_) (by rfl) rfl ?_ ?_
            rotate_left
            · go_simp
              rfl
            refine hK.out _ _ ?_
            clear hK K
            refine done_ (by kernel_rfl) ?_
            have hut : t = unto s.stk := by rw [← HL.out.2.2]; simp [unto, HXI.out]
            have hs6 := St.drew (St.cut (s' := ⟨t, s.isl, 0, s.val⟩) HS5.out m HN.out rfl)
            rw [hut] at hs6
            have HS6 := Aside0.mk hs6
            have HB6 := Aside0.mk (And.intro (Below.drew (HB5.out.1.setCell (p := ⟨g, 0, none⟩) HGE.out (.slice A m c))) (show b0 ≤ (w5.setCell ⟨g, 0, none⟩ (.slice A m c)).drew.heap.size by have := HB5.out.2; simpa [World.setCell] using this))
            have HNE := Aside0.mk (show unto s.stk ≠ [] by
              rw [← HL.out.2.2]
              exact (HL.out.1.unto HL.out.2.1).1.ne)
            clear hz0 hs6 hut HS5 HB5 HC0 p1 p2 hm0 eN hf2 HLa HS HBW
            generalize (w5.setCell ⟨g, 0, none⟩ (.slice A m c)).drew = W6 at *
            obtain ⟨_, _, _, _, _, _, hd6, _, _⟩ := HS6.out.cells
            have hz6 := blk_frozen HS6.out.blk 6
            go_upto_region 8 with (fail)
            have hev : (.int .i64 (wrap64 ((s.val : Int) - 1)) : Value) = .int .i64 ((s.val - 1 : Nat) : Int) := by rw [HV.out]
            have HS7 := Aside0.mk (HS6.out.put (s' := ⟨unto s.stk, s.isl, 0, s.val - 1⟩) 6 (.int .i64 (wrap64 ((s.val : Int) - 1))) rfl (by rw [hev]; rfl))
            have HB7 := Aside0.mk (And.intro (HB6.out.1.setCell (p := ⟨g, 6, none⟩) HGE.out (.int .i64 (wrap64 ((s.val : Int) - 1)))) (show b0 ≤ (W6.setCell ⟨g, 6, none⟩ (.int .i64 (wrap64 ((s.val : Int) - 1)))).heap.size by have := HB6.out.2; simpa [World.setCell] using this))
            clear hz6 hd6 HS6 HB6 hev
            generalize W6.setCell ⟨g, 6, none⟩ (.int .i64 (wrap64 ((s.val : Int) - 1))) = W7 at *
            have HT2 := Aside0.mk (HTk.out _ _ _ _ W7 HS7.out HNE.out HB7.out.2)
            go_wp2_with (first | (go_at_call 35; refine HT2.out.mono ?_; rintro e w4 ⟨rfl, sv4, lvv4, tyv4, hst4, hb4⟩))
            go_end0
            exact StPost.of hst4 (HB7.out.1.trans hb4)
    · have hfin : fin s = s := by unfold fin; rw [if_neg h1, if_neg h2]
      rw [hfin]
      have b2 : decide ((0 : Int) < (s.val : Int)) = false := decide_eq_false (by omega)
      have b2b : decide (0 < s.val) = false := decide_eq_false h2
      obtain ⟨_, _, _, _, hc4, _, hc6, _, _⟩ := hst.cells
      have HT2 := Aside0.mk (HTk.out _ _ _ _ W HST.out HF.out.ne HB.out)
      clear hst hf hI hb hi hi2 h1 hfin h2
      go_enter Try.func33, Try.ntmps33
      go_wp2_with (first | (go_at_call 35; refine HT2.out.mono ?_; rintro e w4 ⟨rfl, sv4, lvv4, tyv4, hst4, hb4⟩))
      go_end0
      exact StPost.of hst4 hb4
end Go.Proofs.Yteldofimjklckaa.G
/- The state of explicit levels: pop. By hand. -/
namespace Go.Proofs.Yteldofimjklckaa.G
open Go.RowKit Go.Proofs.YteldofimjklckaaW.PrintWords Go.Proofs.YteldofimjklckaaW.PrintLast Go.Proofs.YteldofimjklckaaW.PrintMore Go.Proofs.Yteldofimjklckaa.Exp
set_option linter.unusedVariables false
set_option linter.unusedSimpArgs false

theorem neqE (a b a' b' : Int) (c c' : Bool) (W : World) : (binOp .neq 53 (.agg #[.int .i64 a, .int .i64 b, .bool c]) (.agg #[.int .i64 a', .int .i64 b', .bool c'])).run Try.prog W = .ok (.bool (!((a == a') && ((b == b') && (c == c'))))) W := by
  have h : (Op.equal 53 (.agg #[.int .i64 a, .int .i64 b, .bool c]) (.agg #[.int .i64 a', .int .i64 b', .bool c'])).run Try.prog W = .ok ((a == a') && ((b == b') && (c == c'))) W := by
    refine eqA_of Try.underlying53 (by kernel_rfl) ?_
    refine eqf_cons (by rfl) (by rfl) (by rfl) (run_equalIn_int W _ _ _ _ _ _ Try.underlying3) ?_
    refine eqf_cons (by rfl) (by rfl) (by rfl) (run_equalIn_int W _ _ _ _ _ _ Try.underlying51) ?_
    exact eqf_last (by rfl) (by rfl) (by rfl) (run_equalIn_bool W _ _ _ _ Try.underlying4)
  simp [binOp, h]
set_option maxHeartbeats 16000000 in
set_option maxRecDepth 100000 in
theorem pop_calls (Z : Nat → Option Obj) (b0 g : Nat) (base : Int) (s : S) (lv ty : List Int) (sv lvv tyv : Value) (W : World) (hst : St Z b0 g base s lv ty sv lvv tyv W) (hf : Fits s) (hI : Inv base s) (hbs : base ≤ 125) (hb : b0 ≤ W.heap.size) :
    Calls Try.prog 34 #[.pointer (some ⟨g, 0, none⟩)] W (StPost Z b0 g base (pop s) lv ty W (.returned (.tuple #[]))) := by
  have HF := Aside0.mk hf
  have HB := Aside0.mk hb
  have HST := Aside0.mk hst
  obtain ⟨hc0, _, _, _, hc4, hc5, _, _, _⟩ := hst.cells
  by_cases h1 : 0 < s.isl
  · have hp : pop s = s := by unfold pop; rw [if_pos h1]
    rw [hp]
    have b1 : decide ((0 : Int) < (s.isl : Int)) = true := decide_eq_true (by omega)
    have b1b : decide (0 < s.isl) = true := decide_eq_true h1
    clear hst hf hI hbs hb hp h1
    go_enter Try.func34, Try.ntmps34
    go_wp2
    go_end0
    exact StPost.of HST.out (Below.refl _ _)
  · have b1 : decide ((0 : Int) < (s.isl : Int)) = false := decide_eq_false (by omega)
    have b1b : decide (0 < s.isl) = false := decide_eq_false h1
    by_cases h2 : 0 < s.emb
    · have hp : pop s = ⟨s.stk, s.isl, s.emb - 1, s.val⟩ := by unfold pop; rw [if_neg h1, if_pos h2]
      rw [hp]
      have b2 : decide ((0 : Int) < (s.emb : Int)) = true := decide_eq_true (by omega)
      have b2b : decide (0 < s.emb) = true := decide_eq_true h2
      have hz5 := blk_frozen hst.blk 5
      have HV := Aside0.mk (cast2 s.emb hf.emb h2)
      clear hst hf hI hbs hb hp h1 h2
      go_enter Try.func34, Try.ntmps34
      go_wp2
      go_end0
      refine StPost.of (HST.out.put (s' := ⟨s.stk, s.isl, s.emb - 1, s.val⟩) 5 _ rfl ?_) ((Below.refl b0 W).setCell (p := ⟨g, 5, none⟩) HST.out.ge _)
      rw [HV.out]
      rfl
    · have b2 : decide ((0 : Int) < (s.emb : Int)) = false := decide_eq_false (by omega)
      have b2b : decide (0 < s.emb) = false := decide_eq_false h2
      have hl1 := last_calls Z b0 g base s lv ty _ _ _ W hst hf.ne
      obtain ⟨lv0, hlv0⟩ : ∃ x, (top s).lvl = x := ⟨_, rfl⟩
      obtain ⟨fr0, hfr0⟩ : ∃ x, (top s).frc = x := ⟨_, rfl⟩
      obtain ⟨xi, hxi⟩ : ∃ b, (top s).iso = b := ⟨_, rfl⟩
      rw [hlv0, hfr0, hxi] at hl1
      have HLa := Aside0.mk hl1
      have hbot := hI.good.bottom hbs
      have htop : s.stk.headD ⟨0, 0, false⟩ = ⟨lv0, fr0, xi⟩ := by
        rw [← hlv0, ← hfr0, ← hxi]; rfl
      rw [htop] at hbot
      have hln : 0 < s.stk.length := List.length_pos_iff.2 hf.ne
      have hcase : (xi = true ∧ pop s = s) ∨ (xi = false ∧ ((lv0 == base) && ((fr0 == 0) && (false == false))) = true ∧ pop s = s) ∨ (xi = false ∧ ((lv0 == base) && ((fr0 == 0) && (false == false))) = false ∧ 1 < s.stk.length ∧ pop s = ⟨s.stk.tail, s.isl, s.emb, s.val⟩) := by
        cases xi with
        | true => exact .inl ⟨rfl, by unfold pop; rw [if_neg h1, if_neg h2, if_neg (by rw [hxi]; simp)]⟩
        | false =>
          by_cases h3 : s.stk.length = 1
          · have := hbot.2 h3
            injection this with q1 q2 q3
            exact .inr (.inl ⟨rfl, by rw [q1, q2]; simp, by unfold pop; rw [if_neg h1, if_neg h2, if_neg (by omega)]⟩)
          · refine .inr (.inr ⟨rfl, ?_, by omega, by unfold pop; rw [if_neg h1, if_neg h2, if_pos ⟨hxi, by omega⟩]⟩)
            have hn : ¬ (lv0 = base ∧ fr0 = 0) := fun h => h3 (hbot.1 (by rw [h.1, h.2]))
            rw [Bool.and_eq_false_iff]
            by_cases q : lv0 = base
            · right; simp; exact fun h => hn ⟨q, h⟩
            · left; simpa using q
      have HCu := Aside0.mk (fun (h : 1 < s.stk.length) => cut_facts hst h)
      clear hst hf hI hbs hb h1 h2 hl1 hlv0 hfr0 hxi htop hbot hln
      rcases hcase with ⟨rfl, hp⟩ | ⟨rfl, hq, hp⟩ | ⟨rfl, hq, hlen, hp⟩
      · rw [hp]
        clear hp
        go_enter Try.func34, Try.ntmps34
        go_upto_region 4 with (first | (go_at_call 49; refine HLa.out.mono ?_; rintro e w5 ⟨rfl, hb5⟩))
        have HS5 := Aside0.mk (St.below (HST.out.below hb5) (below_alloc (Below.refl _ _) (Obj.cells #[.int .i64 lv0, .int .i64 fr0, .bool true] 53)))
        have HB5 := Aside0.mk ((below_alloc hb5 (Obj.cells #[.int .i64 lv0, .int .i64 fr0, .bool true] 53)).mono HB.out)
        have HZ5 := Aside0.mk (show b0 ≤ (w5.alloc (Obj.cells #[.int .i64 lv0, .int .i64 fr0, .bool true] 53)).heap.size by have := HB.out; have := hb5.size; simp; omega)
        have hbk := blk_new w5 (Obj.cells #[.int .i64 lv0, .int .i64 fr0, .bool true] 53)
        have hx0 := (blk_cell hbk 0).trans (show _ = some (.int .i64 lv0 : Value) from rfl)
        have hx1 := (blk_cell hbk 1).trans (show _ = some (.int .i64 fr0 : Value) from rfl)
        have hx2 := (blk_cell hbk 2).trans (show _ = some (.bool true : Value) from rfl)
        clear hb5 hbk hc0 hc4 hc5
        generalize w5.alloc (Obj.cells #[.int .i64 lv0, .int .i64 fr0, .bool true] 53) = W6 at *
        generalize w5.heap.size = g6 at *
        obtain ⟨_, hd1, hd2, hd3, _, _, _, _, _⟩ := HS5.out.cells
        go_quiet (fail)
        go_wp2
        go_end0
        refine StPost.of (HS5.out.below ?_) (HB5.out.trans ?_)
        · exact pw_below_drewN (Below.refl _ _) _
        · exact pw_below_drewN (Below.refl _ _) _
      · rw [hp]
        have hne := neqE lv0 fr0 base 0 false false
        rw [hq] at hne
        simp only [Bool.not_true] at hne
        clear hp hq
        go_enter Try.func34, Try.ntmps34
        go_upto_region 4 with (first | (go_at_call 49; refine HLa.out.mono ?_; rintro e w5 ⟨rfl, hb5⟩))
        have HS5 := Aside0.mk (St.below (HST.out.below hb5) (below_alloc (Below.refl _ _) (Obj.cells #[.int .i64 lv0, .int .i64 fr0, .bool false] 53)))
        have HB5 := Aside0.mk ((below_alloc hb5 (Obj.cells #[.int .i64 lv0, .int .i64 fr0, .bool false] 53)).mono HB.out)
        have HZ5 := Aside0.mk (show b0 ≤ (w5.alloc (Obj.cells #[.int .i64 lv0, .int .i64 fr0, .bool false] 53)).heap.size by have := HB.out; have := hb5.size; simp; omega)
        have hbk := blk_new w5 (Obj.cells #[.int .i64 lv0, .int .i64 fr0, .bool false] 53)
        have hx0 := (blk_cell hbk 0).trans (show _ = some (.int .i64 lv0 : Value) from rfl)
        have hx1 := (blk_cell hbk 1).trans (show _ = some (.int .i64 fr0 : Value) from rfl)
        have hx2 := (blk_cell hbk 2).trans (show _ = some (.bool false : Value) from rfl)
        clear hb5 hbk hc0 hc4 hc5
        generalize w5.alloc (Obj.cells #[.int .i64 lv0, .int .i64 fr0, .bool false] 53) = W6 at *
        generalize w5.heap.size = g6 at *
        obtain ⟨_, hd1, hd2, hd3, _, _, _, _, _⟩ := HS5.out.cells
        go_quiet (fail)
        go_wp2
        go_end0
        refine StPost.of (HS5.out.below ?_) (HB5.out.trans ?_)
        · exact pw_below_drewN (Below.refl _ _) _
        · exact pw_below_drewN (Below.refl _ _) _
      · rw [hp]
        have hne := neqE lv0 fr0 base 0 false false
        rw [hq] at hne
        simp only [Bool.not_false] at hne
        obtain ⟨A, N, m, c, rfl, hN, hNl, hNc, hNm, eN⟩ := HCu.out hlen
        have p1 : ((m : Int) ≤ (c : Int)) = True := eq_true (by omega)
        have p2 : (m ≤ c) = True := eq_true (by omega)
        have hm0 : (0 : Int) ≤ (m : Int) := by omega
        have HN := Aside0.mk hN
        clear hp hq hlen HCu hN hNl hNc hNm
        go_enter Try.func34, Try.ntmps34
        go_upto_region 4 with (first | (go_at_call 49; refine HLa.out.mono ?_; rintro e w5 ⟨rfl, hb5⟩))
        have HS5 := Aside0.mk (St.below (HST.out.below hb5) (below_alloc (Below.refl _ _) (Obj.cells #[.int .i64 lv0, .int .i64 fr0, .bool false] 53)))
        have HB5 := Aside0.mk ((below_alloc hb5 (Obj.cells #[.int .i64 lv0, .int .i64 fr0, .bool false] 53)).mono HB.out)
        have HZ5 := Aside0.mk (show b0 ≤ (w5.alloc (Obj.cells #[.int .i64 lv0, .int .i64 fr0, .bool false] 53)).heap.size by have := HB.out; have := hb5.size; simp; omega)
        have hbk := blk_new w5 (Obj.cells #[.int .i64 lv0, .int .i64 fr0, .bool false] 53)
        have hx0 := (blk_cell hbk 0).trans (show _ = some (.int .i64 lv0 : Value) from rfl)
        have hx1 := (blk_cell hbk 1).trans (show _ = some (.int .i64 fr0 : Value) from rfl)
        have hx2 := (blk_cell hbk 2).trans (show _ = some (.bool false : Value) from rfl)
        clear hb5 hbk hc0 hc4 hc5
        generalize w5.alloc (Obj.cells #[.int .i64 lv0, .int .i64 fr0, .bool false] 53) = W6 at *
        generalize w5.heap.size = g6 at *
        obtain ⟨_, hd1, hd2, hd3, _, _, _, _, _⟩ := HS5.out.cells
        go_quiet (fail)
        have hz0 := blk_frozen HS5.out.blk 0
        go_upto_region 5 with (fail)
        refine start_ (n := 15) (S := fun w' => w'.cell? ⟨g, 0, none⟩ = some (.slice A N c)) (ds := [14]) #[false, false, false, false, false, false, false, false, false, false, false, false, false, false, false] (by kernel_rfl) rfl rfl ((by exact HS5.out.cells.1)) (fun hHeld => ?_)
        refine pure_ (i := 0) (N := some 33) (v := ?_) (a' := ?_) #[true, false, false, false, false, false, false, false, false, false, false, false, false, false, false] rfl rfl (by kernel_rfl) (fun _ _ _ h => h) (Or.inl ⟨by rfl, ?_⟩) ?_ ?_
        rotate_left
        · intro w'
          go_simp
          with_reducible rfl
        rotate_left
        · simp only [Act.put, List.setIfInBounds_toArray, List.set_cons_zero, List.set_cons_succ, i64_w, i32_w]
          rfl
        refine pure_ (i := 1) (N := some 34) (v := ?_) (a' := ?_) #[true, true, false, false, false, false, false, false, false, false, false, false, false, false, false] rfl rfl (by kernel_rfl) (fun _ _ _ h => h) (Or.inl ⟨by rfl, ?_⟩) ?_ ?_
        rotate_left
        · intro w'
          go_simp
          with_reducible rfl
        rotate_left
        · simp only [Act.put, List.setIfInBounds_toArray, List.set_cons_zero, List.set_cons_succ, i64_w, i32_w]
          rfl
        refine pure_ (i := 2) (N := some 35) (v := ?_) (a' := ?_) #[true, true, true, false, false, false, false, false, false, false, false, false, false, false, false] rfl rfl (by kernel_rfl) (fun _ _ _ h => h) (Or.inl ⟨by rfl, ?_⟩) ?_ ?_
        rotate_left
        · intro w'
          go_simp
          with_reducible rfl
        rotate_left
        · simp only [Act.put, List.setIfInBounds_toArray, List.set_cons_zero, List.set_cons_succ, i64_w, i32_w]
          rfl
        refine pure_ (i := 3) (N := some 36) (v := ?_) (a' := ?_) #[true, true, true, true, false, false, false, false, false, false, false, false, false, false, false] rfl rfl (by kernel_rfl) (fun _ _ _ h => h) (Or.inl ⟨by rfl, ?_⟩) ?_ ?_
        rotate_left
        · intro w'
          go_simp
          with_reducible rfl
        rotate_left
        · simp only [Act.put, List.setIfInBounds_toArray, List.set_cons_zero, List.set_cons_succ, i64_w, i32_w]
          rfl
        refine pure_ (i := 5) (N := some 38) (v := ?_) (a' := ?_) #[true, true, true, true, false, true, false, false, false, false, false, false, false, false, false] rfl rfl (by kernel_rfl) (fun _ _ _ h => h) (Or.inl ⟨by rfl, ?_⟩) ?_ ?_
        rotate_left
        · intro w'
          go_simp
          with_reducible rfl
        rotate_left
        · simp only [Act.put, List.setIfInBounds_toArray, List.set_cons_zero, List.set_cons_succ, i64_w, i32_w]
          rfl
        refine pure_ (i := 6) (N := some 39) (v := ?_) (a' := ?_) #[true, true, true, true, false, true, true, false, false, false, false, false, false, false, false] rfl rfl (by kernel_rfl) (fun _ _ _ h => h) (Or.inl ⟨by rfl, ?_⟩) ?_ ?_
        rotate_left
        · intro w'
          go_simp
          with_reducible rfl
        rotate_left
        · simp only [Act.put, List.setIfInBounds_toArray, List.set_cons_zero, List.set_cons_succ, i64_w, i32_w]
          rfl
        refine pure_ (i := 7) (N := some 40) (v := ?_) (a' := ?_) #[true, true, true, true, false, true, true, true, false, false, false, false, false, false, false] rfl rfl (by kernel_rfl) (fun _ _ _ h => h) (Or.inl ⟨by rfl, ?_⟩) ?_ ?_
        rotate_left
        · intro w'
          go_simp
          with_reducible rfl
        rotate_left
        · simp only [Act.put, List.setIfInBounds_toArray, List.set_cons_zero, List.set_cons_succ, i64_w, i32_w]
          rfl
        refine take_ (i := 4) (N := some 37) (v := ?_) (a' := ?_) #[true, true, true, true, true, true, true, true, false, false, false, false, false, false, false] rfl rfl (by kernel_rfl) (fun _ _ _ h => h) (Or.inl ⟨by rfl, ?_⟩) hHeld ?_ ?_
        rotate_left
        · intro w' s0
          go_simp
          with_reducible rfl
        rotate_left
        · simp only [Act.put, List.setIfInBounds_toArray, List.set_cons_zero, List.set_cons_succ, i64_w, i32_w]
          rfl
        refine take_ (i := 8) (N := some 41) (v := ?_) (a' := ?_) #[true, true, true, true, true, true, true, true, true, false, false, false, false, false, false] rfl rfl (by kernel_rfl) (fun _ _ _ h => h) (Or.inl ⟨by rfl, ?_⟩) hHeld ?_ ?_
        rotate_left
        · intro w' s0
          go_simp
          with_reducible rfl
        rotate_left
        · simp only [Act.put, List.setIfInBounds_toArray, List.set_cons_zero, List.set_cons_succ, i64_w, i32_w]
          rfl
        refine pure_ (i := 9) (N := some 42) (v := ?_) (a' := ?_) #[true, true, true, true, true, true, true, true, true, true, false, false, false, false, false] rfl rfl (by kernel_rfl) (fun _ _ _ h => h) (Or.inl ⟨by rfl, ?_⟩) ?_ ?_
        rotate_left
        · intro w'
          go_simp
          with_reducible rfl
        rotate_left
        · simp only [Act.put, List.setIfInBounds_toArray, List.set_cons_zero, List.set_cons_succ, i64_w, i32_w]
          rfl
        refine pure_ (i := 10) (N := some 43) (v := ?_) (a' := ?_) #[true, true, true, true, true, true, true, true, true, true, true, false, false, false, false] rfl rfl (by kernel_rfl) (fun _ _ _ h => h) (Or.inl ⟨by rfl, ?_⟩) ?_ ?_
        rotate_left
        · intro w'
          go_simp
          with_reducible rfl
        rotate_left
        · simp only [Act.put, List.setIfInBounds_toArray, List.set_cons_zero, List.set_cons_succ, i64_w, i32_w]
          rfl
        refine pure_ (i := 11) (N := some 44) (v := ?_) (a' := ?_) #[true, true, true, true, true, true, true, true, true, true, true, true, false, false, false] rfl rfl (by kernel_rfl) (fun _ _ _ h => h) (Or.inl ⟨by rfl, ?_⟩) ?_ ?_
        rotate_left
        · intro w'
          go_simp
          with_reducible rfl
        rotate_left
        · simp only [Act.put, List.setIfInBounds_toArray, List.set_cons_zero, List.set_cons_succ, i64_w, i32_w]
          rfl
        refine pure_ (i := 12) (N := some 45) (v := ?_) (a' := ?_) #[true, true, true, true, true, true, true, true, true, true, true, true, true, false, false] rfl rfl (by kernel_rfl) (fun _ _ _ h => h) (Or.inl ⟨by rfl, ?_⟩) ?_ ?_
        rotate_left
        · intro w'
          go_simp
          with_reducible rfl
        rotate_left
        · simp only [Act.put, List.setIfInBounds_toArray, List.set_cons_zero, List.set_cons_succ, i64_w, i32_w]
          rfl
        refine pure_ (i := 13) (N := some 46) (v := ?_) (a' := ?_) #[true, true, true, true, true, true, true, true, true, true, true, true, true, true, false] rfl rfl (by kernel_rfl) (fun _ _ _ h => h) (Or.inl ⟨by rfl, ?_⟩) ?_ ?_
        rotate_left
        · intro w'
          go_simp
          with_reducible rfl
        rotate_left
        · simp only [Act.put, List.setIfInBounds_toArray, List.set_cons_zero, List.set_cons_succ, i64_w, i32_w]
          rfl
        refine last_ (i := 14) (N := none) #[true, true, true, true, true, true, true, true, true, true, true, true, true, true, true] rfl rfl (by kernel_rfl) (by decide) (fun K hK => ?_)
        refine skip_ (w1 := ?_) (by rfl) rfl ?_ ?_
        rotate_left
        · go_simp
          rfl
        refine hK.out _ _ ?_
        clear hK K
        refine done_ (by kernel_rfl) ?_
        go_wp2
        go_end0
        exact StPost.of (St.cut (s' := ⟨s.stk.tail, s.isl, s.emb, s.val⟩) (HS5.out.below (pw_below_drewN (Below.refl _ _) _)) m HN.out rfl) (HB5.out.trans (Below.setCell (p := ⟨g, 0, none⟩) (pw_below_drewN (Below.refl _ _) _) HST.out.ge _))
end Go.Proofs.Yteldofimjklckaa.G
