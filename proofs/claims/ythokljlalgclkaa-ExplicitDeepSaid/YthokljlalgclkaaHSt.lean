/- The state of explicit levels: how it lies in memory. By hand. -/
import Derived.Test.YthokljlalgclkaaHTy
import Derived.Test.YthokljlalgclkaaExpT
import Derived.Test.YthokljlalgclkaaHHalt
namespace Go.Proofs.Ythokljlalgclkaa.G
open Go.RowKit Go.Proofs.YthokljlalgclkaaW.PrintWords Go.Proofs.YthokljlalgclkaaW.PrintLast Go.Proofs.YthokljlalgclkaaW.PrintMore Go.Proofs.Ythokljlalgclkaa.Exp
set_option linter.unusedVariables false
set_option linter.unusedSimpArgs false

abbrev Row3 := Int × Int × Bool
/-- An entry of the stack: three cells. -/
def entK : Kd Row3 := Kd.pair (Kd.int .i64) (Kd.pair (Kd.int .i64) Kd.bool)
def enc (e : E) : Row3 := (e.lvl, e.frc, e.iso)
theorem entK_sz : entK.sz = 3 := rfl
theorem entK_cells {W : World} {x : Row3} {cs : List Value} (h : entK.K W x cs) : cs = [.int .i64 x.1, .int .i64 x.2.1, .bool x.2.2] := by
  obtain ⟨c0, c1, rfl, h0, c2, c3, rfl, h2, h3⟩ := h
  have e0 : c0 = [.int .i64 x.1] := h0
  have e2 : c2 = [.int .i64 x.2.1] := h2
  have e3 : c3 = [.bool x.2.2] := h3
  rw [e0, e2, e3]
  rfl
theorem entK_M (W : World) (base : Nat) (ok : Nat → Prop) (x : Row3) : entK.M W base ok x [.int .i64 x.1, .int .i64 x.2.1, .bool x.2.2] :=
  ⟨[.int .i64 x.1], [.int .i64 x.2.1, .bool x.2.2], rfl, rfl, [.int .i64 x.2.1], [.bool x.2.2], rfl, rfl, rfl⟩
/-- The cells of the element at a place. -/
theorem ent_at {W : World} {ad : Addr} {n : Nat} {xs : List Row3} (h : entK.C W (some ad) n xs) (j : Nat) (hj : j < n) (x : Row3) (hx : xs[j]? = some x) :
    W.cell? (ad.add (j * 3)) = some (.int .i64 x.1) ∧ W.cell? ⟨(ad.add (j * 3)).block, (ad.add (j * 3)).off + 1, none⟩ = some (.int .i64 x.2.1) ∧ W.cell? ⟨(ad.add (j * 3)).block, (ad.add (j * 3)).off + 2, none⟩ = some (.bool x.2.2) := by
  obtain ⟨ad', e, hc⟩ := h.2.2 (by omega)
  injection e with e
  subst e
  obtain ⟨cs, hl, hk, hu⟩ := hc j x hx
  rw [entK_cells hk] at hu
  have h0 := hu 0 _ rfl
  have h1 := hu 1 _ rfl
  have h2 := hu 2 _ rfl
  rw [entK_sz] at h0 h1 h2
  rw [← Addr.add_add] at h1 h2
  exact ⟨h0, h1, h2⟩
theorem far_any {w : World} {k : Nat} {o : Obj} (h : w.heap[k]? = some o) {p : Addr} (hp : k ≠ p.block) (u : Value) : (w.setCell p u).heap[k]? = some o := (Below.heap_setCell w p u k hp).trans h
/-- A state at block g: made since b0. -/
structure St (Z : Nat → Option Obj) (b0 : Nat) (g : Nat) (base : Int) (s : S) (lv ty : List Int) (sv lvv tyv : Value) (W : World) : Prop where
  blk : W.heap[g]? = some (.cells #[sv, .int .i64 base, .int .i64 0, .bool false, .int .i64 (s.isl : Int), .int .i64 (s.emb : Int), .int .i64 (s.val : Int), lvv, tyv] 46 (0, 0))
  ge : b0 ≤ g
  zg : Z g = none
  zk : ∀ k o, Z k = some o → W.heap[k]? = some o
  stk : entK.R 43 W b0 (fun k => Z k = none) sv (s.stk.reverse.map enc)
  lvs : Kd.R (Kd.int .i64) 3 W b0 (fun k => Z k = none ∧ some k ≠ tyv.ownBlock) lvv lv
  tys : Kd.R (Kd.int .i64) 3 W b0 (fun k => Z k = none ∧ some k ≠ lvv.ownBlock) tyv ty
theorem St.zne {Z : Nat → Option Obj} {b0 g : Nat} {base : Int} {s : S} {lv ty : List Int} {sv lvv tyv : Value} {W : World} (h : St Z b0 g base s lv ty sv lvv tyv W) {k : Nat} {o : Obj} (e : Z k = some o) : k ≠ g := by
  rintro rfl
  rw [h.zg] at e
  cases e
theorem St.znew {Z : Nat → Option Obj} {b0 g : Nat} {base : Int} {s : S} {lv ty : List Int} {sv lvv tyv : Value} {W : World} (h : St Z b0 g base s lv ty sv lvv tyv W) {k : Nat} (hk : W.heap.size ≤ k) : Z k = none := by
  cases e : Z k with
  | none => rfl
  | some o => have := blk_lt (h.zk k o e); omega
theorem St.below {Z : Nat → Option Obj} {b0 g : Nat} {base : Int} {s : S} {lv ty : List Int} {sv lvv tyv : Value} {W W' : World} (h : St Z b0 g base s lv ty sv lvv tyv W) (hb : Below W.heap.size W W') : St Z b0 g base s lv ty sv lvv tyv W' :=
  ⟨blk_below h.blk hb, h.ge, h.zg, fun k o e => blk_below (h.zk k o e) hb, Kd.R_below h.stk hb, Kd.R_below h.lvs hb, Kd.R_below h.tys hb⟩
theorem St.drew {Z : Nat → Option Obj} {b0 g : Nat} {base : Int} {s : S} {lv ty : List Int} {sv lvv tyv : Value} {W : World} (h : St Z b0 g base s lv ty sv lvv tyv W) : St Z b0 g base s lv ty sv lvv tyv W.drew :=
  ⟨blk_drew h.blk, h.ge, h.zg, fun k o e => blk_drew (h.zk k o e), Kd.R_drew h.stk, Kd.R_drew h.lvs, Kd.R_drew h.tys⟩
/-- A number of the state's own is stored into. -/
theorem St.put {Z : Nat → Option Obj} {b0 g : Nat} {base : Int} {s s' : S} {lv ty : List Int} {sv lvv tyv : Value} {W : World} (h : St Z b0 g base s lv ty sv lvv tyv W) (j : Nat) (u : Value) (hs : s'.stk = s.stk)
    (e : (#[sv, .int .i64 base, .int .i64 0, .bool false, .int .i64 (s.isl : Int), .int .i64 (s.emb : Int), .int .i64 (s.val : Int), lvv, tyv] : Array Value).setIfInBounds j u = #[sv, .int .i64 base, .int .i64 0, .bool false, .int .i64 (s'.isl : Int), .int .i64 (s'.emb : Int), .int .i64 (s'.val : Int), lvv, tyv]) : St Z b0 g base s' lv ty sv lvv tyv (W.setCell ⟨g, j, none⟩ u) :=
  ⟨blk_put h.blk j u e, h.ge, h.zg, fun k o e => far_any (h.zk k o e) (h.zne e) _, by rw [hs]; exact Kd.R_set h.stk h.blk (by decide) j u, Kd.R_set h.lvs h.blk (by decide) j u, Kd.R_set h.tys h.blk (by decide) j u⟩
/-- The cells of a state. -/
theorem St.cells {Z : Nat → Option Obj} {b0 g : Nat} {base : Int} {s : S} {lv ty : List Int} {sv lvv tyv : Value} {W : World} (h : St Z b0 g base s lv ty sv lvv tyv W) :
    W.cell? ⟨g, 0, none⟩ = some sv ∧ W.cell? ⟨g, 1, none⟩ = some (.int .i64 base) ∧ W.cell? ⟨g, 2, none⟩ = some (.int .i64 0) ∧ W.cell? ⟨g, 3, none⟩ = some (.bool false) ∧ W.cell? ⟨g, 4, none⟩ = some (.int .i64 (s.isl : Int)) ∧ W.cell? ⟨g, 5, none⟩ = some (.int .i64 (s.emb : Int)) ∧ W.cell? ⟨g, 6, none⟩ = some (.int .i64 (s.val : Int)) ∧ W.cell? ⟨g, 7, none⟩ = some lvv ∧ W.cell? ⟨g, 8, none⟩ = some tyv :=
  ⟨(blk_cell h.blk 0).trans rfl, (blk_cell h.blk 1).trans rfl, (blk_cell h.blk 2).trans rfl, (blk_cell h.blk 3).trans rfl, (blk_cell h.blk 4).trans rfl, (blk_cell h.blk 5).trans rfl, (blk_cell h.blk 6).trans rfl, (blk_cell h.blk 7).trans rfl, (blk_cell h.blk 8).trans rfl⟩
theorem top_last (s : S) (h : s.stk ≠ []) : (s.stk.reverse.map enc)[s.stk.length - 1]? = some (enc (top s)) := by
  cases hs : s.stk with
  | nil => exact absurd hs h
  | cons e t => simp [top, hs]
set_option maxHeartbeats 4000000 in
set_option maxRecDepth 100000 in
theorem last_calls (Z : Nat → Option Obj) (b0 g : Nat) (base : Int) (s : S) (lv ty : List Int) (sv lvv tyv : Value) (W : World) (hst : St Z b0 g base s lv ty sv lvv tyv W) (hne : s.stk ≠ []) :
    Calls Try.prog 32 #[.pointer (some ⟨g, 0, none⟩)] W fun e w' => e = .returned (.agg #[.int .i64 (top s).lvl, .int .i64 (top s).frc, .bool (top s).iso]) ∧ Below W.heap.size W w' := by
  obtain ⟨m, N, hm, hN⟩ : ∃ m N, s.stk.length = N ∧ N = m + 1 := ⟨s.stk.length - 1, _, rfl, by have := List.length_pos_iff.2 hne; omega⟩
  obtain ⟨A, c, rfl, hc, hC⟩ := Kd.R_reads hst.stk
  have hl : (s.stk.reverse.map enc).length = N := by simp [hm]
  rw [hl] at hc hC
  obtain ⟨ad, rfl⟩ : ∃ ad, A = some ad := by
    obtain ⟨ad, e, _⟩ := hC.2.2 (by omega)
    exact ⟨ad, e⟩
  have htl := top_last s hne
  rw [show s.stk.length - 1 = m by omega] at htl
  have HST := Aside0.mk hst
  have hmax : N ≤ 9223372036854775807 := Kd.C_max hC
  have e1 : wrap64 ((N : Int) - 1) = (m : Int) := by unfold wrap64; omega
  have p1 : ((m : Int) < (N : Int)) = True := eq_true (by omega)
  have p2 : (m < N) = True := eq_true (by omega)
  have hS : ∀ V : World, Below W.heap.size W V → V.cell? ⟨g, 0, none⟩ = some (.slice (some ad) N c) ∧ V.cell? (ad.add (m * 3)) = some (.int .i64 (top s).lvl) ∧ V.cell? ⟨(ad.add (m * 3)).block, (ad.add (m * 3)).off + 1, none⟩ = some (.int .i64 (top s).frc) ∧ V.cell? ⟨(ad.add (m * 3)).block, (ad.add (m * 3)).off + 2, none⟩ = some (.bool (top s).iso) := by
    intro V hb
    have h2 := HST.out.below hb
    have hc0 := h2.cells.1
    rw [hl] at hc0
    have := ent_at (Kd.C_below hC hb) m (by omega) _ htl
    exact ⟨hc0, this⟩
  have HS := Aside0.mk hS
  clear hst hC htl hS hl hm hne hN hmax
  go_enter Try.func32, Try.ntmps32
  go_upto_region 1 with (fail)
  refine start_ (n := 13) (S := fun w' => w'.cell? ⟨g, 0, none⟩ = some (.slice (some ad) N c) ∧ w'.cell? (ad.add (m * 3)) = some (.int .i64 (top s).lvl) ∧ w'.cell? ⟨(ad.add (m * 3)).block, (ad.add (m * 3)).off + 1, none⟩ = some (.int .i64 (top s).frc) ∧ w'.cell? ⟨(ad.add (m * 3)).block, (ad.add (m * 3)).off + 2, none⟩ = some (.bool (top s).iso)) (ds := [12]) #[false, false, false, false, false, false, false, false, false, false, false, false, false] (by kernel_rfl) rfl rfl ⟨(HS.out _ (below_drew1 (below_alloc (Below.refl _ _) _))).1, (HS.out _ (below_drew1 (below_alloc (Below.refl _ _) _))).2.1, (HS.out _ (below_drew1 (below_alloc (Below.refl _ _) _))).2.2.1, (HS.out _ (below_drew1 (below_alloc (Below.refl _ _) _))).2.2.2⟩ (fun hHeld => ?_)
  refine pure_ (i := 0) (N := some 3) (v := ?_) (a' := ?_) #[true, false, false, false, false, false, false, false, false, false, false, false, false] rfl rfl (by kernel_rfl) (fun _ _ _ h => h) (Or.inl ⟨by rfl, ?_⟩) ?_ ?_
  rotate_left
  · intro w'
    go_simp
    with_reducible rfl
  rotate_left
  · simp only [Act.put, List.setIfInBounds_toArray, List.set_cons_zero, List.set_cons_succ, i64_w, i32_w]
    rfl
  refine pure_ (i := 1) (N := some 4) (v := ?_) (a' := ?_) #[true, true, false, false, false, false, false, false, false, false, false, false, false] rfl rfl (by kernel_rfl) (fun _ _ _ h => h) (Or.inl ⟨by rfl, ?_⟩) ?_ ?_
  rotate_left
  · intro w'
    go_simp
    with_reducible rfl
  rotate_left
  · simp only [Act.put, List.setIfInBounds_toArray, List.set_cons_zero, List.set_cons_succ, i64_w, i32_w]
    rfl
  refine pure_ (i := 2) (N := some 5) (v := ?_) (a' := ?_) #[true, true, true, false, false, false, false, false, false, false, false, false, false] rfl rfl (by kernel_rfl) (fun _ _ _ h => h) (Or.inl ⟨by rfl, ?_⟩) ?_ ?_
  rotate_left
  · intro w'
    go_simp
    with_reducible rfl
  rotate_left
  · simp only [Act.put, List.setIfInBounds_toArray, List.set_cons_zero, List.set_cons_succ, i64_w, i32_w]
    rfl
  refine pure_ (i := 4) (N := some 7) (v := ?_) (a' := ?_) #[true, true, true, false, true, false, false, false, false, false, false, false, false] rfl rfl (by kernel_rfl) (fun _ _ _ h => h) (Or.inl ⟨by rfl, ?_⟩) ?_ ?_
  rotate_left
  · intro w'
    go_simp
    with_reducible rfl
  rotate_left
  · simp only [Act.put, List.setIfInBounds_toArray, List.set_cons_zero, List.set_cons_succ, i64_w, i32_w]
    rfl
  refine pure_ (i := 5) (N := some 8) (v := ?_) (a' := ?_) #[true, true, true, false, true, true, false, false, false, false, false, false, false] rfl rfl (by kernel_rfl) (fun _ _ _ h => h) (Or.inl ⟨by rfl, ?_⟩) ?_ ?_
  rotate_left
  · intro w'
    go_simp
    with_reducible rfl
  rotate_left
  · simp only [Act.put, List.setIfInBounds_toArray, List.set_cons_zero, List.set_cons_succ, i64_w, i32_w]
    rfl
  refine pure_ (i := 6) (N := some 9) (v := ?_) (a' := ?_) #[true, true, true, false, true, true, true, false, false, false, false, false, false] rfl rfl (by kernel_rfl) (fun _ _ _ h => h) (Or.inl ⟨by rfl, ?_⟩) ?_ ?_
  rotate_left
  · intro w'
    go_simp
    with_reducible rfl
  rotate_left
  · simp only [Act.put, List.setIfInBounds_toArray, List.set_cons_zero, List.set_cons_succ, i64_w, i32_w]
    rfl
  refine take_ (i := 3) (N := some 6) (v := ?_) (a' := ?_) #[true, true, true, true, true, true, true, false, false, false, false, false, false] rfl rfl (by kernel_rfl) (fun _ _ _ h => h) (Or.inl ⟨by rfl, ?_⟩) hHeld ?_ ?_
  rotate_left
  · rintro w' ⟨s0, s1, s2, s3⟩
    go_simp
    with_reducible rfl
  rotate_left
  · simp only [Act.put, List.setIfInBounds_toArray, List.set_cons_zero, List.set_cons_succ, i64_w, i32_w]
    rfl
  refine take_ (i := 7) (N := some 10) (v := ?_) (a' := ?_) #[true, true, true, true, true, true, true, true, false, false, false, false, false] rfl rfl (by kernel_rfl) (fun _ _ _ h => h) (Or.inl ⟨by rfl, ?_⟩) hHeld ?_ ?_
  rotate_left
  · rintro w' ⟨s0, s1, s2, s3⟩
    go_simp
    with_reducible rfl
  rotate_left
  · simp only [Act.put, List.setIfInBounds_toArray, List.set_cons_zero, List.set_cons_succ, i64_w, i32_w]
    rfl
  refine pure_ (i := 8) (N := some 11) (v := ?_) (a' := ?_) #[true, true, true, true, true, true, true, true, true, false, false, false, false] rfl rfl (by kernel_rfl) (fun _ _ _ h => h) (Or.inl ⟨by rfl, ?_⟩) ?_ ?_
  rotate_left
  · intro w'
    go_simp
    with_reducible rfl
  rotate_left
  · simp only [Act.put, List.setIfInBounds_toArray, List.set_cons_zero, List.set_cons_succ, i64_w, i32_w]
    rfl
  refine pure_ (i := 9) (N := some 12) (v := ?_) (a' := ?_) #[true, true, true, true, true, true, true, true, true, true, false, false, false] rfl rfl (by kernel_rfl) (fun _ _ _ h => h) (Or.inl ⟨by rfl, ?_⟩) ?_ ?_
  rotate_left
  · intro w'
    go_simp
    with_reducible rfl
  rotate_left
  · simp only [Act.put, List.setIfInBounds_toArray, List.set_cons_zero, List.set_cons_succ, i64_w, i32_w]
    rfl
  refine pure_ (i := 10) (N := some 13) (v := ?_) (a' := ?_) #[true, true, true, true, true, true, true, true, true, true, true, false, false] rfl rfl (by kernel_rfl) (fun _ _ _ h => h) (Or.inl ⟨by rfl, ?_⟩) ?_ ?_
  rotate_left
  · intro w'
    go_simp
    with_reducible rfl
  rotate_left
  · simp only [Act.put, List.setIfInBounds_toArray, List.set_cons_zero, List.set_cons_succ, i64_w, i32_w]
    rfl
  refine take_ (i := 11) (N := some 14) (v := ?_) (a' := ?_) #[true, true, true, true, true, true, true, true, true, true, true, true, false] rfl rfl (by kernel_rfl) (fun _ _ _ h => h) (Or.inl ⟨by rfl, ?_⟩) hHeld ?_ ?_
  rotate_left
  · rintro w' ⟨s0, s1, s2, s3⟩
    go_simp
    with_reducible rfl
  rotate_left
  · simp only [Act.put, List.setIfInBounds_toArray, List.set_cons_zero, List.set_cons_succ, i64_w, i32_w]
    rfl
  refine last_ (i := 12) (N := none) #[true, true, true, true, true, true, true, true, true, true, true, true, true] rfl rfl (by kernel_rfl) (by decide) (fun K hK => ?_)
  refine skip_ (w1 := ?_) (by rfl) rfl ?_ ?_
  rotate_left
  · go_simp
    rfl
  refine hK.out _ _ ?_
  clear hK K
  refine done_ (by kernel_rfl) ?_
  go_wp2
  refine bodyPost_ret (results_single rfl (.cell W.heap.size 43 _ (0, 0) _ rfl (blk_drew (blk_new W _)) Try.underlying43 rfl (by kernel_rfl) .nil)) rfl ?_
  exact ⟨rfl, below_drew1 (below_alloc (Below.refl _ _) _)⟩
theorem fld0 (a b : Int) (c : Bool) (W : World) : (Instr.field 43 (.agg #[.int .i64 a, .int .i64 b, .bool c]) 0).run Try.prog W = .ok (.int .i64 a) W := by kernel_rfl
theorem fld1 (a b : Int) (c : Bool) (W : World) : (Instr.field 43 (.agg #[.int .i64 a, .int .i64 b, .bool c]) 1).run Try.prog W = .ok (.int .i64 b) W := by kernel_rfl
theorem fld2 (a b : Int) (c : Bool) (W : World) : (Instr.field 43 (.agg #[.int .i64 a, .int .i64 b, .bool c]) 2).run Try.prog W = .ok (.bool c) W := by kernel_rfl
set_option maxHeartbeats 16000000 in
set_option maxRecDepth 100000 in
theorem next_calls (Z : Nat → Option Obj) (b0 g : Nat) (base : Int) (s : S) (lv ty : List Int) (sv lvv tyv : Value) (r : Bool) (W : World) (hst : St Z b0 g base s lv ty sv lvv tyv W) (hne : s.stk ≠ []) (h0 : 0 ≤ (top s).lvl) (h1 : (top s).lvl ≤ 125) :
    Calls Try.prog 36 #[.pointer (some ⟨g, 0, none⟩), .bool r] W fun e w' => e = .returned (.tuple #[.int .i64 (nl (top s).lvl r), .bool (can s r)]) ∧ Below W.heap.size W w' := by
  have HLast := Aside0.mk (last_calls Z b0 g base s lv ty sv lvv tyv W hst hne)
  have HST := Aside0.mk hst
  have hcan : can s r = (decide (nl (top s).lvl r ≤ 125) && ((s.isl : Int) == 0) && ((s.emb : Int) == 0)) := by
    rw [can, Bool.eq_iff_iff]
    simp [and_assoc]
  obtain ⟨cc, hcc⟩ : ∃ cc, can s r = cc := ⟨_, rfl⟩
  rw [hcc] at hcan ⊢
  obtain ⟨pb, hpb⟩ : ∃ pb, decide (decide (((top s).lvl + 1) % 2 = 1) = r) = pb := ⟨_, rfl⟩
  have hb : ((((top s).lvl + 1) % 2 == 1) == r) = pb := by rw [← hpb]; cases r <;> rw [Bool.eq_iff_iff] <;> simp
  have hnn : nl (top s).lvl r = if pb = true then (top s).lvl + 1 else (top s).lvl + 1 + 1 := by
    rw [nl, ← hpb]
    split
    · rename_i h; rw [if_pos (by simpa using h)]
    · rename_i h; rw [if_neg (by simpa using h)]; omega
  generalize hx : (top s).lvl = x at *
  have hf0 := fld0 x (top s).frc (top s).iso
  have e1 : wrap64 (x + 1) = x + 1 := by unfold wrap64; omega
  have hp0 : 0 ≤ x + 1 := by omega
  have hp1 : 0 ≤ x + 1 + 1 := by omega
  rw [hnn] at hcan ⊢
  clear hnn hpb hcc hst hne hx
  have hcase : (cc = false ∧ decide ((if pb = true then x + 1 else x + 1 + 1) ≤ 125) = false) ∨ (cc = false ∧ decide ((if pb = true then x + 1 else x + 1 + 1) ≤ 125) = true ∧ ((s.isl : Int) == 0) = false) ∨ (cc = false ∧ decide ((if pb = true then x + 1 else x + 1 + 1) ≤ 125) = true ∧ ((s.isl : Int) == 0) = true ∧ ((s.emb : Int) == 0) = false) ∨ (cc = true ∧ decide ((if pb = true then x + 1 else x + 1 + 1) ≤ 125) = true ∧ ((s.isl : Int) == 0) = true ∧ ((s.emb : Int) == 0) = true) := by
    rw [hcan]
    cases decide ((if pb = true then x + 1 else x + 1 + 1) ≤ 125) <;> cases ((s.isl : Int) == 0) <;> cases ((s.emb : Int) == 0) <;> simp
  clear hcan
  cases pb
  all_goals
    simp only [Bool.false_eq_true, if_false, if_true] at hcase ⊢
    rcases hcase with ⟨rfl, b1⟩ | ⟨rfl, b1, b2⟩ | ⟨rfl, b1, b2, b3⟩ | ⟨rfl, b1, b2, b3⟩
  all_goals
    go_enter Try.func36, Try.ntmps36
    go_wp2_with (first | (go_at_call 32; refine HLast.out.mono ?_; rintro e w1 ⟨rfl, hb1⟩; refine of_halt ?_))
    unfold Halt
    have HST1 := Aside0.mk (HST.out.below hb1)
    have HB1 := Aside0.mk hb1
    clear hb1
    go_upto_region 4 with (fail)
    obtain ⟨_, _, _, _, hc4, hc5, _, _, _⟩ := HST1.out.cells
    go_quiet (fail)
    go_wp2
    go_ret2
    exact ⟨rfl, pw_below_drewN HB1.out _⟩
end Go.Proofs.Ythokljlalgclkaa.G
