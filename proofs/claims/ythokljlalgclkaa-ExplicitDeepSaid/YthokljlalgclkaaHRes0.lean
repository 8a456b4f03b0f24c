/- explicit.Resolve: what its walk leans on. By hand. -/
import Derived.Test.YthokljlalgclkaaHPop
import Derived.Test.YthokljlalgclkaaResT
import Derived.Test.YthokljlalgclkaaHAppRow
import Derived.Test.YthokljlalgclkaaResU
namespace Go.Proofs.Ythokljlalgclkaa.G
open Go.RowKit Go.Proofs.Ythokljlalgclkaa.X Go.Proofs.YthokljlalgclkaaW.PrintWords Go.Proofs.YthokljlalgclkaaW.PrintLast Go.Proofs.YthokljlalgclkaaW.PrintMore Go.Proofs.Ythokljlalgclkaa.Exp
set_option linter.unusedVariables false
set_option linter.unusedSimpArgs false

def explicit_Resolve.f (c : List Int) (base : Int) : Option (List Int × List Int × Int) := if c.length ≤ 17592186043904 then some (if base ≠ 0 ∧ base ≠ 1 then ([], [], 2) else if formedB c = false then ([], [], 50) else (lvs c base, tys c base, 0)) else none
/-- What Resolve leaves. -/
def ResPost (r1 r2 : List Int) (r3 : Int) (w : World) (e : Ending) (w' : World) : Prop := ∃ v0_ v1_ : Value, e = .returned (.tuple #[v0_, v1_, .int .i64 r3]) ∧ Kd.R (Kd.int .i64) 3 w' w.heap.size (fun k_ => some k_ ≠ (v1_ : Value).ownBlock) v0_ r1 ∧ Kd.R (Kd.int .i64) 3 w' w.heap.size (fun k_ => some k_ ≠ (v0_ : Value).ownBlock) v1_ r2 ∧ Below w.heap.size w w'
theorem drew_le {n : Nat} {W : World} (h : n ≤ W.heap.size) : n ≤ (World.drew W).heap.size := h
theorem grown_le {n : Nat} {W W1 : World} {row : Option Nat} (h : n ≤ W.heap.size) (hg : W.grownBy W1 row) : n ≤ W1.heap.size := Nat.le_trans h hg.size
theorem made_lt {e base : Nat} {W W1 : World} {v : Value} {xs : List Int} (h : Kd.R (Kd.int .i64) e W1 base (fun k => k = W.heap.size) v xs) (hn : ∃ b, v.ownBlock = some b ∧ W.heap.size ≤ b) : W.heap.size < W1.heap.size := by
  obtain ⟨b, e1, _⟩ := hn
  have := (Kd.R_bound h).1 b e1
  have h2 := this.2.2.1
  have h3 : b = W.heap.size := this.1
  omega
theorem apart_of {e e' b b' : Nat} {W : World} {a v : Value} {xs ys : List Int} {okA okB : Nat → Prop} (hA : Kd.R (Kd.int .i64) e W b okA a xs) (hB : Kd.R (Kd.int .i64) e' W b' okB v ys) (hd : ∀ k, okA k → okB k → False) : Kd.R (Kd.int .i64) e W b (fun k => some k ≠ v.ownBlock) a xs :=
  Kd.R_mono hA (fun k hk e => hd k hk (hB.1 k e.symm))
/-- A state meets memory made behind it. -/
theorem St.meet {b0 g : Nat} {base : Int} {s : S} {lv ty : List Int} {sv lvv tyv : Value} {W W' : World} (h : St (fun _ => none) b0 g base s lv ty sv lvv tyv W) (hb : Below W.heap.size W W') (Z : Nat → Option Obj) (hz : ∀ k o, Z k = some o → W.heap.size ≤ k ∧ W'.heap[k]? = some o) : St Z b0 g base s lv ty sv lvv tyv W' := by
  have hn : ∀ k, k < W.heap.size → Z k = none := fun k hk => by
    cases e : Z k with
    | none => rfl
    | some o => have := (hz k o e).1; omega
  exact ⟨blk_below h.blk hb, h.ge, hn g (blk_lt h.blk), fun k o e => (hz k o e).2, Kd.R_below (Kd.R_mono (Kd.R_bound h.stk) (fun k hk => hn k hk.2.2.1)) hb, Kd.R_below (Kd.R_mono (Kd.R_bound h.lvs) (fun k hk => ⟨hn k hk.2.2.1, hk.1.2⟩)) hb, Kd.R_below (Kd.R_mono (Kd.R_bound h.tys) (fun k hk => ⟨hn k hk.2.2.1, hk.1.2⟩)) hb⟩
def zOf (v : Value) (W : World) : Nat → Option Obj := fun k => if some k = v.ownBlock then W.heap[k]? else none
theorem zOf_some {v : Value} {W : World} {k : Nat} {o : Obj} (h : zOf v W k = some o) : some k = v.ownBlock ∧ W.heap[k]? = some o := by
  unfold zOf at h
  split at h
  · rename_i hk; exact ⟨hk, h⟩
  · cases h
/-- What is kept reads as it did. -/
theorem zOf_R {b0 g b e : Nat} {base : Int} {s : S} {lv ty : List Int} {sv lvv tyv v : Value} {W W' : World} {ok : Nat → Prop} {xs : List Int} (h : Kd.R (Kd.int .i64) e W b ok v xs) (hs : St (zOf v W) b0 g base s lv ty sv lvv tyv W') : Kd.R (Kd.int .i64) e W' b (fun k => some k = v.ownBlock) v xs :=
  Kd.R_step (Kd.R_tight rfl h) (fun k hk hlt => by
    obtain ⟨o, ho⟩ : ∃ o, W.heap[k]? = some o := ⟨_, Array.getElem?_eq_getElem hlt⟩
    rw [ho]
    exact hs.zk k o (by unfold zOf; rw [if_pos hk]; exact ho))
theorem stack1 (W : World) (b : Nat) (hb : b ≤ W.heap.size) (x : Row3) : entK.R 43 (W.alloc (Obj.cells #[.int .i64 x.1, .int .i64 x.2.1, .bool x.2.2] 43)) b (fun _ => True) (.slice (some ⟨W.heap.size, 0, none⟩) 1 1) [x] := by
  refine ⟨fun _ _ => trivial, [.int .i64 x.1, .int .i64 x.2.1, .bool x.2.2], ?_, ?_⟩
  · have h2 := World.ownsRow_lit (base := b) (e := 43) (size := entK.sz) W #[.int .i64 x.1, .int .i64 x.2.1, .bool x.2.2] 1 hb (by decide) (by simp [entK_sz])
    simpa using h2
  · exact Reps.c3 (entK_M _ _ _ x) (Reps.none _ _)
/-- The state that Resolve starts from. -/
theorem St.start {b0 g : Nat} {base : Int} {lv ty : List Int} {lvv tyv : Value} {W : World} (hbk : W.heap[g]? = some (.cells #[.slice none 0 0, .int .i64 base, .int .i64 0, .bool false, .int .i64 0, .int .i64 0, .int .i64 0, lvv, tyv] 46 (0, 0))) (hg : b0 ≤ g) (hb : b0 ≤ W.heap.size)
    (hl : Kd.R (Kd.int .i64) 3 W b0 (fun k => some k ≠ tyv.ownBlock) lvv lv) (ht : Kd.R (Kd.int .i64) 3 W b0 (fun k => some k ≠ lvv.ownBlock) tyv ty) :
    St (fun _ => none) b0 g base (s0 base) lv ty (.slice (some ⟨W.heap.size, 0, none⟩) 1 1) lvv tyv ((W.alloc (Obj.cells #[.int .i64 base, .int .i64 0, .bool false] 43)).setCell ⟨g, 0, none⟩ (.slice (some ⟨W.heap.size, 0, none⟩) 1 1)) := by
  have hbk' := blk_alloc hbk (Obj.cells #[.int .i64 base, .int .i64 0, .bool false] 43)
  refine ⟨blk_put hbk' 0 _ rfl, hg, rfl, fun _ _ h => (by cases h), Kd.R_set ?_ hbk' (by decide) 0 _, Kd.R_set ?_ hbk' (by decide) 0 _, Kd.R_set ?_ hbk' (by decide) 0 _⟩
  · exact Kd.R_mono (stack1 W b0 hb (base, 0, false)) (fun _ _ => rfl)
  · exact Kd.R_mono (Kd.R_alloc hl _) (fun _ h => ⟨rfl, h⟩)
  · exact Kd.R_mono (Kd.R_alloc ht _) (fun _ h => ⟨rfl, h⟩)
end Go.Proofs.Ythokljlalgclkaa.G
