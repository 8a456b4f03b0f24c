/- neutral.lasts by hand: over whatever it is handed. -/
import Derived.RangeFuncWrites
import Derived.Test.YtcjmjggifeaggaaHIter
namespace Go.Proofs.Ytcjmjggifeaggaa.G
open Go.RowKit Go.Shelf Go.Proofs.YtcjmjggifeaggaaW.PrintWords Go.Proofs.YtcjmjggifeaggaaW.PrintLast Go.Proofs.YtcjmjggifeaggaaW.PrintMore
set_option linter.unusedVariables false
set_option linter.unusedSimpArgs false
attribute [local go_sem] Oper.semAt_some

/-- the last side -/
def lastNext (a x : Int) : Int := if sideOf x = 0 then a else sideOf x
def lastStep {n : Nat} (s : Int × List Int) (x : Fin n × Int) : Int × List Int := (lastNext s.1 x.2, s.2.set x.1 (lastNext s.1 x.2))
def lastsOf (n : Nat) (f0 : Int) (L : List (Fin n × Int)) : Int × List Int := L.foldl lastStep (f0, List.replicate n 0)
theorem lastsOf_snoc (n : Nat) (f0 : Int) (L : List (Fin n × Int)) (x : Fin n × Int) : lastsOf n f0 (L ++ [x]) = lastStep (lastsOf n f0 L) x := by simp [lastsOf]
theorem lastStep_length {n : Nat} (s : Int × List Int) (x : Fin n × Int) : (lastStep s x).2.length = s.2.length := by simp [lastStep]
theorem lastsOf_length (n : Nat) (f0 : Int) (L : List (Fin n × Int)) : (lastsOf n f0 L).2.length = n := by
  have : ∀ (L : List (Fin n × Int)) (s : Int × List Int), (L.foldl lastStep s).2.length = s.2.length := by
    intro L
    induction L with
    | nil => intro s; rfl
    | cons x L ih => intro s; rw [List.foldl_cons, ih, lastStep_length]
  rw [lastsOf, this]; simp
def rowOf (xs : List Int) : Array Value := (xs.map (Value.int .i64)).toArray
theorem rowOf_set (xs : List Int) (i : Nat) (v : Int) : (rowOf xs).setIfInBounds i (.int .i64 v) = rowOf (xs.set i v) := by simp [rowOf]
theorem rowOf_get (xs : List Int) (i : Nat) (h : i < xs.length) : (rowOf xs)[i]? = some (.int .i64 xs[i]) := by simp [rowOf, h]

def LI (w : World) (n : Nat) (f0 : Int) (pre : List (Fin n × Int)) (W : World) : Prop :=
  (W.heap[w.heap.size + 1]? = some (.cells #[.slice (some ⟨w.heap.size, 0, none⟩) n n] 22 (0, 0)) ∧ W.heap[w.heap.size + 1 + 1]? = some sidesObj ∧ W.heap[w.heap.size + 1 + 1 + 1]? = some (.cells #[.map (some (w.heap.size + 1 + 1))] 39 (0, 0)) ∧
    W.heap[w.heap.size + 1 + 1 + 1 + 1]? = some (.cells #[.int .i64 (lastsOf n f0 pre).1] 3 (0, 0)) ∧ W.heap[w.heap.size]? = some (.cells (rowOf (lastsOf n f0 pre).2) 3 (0, 0))) ∧ Below w.heap.size w W
theorem LI_own (w : World) (n : Nat) (f0 : Int) (B : Nat) (hB : w.heap.size + 5 ≤ B) : OwnFrom B (LI w n f0) := by
  refine OwnFrom.and ?_ (ownFrom_below (Nat.le_refl _) (by omega))
  intro s A W row hs hg hr
  have hne : ∀ k, k < B → some k ≠ row := fun k hk e => by have := (hr k e.symm).1; omega
  exact ⟨blk_grown hs.1 hg (hne _ (by omega)), blk_grown hs.2.1 hg (hne _ (by omega)), blk_grown hs.2.2.1 hg (hne _ (by omega)), blk_grown hs.2.2.2.1 hg (hne _ (by omega)), blk_grown hs.2.2.2.2 hg (hne _ (by omega))⟩
theorem cells_of_made (n : Nat) : madeCells (Value.int .i64 0).cells n = rowOf (List.replicate n 0) := by
  apply Array.ext
  · simp [madeCells, rowOf]
  · intro i h1 h2
    simp [madeCells, rowOf, Value.cells, Nat.mod_one]
theorem setCell_far {w : World} {g : Nat} {o : Obj} (h : w.heap[g]? = some o) {p : Addr} (hp : g ≠ p.block) (u : Value) : (w.setCell p u).heap[g]? = some o := (Below.heap_setCell w p u g hp).trans h

set_option maxRecDepth 100000 in
set_option maxHeartbeats 8000000 in
theorem lasts_calls (g Bs : Nat) (n : Nat) (f0 : Int) (L : List (Fin n × Int)) (w : World) (hn : n < 17592186044416)
    (eg : ∀ args w, (callFunc g args).run Try.prog w = .ok (.enter g args) w)
    (hseq : SeqStopsK Fence.wide 5 Try.prog g #[.pointer (some ⟨Bs, 0, none⟩)] (fun x : Fin n × Int => encIt x) (Below w.heap.size) (fun ys => ys = L) (fun _ => True) n w) :
    Calls Try.prog 18 #[.int .i64 n, .func (.func g) #[] #[.pointer (some ⟨Bs, 0, none⟩)], .int .i64 f0] w fun e w' => ∃ v, e = .returned v ∧ Kd.R (Kd.int .i64) 3 w' w.heap.size (fun _ => True) v (lastsOf n f0 L).2 ∧ Below w.heap.size w w' := by
  have info3 : (Try.prog.info? 3).map (fun i => (i.zero, i.size, i.bytes)) = some (some (.int .i64 0), 1, 8) := by kernel_rfl
  obtain ⟨i3, hi3, hi3z, hi3s, hi3b⟩ := info_parts info3
  have hmk : ∀ W : World, (Instr.makeSlice 22 (.int .i64 (n : Int)) (.int .i64 (n : Int))).run Try.prog W = .ok (.slice (some ⟨W.heap.size, 0, none⟩) n n) (W.alloc (.cells (rowOf (List.replicate n 0)) 3)) := by
    intro W
    have := run_make (P := Try.prog) W 22 3 i3 (.int .i64 0) Try.underlying22 hi3 hi3z .i64 .i64 (n : Int) (n : Int) (by omega) (by omega) (by rw [hi3b]; omega) (by omega)
    rw [this, hi3s, Int.toNat_natCast, Nat.mul_one, cells_of_made]
  have HS := Aside0.mk hseq
  have HN := Aside0.mk hn
  have HE := Aside0.mk eg
  clear hseq hn eg
  refine (callsIn_wide (n := 6)).1 ?_
  refine callsIn_of_wp_marks Try.func18 rfl trivial ?_ rfl
  simp only [Try.ntmps18, List.size_toArray, List.length_cons, List.length_nil, Nat.reduceAdd, Nat.reduceSub, Array.replicate_succ, Array.replicate_zero, List.push_toArray, List.append_toArray, List.nil_append, List.cons_append]
  refine wpIn_wide.2 ?_
  go_wp2_with (first | (go_at_call 16; refine (sides_calls _).mono ?_; rintro e w1 ⟨rfl, rfl⟩))
  refine (wpIn_wide (n := 6)).1 ?_
  obtain ⟨W0, hW0⟩ : ∃ W0, (((((w.alloc (.cells (rowOf (List.replicate n 0)) 3)).alloc (.cells #[.slice (some ⟨w.heap.size, 0, none⟩) n n] 22)).alloc sidesObj).alloc (.cells #[.map (some (w.heap.size + 1 + 1))] 39)).alloc (.cells #[.int .i64 f0] 3)) = W0 := ⟨_, rfl⟩
  have hsz : W0.heap.size = w.heap.size + 5 := by rw [← hW0]; simp
  have hLI : LI w n f0 [] W0 := by
    rw [← hW0]
    have s1 := World.size_alloc w (.cells (rowOf (List.replicate n 0)) 3)
    refine ⟨⟨?_, ?_, ?_, ?_, ?_⟩, ?_⟩
    · refine blk_alloc (blk_alloc (blk_alloc ?_ _) _) _
      have := blk_new (w.alloc (.cells (rowOf (List.replicate n 0)) 3)) (.cells #[.slice (some ⟨w.heap.size, 0, none⟩) n n] 22)
      rwa [World.size_alloc] at this
    · refine blk_alloc (blk_alloc ?_ _) _
      have := blk_new ((w.alloc (.cells (rowOf (List.replicate n 0)) 3)).alloc (.cells #[.slice (some ⟨w.heap.size, 0, none⟩) n n] 22)) sidesObj
      rwa [World.size_alloc, World.size_alloc] at this
    · refine blk_alloc ?_ _
      have := blk_new (((w.alloc (.cells (rowOf (List.replicate n 0)) 3)).alloc (.cells #[.slice (some ⟨w.heap.size, 0, none⟩) n n] 22)).alloc sidesObj) (.cells #[.map (some (w.heap.size + 1 + 1))] 39)
      rwa [World.size_alloc, World.size_alloc, World.size_alloc] at this
    · have := blk_new ((((w.alloc (.cells (rowOf (List.replicate n 0)) 3)).alloc (.cells #[.slice (some ⟨w.heap.size, 0, none⟩) n n] 22)).alloc sidesObj).alloc (.cells #[.map (some (w.heap.size + 1 + 1))] 39)) (.cells #[.int .i64 f0] 3)
      rwa [World.size_alloc, World.size_alloc, World.size_alloc, World.size_alloc] at this
    · exact blk_alloc (blk_alloc (blk_alloc (blk_alloc (blk_new _ _) _) _) _) _
    · exact below_alloc (below_alloc (below_alloc (below_alloc (below_alloc (Below.refl _ _) _) _) _) _) _
  rw [hW0]
  clear hmk
  refine wpIn_rangeFunc_ownG (by rfl) (by omega) (gf := g) (lb := #[.pointer (some ⟨Bs, 0, none⟩)]) rfl trivial HE.out
    HS.out belowK_t (belowK_b (by omega)) hLI.2 (fun _ => rfl)
    (LI w n f0) (fun _ _ _ => False) (LI_own w n f0 _ (by omega)) (fun _ _ _ _ _ hs _ _ => hs) hLI ?acts ?assign ?body ?done ?stop
  case assign =>
    intro l x W K hK
    gi_wp2
    exact hK
  case body =>
    rintro l pre x W ⟨⟨h1, h2, h3, h4, h5⟩, hB⟩ hpl
    have c4 : W.cell? ⟨w.heap.size + 1 + 1 + 1 + 1, 0, none⟩ = some (.int .i64 (lastsOf n f0 pre).1) := (blk_cell h4 0).trans rfl
    have f4 := blk_frozen h4 0
    have hx := x.1.isLt
    have hxl : x.1.val < (lastsOf n f0 pre).2.length := by rw [lastsOf_length]; exact hx
    have c5 : W.cell? ⟨w.heap.size, x.1.val, none⟩ = some (.int .i64 (lastsOf n f0 pre).2[x.1.val]) := (blk_cell h5 _).trans (rowOf_get _ _ hxl)
    have f5 := blk_frozen h5 x.1.val
    have i1 : ((x.1.val : Int) < (n : Int)) := by omega
    have hlook := sideLookOk W _ h2 x.2
    have c1 : W.cell? ⟨w.heap.size + 1, 0, none⟩ = some (.slice (some ⟨w.heap.size, 0, none⟩) n n) := (blk_cell h1 0).trans rfl
    have c3 : W.cell? ⟨w.heap.size + 1 + 1 + 1, 0, none⟩ = some (.map (some (w.heap.size + 1 + 1))) := (blk_cell h3 0).trans rfl
    have hne : ∀ a b : Nat, w.heap.size + a = w.heap.size + b → a = b := by omega
    by_cases hs : sideOf x.2 = 0
    · have hs' : (!decide (sideOf x.2 = 0)) = false := by simp [hs]
      have hst : lastsOf n f0 (pre ++ [x]) = ((lastsOf n f0 pre).1, (lastsOf n f0 pre).2.set x.1 (lastsOf n f0 pre).1) := by rw [lastsOf_snoc, lastStep, lastNext, if_pos hs]
      have HST := Aside0.mk hst
      clear hst hs
      gi_wp2
      refine ⟨(KeepsOthers.setCell _ _ _).from _, (Below.refl w.heap.size W).setCell (p := ⟨w.heap.size, x.1.val, none⟩) (Nat.le_refl _) _, ⟨?_, ?_, ?_, ?_, ?_⟩, hB.setCell (p := ⟨w.heap.size, x.1.val, none⟩) (Nat.le_refl _) _⟩
      · exact setCell_far h1 (by show w.heap.size + 1 ≠ w.heap.size; omega) _
      · exact setCell_far h2 (by show w.heap.size + 1 + 1 ≠ w.heap.size; omega) _
      · exact setCell_far h3 (by show w.heap.size + 1 + 1 + 1 ≠ w.heap.size; omega) _
      · rw [HST.out]; exact setCell_far h4 (by show w.heap.size + 1 + 1 + 1 + 1 ≠ w.heap.size; omega) _
      · rw [HST.out]; exact blk_put h5 _ _ (rowOf_set _ _ _)
    · have hs' : (!decide (sideOf x.2 = 0)) = true := by simp [hs]
      have hst : lastsOf n f0 (pre ++ [x]) = (sideOf x.2, (lastsOf n f0 pre).2.set x.1 (sideOf x.2)) := by rw [lastsOf_snoc, lastStep, lastNext, if_neg hs]
      have HST := Aside0.mk hst
      clear hst hs
      gi_wp2
      have b1 := (Below.refl w.heap.size W).setCell (p := ⟨w.heap.size + 1 + 1 + 1 + 1, 0, none⟩) (by show w.heap.size ≤ w.heap.size + 1 + 1 + 1 + 1; omega) (.int .i64 (sideOf x.2))
      have b2 := b1.setCell (p := ⟨w.heap.size, x.1.val, none⟩) (Nat.le_refl _) (.int .i64 (sideOf x.2))
      refine ⟨((KeepsOthers.setCell _ _ _).from _).trans ((KeepsOthers.setCell _ _ _).from _), b2, ⟨?_, ?_, ?_, ?_, ?_⟩, hB.trans b2⟩
      · exact setCell_far (setCell_far h1 (by show w.heap.size + 1 ≠ w.heap.size + 1 + 1 + 1 + 1; omega) _) (by show w.heap.size + 1 ≠ w.heap.size; omega) _
      · exact setCell_far (setCell_far h2 (by show w.heap.size + 1 + 1 ≠ w.heap.size + 1 + 1 + 1 + 1; omega) _) (by show w.heap.size + 1 + 1 ≠ w.heap.size; omega) _
      · exact setCell_far (setCell_far h3 (by show w.heap.size + 1 + 1 + 1 ≠ w.heap.size + 1 + 1 + 1 + 1; omega) _) (by show w.heap.size + 1 + 1 + 1 ≠ w.heap.size; omega) _
      · rw [HST.out]; exact setCell_far (blk_put h4 0 _ rfl) (by show w.heap.size + 1 + 1 + 1 + 1 ≠ w.heap.size; omega) _
      · rw [HST.out]; exact blk_put (setCell_far h5 (by show w.heap.size ≠ w.heap.size + 1 + 1 + 1 + 1; omega) _) _ _ (rowOf_set _ _ _)
  case done =>
    rintro D ys W hD rfl ⟨⟨h1, h2, h3, h4, h5⟩, hB⟩ hK
    have c1 : W.cell? ⟨w.heap.size + 1, 0, none⟩ = some (.slice (some ⟨w.heap.size, 0, none⟩) n n) := (blk_cell h1 0).trans rfl
    go_wp2
    refine ⟨by simp, .inl ⟨_, _, rfl, run_takeDeferred hK, ?_⟩⟩
    refine ⟨_, results_tmp rfl _ _ _, _, rfl, ?_, hB.trans (belowK_b (w := w) (Nat.le_refl _) W D _ _ (by omega) hK rfl rfl)⟩
    have hR : Kd.R (Kd.int .i64) 3 W w.heap.size (fun k => k = w.heap.size) (.slice (some ⟨w.heap.size, 0, none⟩) n n) (lastsOf n f0 ys).2 := by
      have hl := lastsOf_length n f0 ys
      refine Kd.R_of_own (enc := Value.int .i64) (h1 := fun _ => rfl) ⟨by simp [encs], .inr ⟨w.heap.size, n, rowOf (lastsOf n f0 ys).2, by rw [hl], Nat.le_refl _, h5, by omega, by have := HN.out; unfold maxLen; omega, by simp [rowOf, hl], ?_⟩⟩ (fun k hk => by simp [Value.ownBlock] at hk; exact hk.symm)
      rw [show (rowOf (lastsOf n f0 ys).2).toList = encs (Value.int .i64) (lastsOf n f0 ys).2 by simp [rowOf, encs]]
      exact List.take_of_length_le (by simp [encs])
    exact Kd.R_mono (Kd.R_grown hR (grownBy_putObj' _ D (.deferred none)) (fun k hk e => by injection e with e; omega)) (fun _ _ => trivial)
  case stop =>
    rintro D c pre W _ _ h _
    exact h.elim
end Go.Proofs.Ytcjmjggifeaggaa.G
