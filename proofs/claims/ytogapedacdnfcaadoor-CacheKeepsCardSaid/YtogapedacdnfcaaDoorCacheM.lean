/- A map of whole keys, as a function: lookups and stores. -/
import Derived.Test.YtogapedacdnfcaaDoorHTy
import Derived.Carry
import Derived.Test.YtogapedacdnfcaaDoorDiskM
namespace Go.Proofs.YtogapedacdnfcaaDoor.G
open Go.RowKit Go.Proofs.YtogapedacdnfcaaDoorW.PrintWords Go.Proofs.YtogapedacdnfcaaDoorW.PrintLast Go.Proofs.YtogapedacdnfcaaDoorW.PrintMore
set_option linter.unusedVariables false
set_option linter.unusedSimpArgs false
def keyIs (x : Int) (e : MapEntry) : Bool := match e.key with | .int .i64 k => x == k | _ => false
def mget (x : Int) (l : List MapEntry) : Option Value := (l.find? (keyIs x)).map (·.val)
def keysOk (l : List MapEntry) : Prop := ∀ e ∈ l, ∃ k : Int, e.key = .int .i64 k
/-- The map in block b is f. -/
def MapAt (W : World) (b : Nat) (f : Int → Option Value) : Prop := ∃ (es : Array MapEntry) (c : Nat), W.heap[b]? = some (.map es c) ∧ keysOk es.toList ∧ ∀ x, mget x es.toList = f x
theorem MapAt.move {W W' : World} {b : Nat} {f : Int → Option Value} (h : MapAt W b f) (hb : W'.heap[b]? = W.heap[b]?) : MapAt W' b f := by
  obtain ⟨es, c, h1, h2⟩ := h
  exact ⟨es, c, hb.trans h1, h2⟩
theorem MapAt.lt {W : World} {b : Nat} {f : Int → Option Value} (h : MapAt W b f) : b < W.heap.size := by
  obtain ⟨es, c, h1, _⟩ := h
  exact (Array.getElem?_eq_some_iff.1 h1).1
theorem MapAt.below {W W' : World} {b : Nat} {f : Int → Option Value} (h : MapAt W b f) (hb : Below W.heap.size W W') : MapAt W' b f := h.move (hb.block b h.lt)
theorem MapAt.new (W : World) : MapAt (W.alloc (.map #[] 0)) W.heap.size (fun _ => none) := ⟨#[], 0, heap_alloc_new _ _, fun e he => by simp at he, fun x => rfl⟩
theorem mget_cons (x : Int) (e : MapEntry) (l : List MapEntry) : mget x (e :: l) = if keyIs x e then some e.val else mget x l := by
  unfold mget
  rw [List.find?_cons]
  cases keyIs x e <;> rfl
theorem mfind (x : Int) : ∀ (l : List MapEntry) (i : Nat), keysOk l →
    (mget x l = none ∧ Instr.findNow (.int .i64) (.int .i64 x) l i = some none) ∨
    (∃ p v, mget x l = some v ∧ Instr.findNow (.int .i64) (.int .i64 x) l i = some (some (i + p, v)) ∧ (∃ e, l[p]? = some e ∧ e.key = .int .i64 x) ∧
      ∀ u y, mget y (l.modify p fun e => { e with key := .int .i64 x, val := u }) = if y = x then some u else mget y l)
  | [], i, _ => .inl ⟨rfl, rfl⟩
  | e :: l, i, hk => by
    obtain ⟨k, hek⟩ := hk e (by simp)
    have hkl : keysOk l := fun q hq => hk q (by simp [hq])
    by_cases hx : x = k
    · subst hx
      refine .inr ⟨0, e.val, ?_, ?_, ⟨e, rfl, hek⟩, fun u y => ?_⟩
      · rw [mget_cons]; simp [keyIs, hek]
      · simp [Instr.findNow, Instr.sameNow, hek]
      · rw [show (e :: l).modify 0 (fun e => { e with key := .int .i64 x, val := u }) = { e with key := .int .i64 x, val := u } :: l from rfl, mget_cons, mget_cons]
        by_cases hy : y = x
        · simp [keyIs, hy]
        · simp [keyIs, hek, hy]
    · have h1 : keyIs x e = false := by simp [keyIs, hek, hx]
      have h2 : Instr.sameNow (.int .i64) (.int .i64 x) e.key = some false := by simp [Instr.sameNow, hek, hx]
      rcases mfind x l (i + 1) hkl with ⟨h3, h4⟩ | ⟨p, v, h3, h4, ⟨q, hq1, hq2⟩, h5⟩
      · refine .inl ⟨by rw [mget_cons, h1]; simpa using h3, ?_⟩
        simp [Instr.findNow, h2, h4]
      · refine .inr ⟨p + 1, v, by rw [mget_cons, h1]; simpa using h3, ?_, ⟨q, by simpa using hq1, hq2⟩, fun u y => ?_⟩
        · simp [Instr.findNow, h2, h4]; omega
        · rw [List.modify_succ_cons, mget_cons, mget_cons, h5 u y]
          by_cases hy : y = x
          · subst hy; simp [h1]
          · simp [hy]
theorem vgetObj {P : Program} {W : World} {b : Nat} {es : Array MapEntry} {c : Nat} (h : W.heap[b]? = some (.map es c)) : (getObj b).run P W = .ok (.map es c) W := by
  simp [getObj, Sem.run, h]
theorem vcheckKey {P : Program} {k : IntKind} {t : TypeId} (W : World) (b : Bool) (n : Nat) (x : Int) (ht : P.underlying t = some (.int k)) : (Instr.checkKey b (n + 1) t (.int k x)).run P W = .ok () W := by
  simp [Instr.checkKey, run_underlying ht]
theorem vfindKey {P : Program} {k : IntKind} {t : TypeId} (W : World) (x : Int) (es : List MapEntry) (r : Option (Nat × Value)) (ht : P.underlying t = some (.int k)) (h : Instr.findNow (.int k) (.int k x) es 0 = some r) : (Instr.findKey t (.int k x) es).run P W = .ok r W := by
  unfold Instr.findKey
  simp [run_underlying ht, h]
/-- A lookup. -/
theorem map_get {P : Program} {T K E : TypeId} {z : Value} (hT : P.underlying T = some (.map K E)) (hK : P.underlying K = some (.int .i64)) (hz : ∀ w, (zeroValue E).run P w = .ok z w) {W : World} {b : Nat} {f : Int → Option Value} (h : MapAt W b f) (x : Int) :
    (Instr.lookup T (.map (some b)) (.int .i64 x) true).run P W = .ok (match f x with | some v => .tuple #[v, .bool true] | none => .tuple #[z, .bool false]) W := by
  have hk : ∀ bb, (Instr.checkKey bb 10000 K (.int .i64 x)).run P W = .ok () W := fun bb => vcheckKey W bb 9999 _ hK
  obtain ⟨es, c, hb, hok, hf⟩ := h
  rcases mfind x es.toList 0 hok with ⟨h3, h4⟩ | ⟨p, v, h3, h4, _⟩
  · rw [← hf x, h3]
    unfold Instr.lookup
    simp only [Sem.run_bind, run_underlying hT, Result.andThen_ok, vgetObj (P := P) hb, Sem.run_pure, hk, vfindKey W _ _ _ hK h4, hz]
    rfl
  · rw [← hf x, h3]
    unfold Instr.lookup
    simp only [Sem.run_bind, run_underlying hT, Result.andThen_ok, vgetObj (P := P) hb, Sem.run_pure, hk, vfindKey W _ _ _ hK h4]
    rfl
/-- A store. -/
theorem map_put {P : Program} {T K E : TypeId} (hT : P.underlying T = some (.map K E)) (hK : P.underlying K = some (.int .i64)) {W : World} {b : Nat} {f : Int → Option Value} (h : MapAt W b f) (x : Int) (v : Value) :
    ∃ W', (Instr.mapUpdate T (.map (some b)) (.int .i64 x) v).run P W = .ok () W' ∧ MapAt W' b (fun y => if y = x then some v else f y) ∧ W.grownBy W' (some b) := by
  have hk : ∀ bb, (Instr.checkKey bb 10000 K (.int .i64 x)).run P W = .ok () W := fun bb => vcheckKey W bb 9999 _ hK
  have hlt := h.lt
  obtain ⟨es, c, hb, hok, hf⟩ := h
  have hgr : ∀ o, W.grownBy { W with heap := W.heap.setIfInBounds b o } (some b) := fun o => ⟨rfl, rfl, rfl, by simp, fun k hk hne => by
    have : b ≠ k := fun e => hne (by rw [e])
    simp [Array.getElem?_setIfInBounds, this]⟩
  rcases mfind x es.toList 0 hok with ⟨h3, h4⟩ | ⟨p, v0, h3, h4, ⟨q, hq1, hq2⟩, h5⟩
  · refine ⟨{ W with heap := W.heap.setIfInBounds b (.map (es.push { key := .int .i64 x, val := v, born := c }) (c + 1)) }, ?_, ⟨es.push { key := .int .i64 x, val := v, born := c }, c + 1, by simp [hlt], ?_, fun y => ?_⟩, hgr _⟩
    · unfold Instr.mapUpdate
      simp only [Sem.run_bind, run_underlying hT, Result.andThen_ok, vgetObj (P := P) hb, Sem.run_pure, hk, vfindKey W _ _ _ hK h4, MapKept.run_setObj_map _ hb]
    · intro e he
      rw [Array.toList_push, List.mem_append] at he
      rcases he with he | he
      · exact hok e he
      · obtain rfl := List.mem_singleton.1 he
        exact ⟨x, rfl⟩
    · show _ = if y = x then some v else f y
      rw [Array.toList_push, ← hf y]
      unfold mget
      rw [List.find?_append]
      by_cases hy : y = x
      · subst hy
        have : es.toList.find? (keyIs y) = none := by
          have := h3
          unfold mget at this
          simpa using this
        simp [this, keyIs]
      · simp [keyIs, hy]
  · rw [Nat.zero_add] at h4
    have hq : es[p]? = some q := by rw [← Array.getElem?_toList]; exact hq1
    have hst : (Instr.keyThatStays (((es[p]?).map (·.key)).getD (.int .i64 x)) (.int .i64 x)).run P W = .ok (.int .i64 x) W := by
      rw [hq]
      simp only [Option.map_some, Option.getD_some, hq2]
      unfold Instr.keyThatStays
      rw [show Instr.sameBits 10000 (.int .i64 x) (.int .i64 x) = true by simp [Instr.sameBits]]
      rfl
    refine ⟨{ W with heap := W.heap.setIfInBounds b (.map (es.modify p fun e => { e with key := .int .i64 x, val := v }) c) }, ?_, ⟨es.modify p fun e => { e with key := .int .i64 x, val := v }, c, by simp [hlt], ?_, fun y => ?_⟩, hgr _⟩
    · unfold Instr.mapUpdate
      simp only [Sem.run_bind, run_underlying hT, Result.andThen_ok, vgetObj (P := P) hb, Sem.run_pure, hk, vfindKey W _ _ _ hK h4, hst, MapKept.run_setObj_map _ hb]
    · intro e he
      rw [Array.toList_modify] at he
      obtain ⟨j, hj⟩ := List.mem_iff_getElem?.1 he
      rw [List.getElem?_modify] at hj
      obtain ⟨e0, he0, he1⟩ := Option.map_eq_some_iff.1 hj
      by_cases hjp : p = j
      · rw [if_pos hjp] at he1
        exact ⟨x, by rw [← he1]⟩
      · rw [if_neg hjp] at he1
        exact hok e (by rw [← he1]; exact List.mem_of_getElem? he0)
    · rw [Array.toList_modify, h5 v y, hf y]
end Go.Proofs.YtogapedacdnfcaaDoor.G
/- The cache in memory; none, Clone, copied, place. By hand. -/
namespace Go.Proofs.YtogapedacdnfcaaDoor.G
open Go.RowKit Go.Shelf Go.Proofs.YtogapedacdnfcaaDoorW.PrintWords Go.Proofs.YtogapedacdnfcaaDoorW.PrintLast Go.Proofs.YtogapedacdnfcaaDoorW.PrintMore Go.Proofs.YtogapedacdnfcaaDoor.Dsk
set_option linter.unusedVariables false
set_option linter.unusedSimpArgs false
/-- An entry: its key, what was asked, its level, its levels. -/
abbrev Ent := Int × Int × Int × List Int
def entVal (x : Ent) (A : Option Addr) (c : Nat) : Value := .agg #[.int .u64 x.1, .int .i64 x.2.1, .int .i64 x.2.2.1, .slice A x.2.2.2.length c]
/-- An entry's value, its levels in a row within F. -/
def EntV (F : Nat → Prop) (W : World) (x : Ent) (v : Value) : Prop := ∃ A c, v = entVal x A c ∧ (Kd.int .i64).R 3 W 0 F (.slice A x.2.2.2.length c) x.2.2.2
theorem EntV.step {F : Nat → Prop} {W W' : World} {x : Ent} {v : Value} (h : EntV F W x v) (hm : ∀ k, F k → k < W.heap.size → W'.heap[k]? = W.heap[k]?) : EntV F W' x v := by
  obtain ⟨A, c, h1, h2⟩ := h
  exact ⟨A, c, h1, Kd.R_step h2 hm⟩
theorem EntV.mono {F G : Nat → Prop} {W : World} {x : Ent} {v : Value} (h : EntV F W x v) (hG : ∀ k, F k → G k) : EntV G W x v := by
  obtain ⟨A, c, h1, h2⟩ := h
  exact ⟨A, c, h1, Kd.R_mono h2 hG⟩
/-- A map's values are a table's entries. -/
def Tells (F : Nat → Prop) (W : World) (m : Nat → Option Ent) (f : Int → Option Value) : Prop := ∀ i : Nat, (m i = none ∧ f (i : Int) = none) ∨ ∃ e v, m i = some e ∧ f (i : Int) = some v ∧ EntV F W e v
/-- A cache at block gc: its disk within F, its own blocks within G. -/
structure CMem (F G : Nat → Prop) (gc gd bm fr ct : Nat) (d : Dk) (m : Nat → Option Ent) (W : World) : Prop where
  disk : Disk F gd d W
  blk : W.heap[gc]? = some (.cells #[.pointer (some ⟨gd, 0, none⟩), .int .i64 (fr : Int), .int .i64 (ct : Int), .map (some bm)] 51 (0, 0))
  map : ∃ f, MapAt W bm f ∧ Tells (fun k => G k ∧ k ≠ gc ∧ k ≠ bm) W m f
  gcG : G gc
  bmG : G bm
  ne : gc ≠ bm
  apart : ∀ k, F k → ¬ G k
  lt : ∀ k, G k → k < W.heap.size
theorem CMem.move {F G : Nat → Prop} {gc gd bm fr ct : Nat} {d : Dk} {m : Nat → Option Ent} {W W' : World} (h : CMem F G gc gd bm fr ct d m W) (hm : ∀ k, (F k ∨ G k) → k < W.heap.size → W'.heap[k]? = W.heap[k]?) (hs : W.heap.size ≤ W'.heap.size) : CMem F G gc gd bm fr ct d m W' := by
  obtain ⟨f, hf, ht⟩ := h.map
  refine ⟨h.disk.move (fun k hk => hm k (.inl hk)) hs, (hm gc (.inr h.gcG) (blk_lt h.blk)).trans h.blk, ⟨f, hf.move (hm bm (.inr h.bmG) hf.lt), fun i => ?_⟩, h.gcG, h.bmG, h.ne, h.apart, fun k hk => Nat.lt_of_lt_of_le (h.lt k hk) hs⟩
  rcases ht i with q | ⟨e, v, q1, q2, q3⟩
  · exact .inl q
  · exact .inr ⟨e, v, q1, q2, q3.step (fun k hk => hm k (.inr hk.1))⟩
theorem CMem.below {F G : Nat → Prop} {gc gd bm fr ct : Nat} {d : Dk} {m : Nat → Option Ent} {W W' : World} (h : CMem F G gc gd bm fr ct d m W) (hb : Below W.heap.size W W') : CMem F G gc gd bm fr ct d m W' := h.move (fun k _ hk => hb.block k hk) hb.size
theorem CMem.kp {F G H : Nat → Prop} {gc gd bm fr ct : Nat} {d : Dk} {m : Nat → Option Ent} {W W' : World} (h : CMem F G gc gd bm fr ct d m W) (hk : Kp H W W') (hd : ∀ k, (F k ∨ G k) → ¬ H k) : CMem F G gc gd bm fr ct d m W' := h.move (fun k hf hlt => hk.block k hlt (hd k hf)) hk.size
theorem CMem.cells {F G : Nat → Prop} {gc gd bm fr ct : Nat} {d : Dk} {m : Nat → Option Ent} {W : World} (h : CMem F G gc gd bm fr ct d m W) :
    W.cell? ⟨gc, 0, none⟩ = some (.pointer (some ⟨gd, 0, none⟩)) ∧ W.cell? ⟨gc, 1, none⟩ = some (.int .i64 (fr : Int)) ∧ W.cell? ⟨gc, 2, none⟩ = some (.int .i64 (ct : Int)) ∧ W.cell? ⟨gc, 3, none⟩ = some (.map (some bm)) :=
  ⟨(blk_cell h.blk 0).trans rfl, (blk_cell h.blk 1).trans rfl, (blk_cell h.blk 2).trans rfl, (blk_cell h.blk 3).trans rfl⟩
set_option maxHeartbeats 4000000 in
set_option maxRecDepth 100000 in
theorem none_c (gc gd : Nat) (W : World) (h : W.cell? ⟨gc, 0, none⟩ = some (.pointer (some ⟨gd, 0, none⟩))) :
    Calls Tryd.prog 37 #[.pointer (some ⟨gc, 0, none⟩)] W fun e w' => e = .returned (.bool false) ∧ w' = W := by
  go_enter Tryd.func37, Tryd.ntmps37
  go_wp2
  go_ret
  exact ⟨rfl, rfl⟩
theorem infoInt : (Tryd.prog.info? 3).map (fun i => (i.zero, i.size, i.bytes)) = some (some (.int .i64 0), 1, 8) := by kernel_rfl
/-- A row of the call's own. -/
def OwnI (l : List Int) (W : World) (v : Value) (w' : World) : Prop := ∃ A c, v = .slice A l.length c ∧ (Kd.int .i64).R 3 w' W.heap.size (fun k => W.heap.size ≤ k) v l ∧ Below W.heap.size W w'
set_option maxHeartbeats 4000000 in
set_option maxRecDepth 100000 in
theorem Clone_c (A : Option Addr) (c : Nat) (l : List Int) (W : World) (h : Kd.C (Kd.int .i64) W A l.length l) (hc : l.length ≤ c) (hl : l.length * 8 ≤ 140737488355328) :
    Calls Tryd.prog 64 #[.slice A l.length c] W fun e w' => ∃ v, e = .returned v ∧ OwnI l W v w' := by
  have HR := Aside0.mk (And.intro h (And.intro hc hl))
  clear h hc hl
  cases A with
  | none =>
    have hl0 : l = [] := by
      cases l with
      | nil => rfl
      | cons a t => obtain ⟨ad, hA, _⟩ := HR.out.1.2.2 (by simp); cases hA
    subst hl0
    have he : ∀ w : World, (binOp .eql 23 (.slice none 0 c) (.slice none 0 0)).run Tryd.prog w = .ok (.bool true) w := fun _ => rfl
    go_enter Tryd.func64, Tryd.ntmps64
    go_wp2
    all_goals (go_ret; exact ⟨_, rfl, none, _, rfl, Kd.R_nil _ _ _ _ _, Below.refl _ _⟩)
  | some ad =>
    have he : ∀ w : World, (binOp .eql 23 (.slice (some ad) l.length c) (.slice none 0 0)).run Tryd.prog w = .ok (.bool false) w := fun _ => rfl
    go_enter Tryd.func64, Tryd.ntmps64
    go_wp2_with (first | ((with_reducible refine gate_builtin (b := .append) (xs := #[.tmp 5, .tmp 6]) rfl ?_); refine of_halt ?_))
    unfold G.Halt
    have hHO : (Kd.int .i64).R 3 (W.alloc (.cells #[] 3)) W.heap.size (fun k => W.heap.size ≤ k) (.slice (some ⟨W.heap.size, 0, none⟩) 0 0) [] := ⟨fun k hk => by simp [Value.ownBlock] at hk; omega, [], World.ownsRow_lit (base := W.heap.size) (e := 3) (size := 1) W #[] 0 (Nat.le_refl _) (by simp [maxLen]) rfl, Reps.none _ _⟩
    have hHR := Kd.C_below HR.out.1 (below_alloc (Below.refl W.heap.size W) (.cells #[] 3))
    refine Kd.R_append_rows (Kd.int .i64) (Rr := (Kd.int .i64).K (W.alloc (.cells #[] 3))) (w0 := W) W.heap.size rfl (.tmp 5) (.tmp 6) 23 3 (.int .i64 0) 8 rfl Tryd.underlying23 infoInt rfl (by decide) (by decide) (.slice (some ⟨W.heap.size, 0, none⟩) 0 0) [] l (some ad) l.length c (fun k => W.heap.size ≤ k) (fun _ => False) rfl rfl hHO hHR (fun x cs h => h) (fun _ hk => hk.elim) (fun k hk => by rw [World.size_alloc] at hk; omega) (below_alloc (Below.refl _ _) _) (by rw [World.size_alloc]; omega) (by have := HR.out.2.2; simp; omega) ?_
    intro v2 w2 ho2 hb2 hg2 hat2
    rw [List.nil_append] at ho2
    obtain ⟨A2, c2, rfl⟩ := Kd.R_slice ho2
    have HO2 := Aside0.mk (And.intro ho2 hb2)
    clear ho2 hb2 hg2 hat2 hHO hHR
    go_wp2
    go_ret
    exact ⟨_, rfl, _, _, rfl, HO2.out.1, HO2.out.2⟩
set_option maxHeartbeats 4000000 in
set_option maxRecDepth 100000 in
theorem copied_c (x : Ent) (A : Option Addr) (c : Nat) (W : World) (h : Kd.C (Kd.int .i64) W A x.2.2.2.length x.2.2.2) (hc : x.2.2.2.length ≤ c) (hl : x.2.2.2.length * 8 ≤ 140737488355328) :
    Calls Tryd.prog 39 #[entVal x A c] W fun e w' => ∃ v, e = .returned v ∧ EntV (fun k => W.heap.size ≤ k) w' x v ∧ Below W.heap.size W w' := by
  have HR := Aside0.mk (And.intro h (And.intro hc hl))
  clear h hc hl
  unfold entVal
  have hb := below_alloc (below_alloc (Below.refl W.heap.size W) (.cells #[.int .u64 x.1, .int .i64 x.2.1, .int .i64 x.2.2.1, .slice A x.2.2.2.length c] 25)) (.cells #[.int .u64 0, .int .i64 0, .int .i64 0, .slice none 0 0] 25)
  have hk0 := blk_alloc (blk_new W (.cells #[.int .u64 x.1, .int .i64 x.2.1, .int .i64 x.2.2.1, .slice A x.2.2.2.length c] 25)) (.cells #[.int .u64 0, .int .i64 0, .int .i64 0, .slice none 0 0] 25)
  have hk1 := blk_new (W.alloc (.cells #[.int .u64 x.1, .int .i64 x.2.1, .int .i64 x.2.2.1, .slice A x.2.2.2.length c] 25)) (.cells #[.int .u64 0, .int .i64 0, .int .i64 0, .slice none 0 0] 25)
  rw [World.size_alloc] at hk1
  have HB := Aside0.mk (And.intro hb (And.intro hk0 hk1))
  clear hb hk0 hk1
  go_enter Tryd.func39, Tryd.ntmps39
  go_wp2_with (first | (go_at_call 64; refine (Clone_c A c x.2.2.2 _ (Kd.C_below HR.out.1 HB.out.1) HR.out.2.1 HR.out.2.2).mono ?_; rintro e w2 ⟨v2, rfl, A2, c2, rfl, hR2, hb2⟩; refine of_halt ?_))
  unfold G.Halt
  have hk02 := (hb2.block _ (blk_lt HB.out.2.1)).trans HB.out.2.1
  have hk12 := (hb2.block _ (blk_lt HB.out.2.2)).trans HB.out.2.2
  have hq0 := (blk_cell hk02 0).trans rfl
  have hq1 := (blk_cell hk02 1).trans rfl
  have hq2 := (blk_cell hk02 2).trans rfl
  have hq3 := (blk_cell hk02 3).trans rfl
  have hz3 := blk_frozen hk02 3
  have hp0 := (blk_cell hk12 0).trans rfl
  have hp1 := (blk_cell hk12 1).trans rfl
  have hp2 := (blk_cell hk12 2).trans rfl
  have hp3 := (blk_cell hk12 3).trans rfl
  have hy0 := blk_frozen hk12 0
  have hy1 := blk_frozen hk12 1
  have hy2 := blk_frozen hk12 2
  have hy3 := blk_frozen hk12 3
  have HR2 := Aside0.mk (And.intro hR2 hb2)
  clear hR2 hb2
  have hsz : ((W.alloc (.cells #[.int .u64 x.1, .int .i64 x.2.1, .int .i64 x.2.2.1, .slice A x.2.2.2.length c] 25)).alloc (.cells #[.int .u64 0, .int .i64 0, .int .i64 0, .slice none 0 0] 25)).heap.size = W.heap.size + 2 := by rw [World.size_alloc, World.size_alloc]
  have hA := blk_far (p := ⟨W.heap.size, 3, none⟩) hk12 (by show W.heap.size + 1 ≠ W.heap.size; omega) (.slice A2 x.2.2.2.length c2)
  have HA := Aside0.mk (And.intro hA hsz)
  clear hA hsz hk02 hk12
  go_wp2
  refine bodyPost_ret (results_single rfl (.cell (W.heap.size + 1) 25 _ (0, 0) _ rfl (blk4 HA.out.1 _ _ _ _) Tryd.underlying25 rfl (by kernel_rfl) .nil)) rfl ⟨_, rfl, ⟨A2, c2, rfl, ?_⟩, ?_⟩
  · have h1 := HR2.out.1
    rw [HA.out.2] at h1
    have h2 := Kd.R_far (p := ⟨W.heap.size, 3, none⟩) h1 (fun k hk => by show k ≠ W.heap.size; omega) (.slice A2 x.2.2.2.length c2)
    have h3 := Kd.R_far (p := ⟨W.heap.size + 1, 0, none⟩) h2 (fun k hk => by show k ≠ W.heap.size + 1; omega) (.int .u64 x.1)
    have h4 := Kd.R_far (p := ⟨W.heap.size + 1, 1, none⟩) h3 (fun k hk => by show k ≠ W.heap.size + 1; omega) (.int .i64 x.2.1)
    have h5 := Kd.R_far (p := ⟨W.heap.size + 1, 2, none⟩) h4 (fun k hk => by show k ≠ W.heap.size + 1; omega) (.int .i64 x.2.2.1)
    have h6 := Kd.R_far (p := ⟨W.heap.size + 1, 3, none⟩) h5 (fun k hk => by show k ≠ W.heap.size + 1; omega) (.slice A2 x.2.2.2.length c2)
    exact Kd.R_mono (Kd.R_lower h6 (Nat.zero_le _)) (fun k hk => by omega)
  · have hb := HB.out.1.trans (HR2.out.2.mono HB.out.1.size)
    exact below4 (below_set (j := 3) hb (Nat.le_refl _)) (Nat.le_succ _) _ _ _ _
set_option maxHeartbeats 4000000 in
set_option maxRecDepth 100000 in
theorem place_c (gc ct : Nat) (key asked : Int) (W : World) (h : ∀ V, Below W.heap.size W V → V.cell? ⟨gc, 2, none⟩ = some (.int .i64 (ct : Int))) (h1 : 1 ≤ ct) (h2 : ct ≤ 5000) (hk : 0 ≤ key ∧ key < 18446744073709551616) (ha : -1 ≤ asked ∧ asked ≤ 1) :
    Calls Tryd.prog 38 #[.pointer (some ⟨gc, 0, none⟩), .int .u64 key, .int .i64 asked] W fun e w' => e = .returned (.int .i64 (((key % ct + asked + 1) % ct).toNat : Nat)) ∧ Below W.heap.size W w' := by
  have HC := Aside0.mk h
  obtain ⟨r, hr⟩ := Int.eq_ofNat_of_zero_le (show 0 ≤ key % (ct : Int) from Int.emod_nonneg _ (by omega))
  have hrl : r < ct := by have := Int.emod_lt_of_pos key (show (0 : Int) < ct by omega); omega
  obtain ⟨s, hs⟩ := Int.eq_ofNat_of_zero_le (show 0 ≤ (r : Int) + asked + 1 by omega)
  rw [hr, hs, show ((s : Int) % (ct : Int)).toNat = s % ct by omega]
  have hu : IntKind.u64.wrap (ct : Int) = (ct : Int) := by rw [IntKind.wrap_u64]; omega
  have hc0 : ((ct : Int) = 0) = False := eq_false (by omega)
  have hc1 : (ct = 0) = False := eq_false (by omega)
  have ht : key.tmod (ct : Int) = (r : Int) := by rw [Int.tmod_eq_emod_of_nonneg hk.1, hr]
  have hw0 : wrap64 (r : Int) = (r : Int) := by unfold wrap64; omega
  have hw1 : wrap64 ((r : Int) + asked) = (r : Int) + asked := by unfold wrap64; omega
  have hw2 : wrap64 ((r : Int) + asked + 1) = (s : Int) := by rw [hs]; unfold wrap64; omega
  have hm : (s : Int).tmod (ct : Int) = ((s % ct : Nat) : Int) := by rw [Int.tmod_eq_emod_of_nonneg (by omega)]; omega
  have hw3 : wrap64 ((s % ct : Nat) : Int) = ((s % ct : Nat) : Int) := by have := Nat.mod_lt s (show 0 < ct by omega); unfold wrap64; omega
  clear h hr hs hk ha h1 h2 hrl
  go_enter Tryd.func38, Tryd.ntmps38
  go_upto_region 1 with (fail)
  refine start_ (n := 17) (S := fun w' => w'.cell? ⟨gc, 2, none⟩ = some (.int .i64 (ct : Int))) (ds := []) #[false, false, false, false, false, false, false, false, false, false, false, false, false, false, false, false, false] (by kernel_rfl) rfl rfl (HC.out _ (below_drew (Below.refl _ _))) (fun hHeld => ?_)
  refine pure_ (i := 0) (N := some 7) (v := ?_) (a' := ?_) #[true, false, false, false, false, false, false, false, false, false, false, false, false, false, false, false, false] rfl rfl (by kernel_rfl) (fun _ _ _ h => h) (Or.inl ⟨by rfl, ?_⟩) ?_ ?_
  rotate_left
  · intro w'
    go_simp
    with_reducible rfl
  rotate_left
  · simp only [Act.put, List.setIfInBounds_toArray, List.set_cons_zero, List.set_cons_succ, i64_w, i32_w]
    rfl
  refine pure_ (i := 1) (N := some 8) (v := ?_) (a' := ?_) #[true, true, false, false, false, false, false, false, false, false, false, false, false, false, false, false, false] rfl rfl (by kernel_rfl) (fun _ _ _ h => h) (Or.inl ⟨by rfl, ?_⟩) ?_ ?_
  rotate_left
  · intro w'
    go_simp
    with_reducible rfl
  rotate_left
  · simp only [Act.put, List.setIfInBounds_toArray, List.set_cons_zero, List.set_cons_succ, i64_w, i32_w]
    rfl
  refine pure_ (i := 2) (N := some 9) (v := ?_) (a' := ?_) #[true, true, true, false, false, false, false, false, false, false, false, false, false, false, false, false, false] rfl rfl (by kernel_rfl) (fun _ _ _ h => h) (Or.inl ⟨by rfl, ?_⟩) ?_ ?_
  rotate_left
  · intro w'
    go_simp
    with_reducible rfl
  rotate_left
  · simp only [Act.put, List.setIfInBounds_toArray, List.set_cons_zero, List.set_cons_succ, i64_w, i32_w]
    rfl
  refine pure_ (i := 3) (N := some 10) (v := ?_) (a' := ?_) #[true, true, true, true, false, false, false, false, false, false, false, false, false, false, false, false, false] rfl rfl (by kernel_rfl) (fun _ _ _ h => h) (Or.inl ⟨by rfl, ?_⟩) ?_ ?_
  rotate_left
  · intro w'
    go_simp
    with_reducible rfl
  rotate_left
  · simp only [Act.put, List.setIfInBounds_toArray, List.set_cons_zero, List.set_cons_succ, i64_w, i32_w]
    rfl
  refine pure_ (i := 8) (N := some 15) (v := ?_) (a' := ?_) #[true, true, true, true, false, false, false, false, true, false, false, false, false, false, false, false, false] rfl rfl (by kernel_rfl) (fun _ _ _ h => h) (Or.inl ⟨by rfl, ?_⟩) ?_ ?_
  rotate_left
  · intro w'
    go_simp
    with_reducible rfl
  rotate_left
  · simp only [Act.put, List.setIfInBounds_toArray, List.set_cons_zero, List.set_cons_succ, i64_w, i32_w]
    rfl
  refine pure_ (i := 11) (N := some 18) (v := ?_) (a' := ?_) #[true, true, true, true, false, false, false, false, true, false, false, true, false, false, false, false, false] rfl rfl (by kernel_rfl) (fun _ _ _ h => h) (Or.inl ⟨by rfl, ?_⟩) ?_ ?_
  rotate_left
  · intro w'
    go_simp
    with_reducible rfl
  rotate_left
  · simp only [Act.put, List.setIfInBounds_toArray, List.set_cons_zero, List.set_cons_succ, i64_w, i32_w]
    rfl
  refine pure_ (i := 12) (N := some 19) (v := ?_) (a' := ?_) #[true, true, true, true, false, false, false, false, true, false, false, true, true, false, false, false, false] rfl rfl (by kernel_rfl) (fun _ _ _ h => h) (Or.inl ⟨by rfl, ?_⟩) ?_ ?_
  rotate_left
  · intro w'
    go_simp
    with_reducible rfl
  rotate_left
  · simp only [Act.put, List.setIfInBounds_toArray, List.set_cons_zero, List.set_cons_succ, i64_w, i32_w]
    rfl
  refine pure_ (i := 13) (N := some 20) (v := ?_) (a' := ?_) #[true, true, true, true, false, false, false, false, true, false, false, true, true, true, false, false, false] rfl rfl (by kernel_rfl) (fun _ _ _ h => h) (Or.inl ⟨by rfl, ?_⟩) ?_ ?_
  rotate_left
  · intro w'
    go_simp
    with_reducible rfl
  rotate_left
  · simp only [Act.put, List.setIfInBounds_toArray, List.set_cons_zero, List.set_cons_succ, i64_w, i32_w]
    rfl
  refine take_ (i := 4) (N := some 11) (v := ?_) (a' := ?_) #[true, true, true, true, true, false, false, false, true, false, false, true, true, true, false, false, false] rfl rfl (by kernel_rfl) (fun _ _ _ h => h) (Or.inl ⟨by rfl, ?_⟩) hHeld ?_ ?_
  rotate_left
  · intro w' s0
    go_simp
    with_reducible rfl
  rotate_left
  · simp only [Act.put, List.setIfInBounds_toArray, List.set_cons_zero, List.set_cons_succ, i64_w, i32_w]
    rfl
  refine take_ (i := 5) (N := some 12) (v := ?_) (a' := ?_) #[true, true, true, true, true, true, false, false, true, false, false, true, true, true, false, false, false] rfl rfl (by kernel_rfl) (fun _ _ _ h => h) (Or.inl ⟨by rfl, ?_⟩) hHeld ?_ ?_
  rotate_left
  · intro w' s0
    go_simp
    with_reducible rfl
  rotate_left
  · simp only [Act.put, List.setIfInBounds_toArray, List.set_cons_zero, List.set_cons_succ, i64_w, i32_w]
    rfl
  refine pure_ (i := 6) (N := some 13) (v := ?_) (a' := ?_) #[true, true, true, true, true, true, true, false, true, false, false, true, true, true, false, false, false] rfl rfl (by kernel_rfl) (fun _ _ _ h => h) (Or.inl ⟨by rfl, ?_⟩) ?_ ?_
  rotate_left
  · intro w'
    go_simp
    with_reducible rfl
  rotate_left
  · simp only [Act.put, List.setIfInBounds_toArray, List.set_cons_zero, List.set_cons_succ, i64_w, i32_w]
    rfl
  refine take_ (i := 7) (N := some 14) (v := ?_) (a' := ?_) #[true, true, true, true, true, true, true, true, true, false, false, true, true, true, false, false, false] rfl rfl (by kernel_rfl) (fun _ _ _ h => h) (Or.inl ⟨by rfl, ?_⟩) hHeld ?_ ?_
  rotate_left
  · intro w' s0
    go_simp
    with_reducible rfl
  rotate_left
  · simp only [Act.put, List.setIfInBounds_toArray, List.set_cons_zero, List.set_cons_succ, i64_w, i32_w]
    rfl
  refine pure_ (i := 9) (N := some 16) (v := ?_) (a' := ?_) #[true, true, true, true, true, true, true, true, true, true, false, true, true, true, false, false, false] rfl rfl (by kernel_rfl) (fun _ _ _ h => h) (Or.inl ⟨by rfl, ?_⟩) ?_ ?_
  rotate_left
  · intro w'
    go_simp
    with_reducible rfl
  rotate_left
  · simp only [Act.put, List.setIfInBounds_toArray, List.set_cons_zero, List.set_cons_succ, i64_w, i32_w]
    rfl
  refine pure_ (i := 10) (N := some 17) (v := ?_) (a' := ?_) #[true, true, true, true, true, true, true, true, true, true, true, true, true, true, false, false, false] rfl rfl (by kernel_rfl) (fun _ _ _ h => h) (Or.inl ⟨by rfl, ?_⟩) ?_ ?_
  rotate_left
  · intro w'
    go_simp
    with_reducible rfl
  rotate_left
  · simp only [Act.put, List.setIfInBounds_toArray, List.set_cons_zero, List.set_cons_succ, i64_w, i32_w]
    rfl
  refine take_ (i := 14) (N := some 21) (v := ?_) (a' := ?_) #[true, true, true, true, true, true, true, true, true, true, true, true, true, true, true, false, false] rfl rfl (by kernel_rfl) (fun _ _ _ h => h) (Or.inl ⟨by rfl, ?_⟩) hHeld ?_ ?_
  rotate_left
  · intro w' s0
    go_simp
    with_reducible rfl
  rotate_left
  · simp only [Act.put, List.setIfInBounds_toArray, List.set_cons_zero, List.set_cons_succ, i64_w, i32_w]
    rfl
  refine pure_ (i := 15) (N := some 22) (v := ?_) (a' := ?_) #[true, true, true, true, true, true, true, true, true, true, true, true, true, true, true, true, false] rfl rfl (by kernel_rfl) (fun _ _ _ h => h) (Or.inl ⟨by rfl, ?_⟩) ?_ ?_
  rotate_left
  · intro w'
    go_simp
    with_reducible rfl
  rotate_left
  · simp only [Act.put, List.setIfInBounds_toArray, List.set_cons_zero, List.set_cons_succ, i64_w, i32_w]
    rfl
  refine pure_ (i := 16) (N := some 6) (v := ?_) (a' := ?_) #[true, true, true, true, true, true, true, true, true, true, true, true, true, true, true, true, true] rfl rfl (by kernel_rfl) (fun _ _ _ h => h) (Or.inl ⟨by rfl, ?_⟩) ?_ ?_
  rotate_left
  · intro w'
    go_simp
    with_reducible rfl
  rotate_left
  · simp only [Act.put, List.setIfInBounds_toArray, List.set_cons_zero, List.set_cons_succ, i64_w, i32_w]
    rfl
  refine done_ (by kernel_rfl) ?_
  go_wp2
  go_ret
  exact ⟨by first | rfl | simp, below_drew (Below.refl _ _)⟩
end Go.Proofs.YtogapedacdnfcaaDoor.G
/- The cache: Put. By hand. -/
namespace Go.Proofs.YtogapedacdnfcaaDoor.G
open Go.RowKit Go.Shelf Go.Proofs.YtogapedacdnfcaaDoorW.PrintWords Go.Proofs.YtogapedacdnfcaaDoorW.PrintLast Go.Proofs.YtogapedacdnfcaaDoorW.PrintMore Go.Proofs.YtogapedacdnfcaaDoor.Dsk
set_option linter.unusedVariables false
set_option linter.unusedSimpArgs false
def pl (ct : Nat) (key asked : Int) : Nat := ((key % ct + asked + 1) % ct).toNat
theorem place_i (gc ct i : Nat) (key asked : Int) (W : World) (hi : pl ct key asked = i) (h : ∀ V, Below W.heap.size W V → V.cell? ⟨gc, 2, none⟩ = some (.int .i64 (ct : Int))) (h1 : 1 ≤ ct) (h2 : ct ≤ 5000) (hk : 0 ≤ key ∧ key < 18446744073709551616) (ha : -1 ≤ asked ∧ asked ≤ 1) :
    Calls Tryd.prog 38 #[.pointer (some ⟨gc, 0, none⟩), .int .u64 key, .int .i64 asked] W fun e w' => e = .returned (.int .i64 (i : Int)) ∧ Below W.heap.size W w' := by
  subst hi
  exact place_c gc ct key asked W h h1 h2 hk ha
theorem Write_w (F : Nat → Prop) (g : Nat) (d : Dk) (n n' : Int) (hn : n' = n) (A : Option Addr) (m cm : Nat) (ys : List Int) (W : World) (h : Disk F g d W) (hs : Small d) (hC : Kd.C (Kd.int .u8) W A m ys) :
    Calls Tryd.prog 40 #[.pointer (some ⟨g, 0, none⟩), .int .i64 n', .slice A m cm] W (OpPost F g (write d n ys).1 (write d n ys).2 W) := by
  subst hn
  exact Write_c F g d _ A m cm ys W h hs hC
theorem copied_a (x : Ent) (A : Option Addr) (c : Nat) (W : World) (h : Kd.C (Kd.int .i64) W A x.2.2.2.length x.2.2.2) (hc : x.2.2.2.length ≤ c) (hl : x.2.2.2.length * 8 ≤ 140737488355328) :
    Calls Tryd.prog 39 #[.agg #[.int .u64 x.1, .int .i64 x.2.1, .int .i64 x.2.2.1, .slice A x.2.2.2.length c]] W fun e w' => ∃ v, e = .returned v ∧ EntV (fun k => W.heap.size ≤ k) w' x v ∧ Below W.heap.size W w' := copied_c x A c W h hc hl
def putM (m : Nat → Option Ent) (i : Nat) (x : Ent) : Nat → Option Ent := fun j => if j = i then some x else m j
theorem exec_mapUpdate {P : Program} {o : Oper} {a : Act} {W W1 : World} (t : TypeId) (m k y : Operand) (vm vk vy : Value) (ho : o.op = .mapUpdate t m k y) (hm : a.eval m = vm) (hk : a.eval k = vk) (hy : a.eval y = vy) (hr : (Instr.mapUpdate t vm vk vy).run P W = .ok () W1) : (execOp a.eval o).run P W = .ok .skip W1 := by
  unfold execOp
  simp only [ho, Sem.run_bind, hm, hk, hy, hr, Result.andThen_ok]
  rfl
theorem CMem.redisk {F F' G : Nat → Prop} {gc gd bm fr ct : Nat} {d d' : Dk} {m : Nat → Option Ent} {W W' : World} (h : CMem F G gc gd bm fr ct d m W) (hk : Kp F W W') (hD : Disk F' gd d' W') (hF : ∀ k, F' k → F k ∨ W.heap.size ≤ k) : CMem F' G gc gd bm fr ct d' m W' := by
  obtain ⟨f, hf, ht⟩ := h.map
  have hG : ∀ k, G k → W'.heap[k]? = W.heap[k]? := fun k hg => hk.block k (h.lt k hg) (fun q => h.apart k q hg)
  refine ⟨hD, (hG gc h.gcG).trans h.blk, ⟨f, hf.move (hG bm h.bmG), fun i => ?_⟩, h.gcG, h.bmG, h.ne, fun k hf' hg => ?_, fun k hg => Nat.lt_of_lt_of_le (h.lt k hg) hk.size⟩
  · rcases ht i with q | ⟨e, v, q1, q2, q3⟩
    · exact .inl q
    · exact .inr ⟨e, v, q1, q2, q3.step (fun k hk' _ => hG k hk'.1)⟩
  · rcases hF k hf' with q | q
    · exact h.apart k q hg
    · have := h.lt k hg; omega
/-- A store into the cache's map. -/
theorem CMem.put {F G : Nat → Prop} {gc gd bm fr ct : Nat} {d : Dk} {m : Nat → Option Ent} {W W' : World} (h : CMem F G gc gd bm fr ct d m W) (n : Nat) (x : Ent) (v : Value) (i : Nat)
    (hn : ∀ k, G k → k < n) (hnF : ∀ k, F k → k < n) (hv : EntV (fun k => n ≤ k ∧ k < W.heap.size) W x v)
    (hg : W.grownBy W' (some bm)) (hm : ∀ f, MapAt W bm f → MapAt W' bm (fun y => if y = (i : Int) then some v else f y)) :
    CMem F (fun k => G k ∨ n ≤ k ∧ k < W.heap.size) gc gd bm fr ct d (putM m i x) W' := by
  obtain ⟨f, hf, ht⟩ := h.map
  have hne : ∀ k, k ≠ bm → k < W.heap.size → W'.heap[k]? = W.heap[k]? := fun k hk hl => hg.block k hl (fun e => hk (by injection e))
  refine ⟨h.disk.move (fun k hk hl => hne k (fun e => h.apart k hk (e ▸ h.bmG)) hl) hg.size, (hne gc h.ne (blk_lt h.blk)).trans h.blk, ⟨_, hm f hf, fun j => ?_⟩, .inl h.gcG, .inl h.bmG, h.ne, fun k hk hq => ?_, fun k hk => ?_⟩
  · by_cases hj : j = i
    · subst hj
      refine .inr ⟨x, v, by simp [putM], by simp, (hv.step (fun k hk hl => hne k (fun e => by have := hn bm h.bmG; omega) hl)).mono (fun k hk => ⟨.inr hk, fun e => by have := hn gc h.gcG; omega, fun e => by have := hn bm h.bmG; omega⟩)⟩
    · have hj' : ¬ ((j : Int) = (i : Int)) := by omega
      rcases ht j with ⟨q1, q2⟩ | ⟨e, u, q1, q2, q3⟩
      · exact .inl ⟨by simp [putM, hj, q1], by show (if ((j : Nat) : Int) = (i : Int) then _ else _) = _; rw [if_neg hj', q2]⟩
      · exact .inr ⟨e, u, by simp [putM, hj, q1], by show (if ((j : Nat) : Int) = (i : Int) then _ else _) = _; rw [if_neg hj', q2], (q3.step (fun k hk hl => hne k hk.2.2 hl)).mono (fun k hk => ⟨.inl hk.1, hk.2⟩)⟩
  · rcases hq with q | q
    · exact h.apart k hk q
    · have := hnF k hk; omega
  · rcases hk with q | q
    · exact Nat.lt_of_lt_of_le (h.lt k q) hg.size
    · exact Nat.lt_of_lt_of_le q.2 hg.size
/-- One store serves every way to tell the map. -/
theorem map_put_all {P : Program} {T K E : TypeId} (hT : P.underlying T = some (.map K E)) (hK : P.underlying K = some (.int .i64)) {F G : Nat → Prop} {gc gd bm fr ct : Nat} {d : Dk} {m : Nat → Option Ent} {W : World} (h : CMem F G gc gd bm fr ct d m W) (x : Int) (v : Value) :
    ∃ W', (Instr.mapUpdate T (.map (some bm)) (.int .i64 x) v).run P W = .ok () W' ∧ (∀ f, MapAt W bm f → MapAt W' bm (fun y => if y = x then some v else f y)) ∧ W.grownBy W' (some bm) := by
  obtain ⟨f0, hf0, _⟩ := h.map
  obtain ⟨W', h1, h2, h3⟩ := map_put hT hK hf0 x v
  refine ⟨W', h1, fun f hf => ?_, h3⟩
  have : f = f0 := by
    obtain ⟨es, c, q1, q2, q3⟩ := hf
    obtain ⟨es', c', r1, r2, r3⟩ := hf0
    rw [q1] at r1
    injection r1 with r1
    injection r1 with r1 _
    subst r1
    funext y
    rw [← q3 y, r3 y]
  rw [this]
  exact h2
def PutP (F G : Nat → Prop) (gc gd bm fr ct : Nat) (d' : Dk) (m' : Nat → Option Ent) (code : Int) (W : World) (e : Ending) (w' : World) : Prop :=
  e = .returned (.int .i64 code) ∧ ∃ F' G', CMem F' G' gc gd bm fr ct d' m' w' ∧ (∀ k, F' k → F k ∨ W.heap.size ≤ k) ∧ (∀ k, G' k → G k ∨ W.heap.size ≤ k) ∧ Kp (fun k => F k ∨ G k) W w'
set_option maxHeartbeats 8000000 in
set_option maxRecDepth 100000 in
theorem Put_c (F H : Nat → Prop) (gc gd bm fr ct : Nat) (d : Dk) (m : Nat → Option Ent) (x : Ent) (A : Option Addr) (c : Nat) (bs : List Int) (W : World) (h : CMem F H gc gd bm fr ct d m W) (hs : Small d) (h1 : 1 ≤ ct) (h2 : ct ≤ 5000) (h3 : fr ≤ 10000)
    (hk : 0 ≤ x.1 ∧ x.1 < 18446744073709551616) (w0 : World) (hB0 : Below w0.heap.size w0 W) (hF0 : ∀ k, F k → w0.heap.size ≤ k) (hR : Kd.C (Kd.int .i64) w0 A x.2.2.2.length x.2.2.2) (hc : x.2.2.2.length ≤ c) (hl : x.2.2.2.length ≤ 1000) (ha : -1 ≤ x.2.1 ∧ x.2.1 ≤ 1)
    (hb : ∀ V, Below W.heap.size W V → Calls Tryd.prog 10 #[entVal x A c] V fun e w' => ∃ v0_ : Value, e = .returned (.tuple #[v0_, .int .i64 0]) ∧ Kd.R (Kd.int .u8) 5 w' V.heap.size (fun _ => True) v0_ bs ∧ Below V.heap.size V w') (hw : (write d ((fr : Int) + (pl ct x.1 x.2.1 : Nat)) bs).2 = 0) :
    Calls Tryd.prog 17 #[.pointer (some ⟨gc, 0, none⟩), entVal x A c] W (PutP F H gc gd bm fr ct (write d ((fr : Int) + (pl ct x.1 x.2.1 : Nat)) bs).1 (putM m (pl ct x.1 x.2.1) x) 0 W) := by
  have HC := Aside0.mk h
  have HS := Aside0.mk (And.intro hs hw)
  have HN := Aside0.mk (And.intro h1 (And.intro h2 (And.intro hk ha)))
  have HX := Aside0.mk (And.intro hR (And.intro hc hl))
  have HB0 := Aside0.mk (And.intro hB0 hF0)
  have HX8 := Aside0.mk (show x.2.2.2.length * 8 ≤ 140737488355328 by omega)
  have HBY := Aside0.mk hb
  obtain ⟨i, hi⟩ : ∃ i, pl ct x.1 x.2.1 = i := ⟨_, rfl⟩
  have HI := Aside0.mk hi
  rw [hi] at HS
  rw [hi]
  have hil : i < 5000 := by
    have : (x.1 % ct + x.2.1 + 1) % (ct : Int) < ct := Int.emod_lt_of_pos _ (by omega)
    rw [← hi]
    unfold pl
    have := Int.emod_nonneg (x.1 % ct + x.2.1 + 1) (show (ct : Int) ≠ 0 by omega)
    omega
  have hw1 : wrap64 ((fr : Int) + (i : Int)) = ((fr : Int) + (i : Int)) := by unfold wrap64; omega
  have HWE := Aside0.mk hw1
  clear hw1
  have hb0 := below_alloc (Below.refl W.heap.size W) (.cells #[.int .u64 x.1, .int .i64 x.2.1, .int .i64 x.2.2.1, .slice A x.2.2.2.length c] 25)
  have hk0 := blk_new W (.cells #[.int .u64 x.1, .int .i64 x.2.1, .int .i64 x.2.2.1, .slice A x.2.2.2.length c] 25)
  obtain ⟨W1, hW1⟩ : ∃ W1, W.alloc (.cells #[.int .u64 x.1, .int .i64 x.2.1, .int .i64 x.2.2.1, .slice A x.2.2.2.length c] 25) = W1 := ⟨_, rfl⟩
  have hs1 : W1.heap.size = W.heap.size + 1 := by rw [← hW1, World.size_alloc]
  rw [hW1] at hb0 hk0
  have HW1 := Aside0.mk hW1
  have HB1 := Aside0.mk (And.intro hb0 (And.intro hk0 hs1))
  have hcl : ∀ (V : World), V.heap[W.heap.size]? = some (.cells #[.int .u64 x.1, .int .i64 x.2.1, .int .i64 x.2.2.1, .slice A x.2.2.2.length c] 25 (0, 0)) → V.cell? ⟨W.heap.size, 0, none⟩ = some (.int .u64 x.1) ∧ V.cell? ⟨W.heap.size, 1, none⟩ = some (.int .i64 x.2.1) ∧ V.cell? ⟨W.heap.size, 2, none⟩ = some (.int .i64 x.2.2.1) ∧ V.cell? ⟨W.heap.size, 3, none⟩ = some (.slice A x.2.2.2.length c) := fun V hv => ⟨(blk_cell hv 0).trans rfl, (blk_cell hv 1).trans rfl, (blk_cell hv 2).trans rfl, (blk_cell hv 3).trans rfl⟩
  have HCL := Aside0.mk hcl
  have hq := hcl W1 hk0
  obtain ⟨q0, q1, q2, q3⟩ := hq
  clear h hs h1 h2 h3 hk hB0 hF0 hR hc hl hb hi ha hw hil hb0 hk0 hs1 hW1 hcl
  unfold entVal
  go_enter Tryd.func17, Tryd.ntmps17
  go_upto_region 1 with (fail)
  rw [HW1.out]
  go_wp2_with (first | (go_at_call 37; refine (none_c gc gd W1 (HC.out.below HB1.out.1).cells.1).mono ?_; rintro e w1 ⟨rfl, hw1'⟩; refine of_halt ?_))
  unfold G.Halt
  obtain rfl := hw1'.symm
  go_wp2_with (first | (go_at_call 10; refine (HBY.out W1 HB1.out.1).mono ?_; rintro e w2 ⟨v2, rfl, hR2, hb2⟩; refine of_halt ?_))
  unfold G.Halt
  obtain ⟨A2, c2, rfl⟩ := Kd.R_slice hR2
  have hk2 := (hb2.block _ (blk_lt HB1.out.2.1)).trans HB1.out.2.1
  have HW2 := Aside0.mk (And.intro hR2 (And.intro (HB1.out.1.trans (hb2.mono HB1.out.1.size)) hk2))
  obtain ⟨p0, p1, p2, p3⟩ := HCL.out w2 hk2
  clear hR2 hb2 hk2 q0 q1 q2 q3
  go_wp2_with (first | (go_at_call 38; refine (place_i gc ct i x.1 x.2.1 w2 HI.out (fun V hV => (HC.out.below (HW2.out.2.1.trans (hV.mono HW2.out.2.1.size))).cells.2.2.1) HN.out.1 HN.out.2.1 HN.out.2.2.1 HN.out.2.2.2).mono ?_; rintro e w3 ⟨rfl, hb3⟩; refine of_halt ?_))
  unfold G.Halt
  have hk3 := (hb3.block _ (blk_lt HW2.out.2.2)).trans HW2.out.2.2
  have HW3 := Aside0.mk (And.intro (Kd.R_below HW2.out.1 hb3) (And.intro (HW2.out.2.1.trans (hb3.mono HW2.out.2.1.size)) hk3))
  clear hb3 hk3 p0 p1 p2 p3
  have HC3 := Aside0.mk (HC.out.below (HW3.out.2.1.trans (Below.mono (below_drew (Below.refl w3.heap.size w3)) HW3.out.2.1.size)))
  go_upto_region 7 with (fail)
  refine start_ (n := 13) (S := fun w' => w'.cell? ⟨gc, 0, none⟩ = some (.pointer (some ⟨gd, 0, none⟩)) ∧ w'.cell? ⟨gc, 1, none⟩ = some (.int .i64 (fr : Int))) (ds := [11]) #[false, false, false, false, false, false, false, false, false, false, false, false, false] (by kernel_rfl) rfl rfl ⟨HC3.out.cells.1, HC3.out.cells.2.1⟩ (fun hHeld => ?_)
  refine pure_ (i := 0) (N := some 25) (v := ?_) (a' := ?_) #[true, false, false, false, false, false, false, false, false, false, false, false, false] rfl rfl (by kernel_rfl) (fun _ _ _ h => h) (Or.inl ⟨by rfl, ?_⟩) ?_ ?_
  rotate_left
  · intro w'
    go_simp
    with_reducible rfl
  rotate_left
  · simp only [Act.put, List.setIfInBounds_toArray, List.set_cons_zero, List.set_cons_succ, i64_w, i32_w]
    rfl
  refine pure_ (i := 1) (N := some 26) (v := ?_) (a' := ?_) #[true, true, false, false, false, false, false, false, false, false, false, false, false] rfl rfl (by kernel_rfl) (fun _ _ _ h => h) (Or.inl ⟨by rfl, ?_⟩) ?_ ?_
  rotate_left
  · intro w'
    go_simp
    with_reducible rfl
  rotate_left
  · simp only [Act.put, List.setIfInBounds_toArray, List.set_cons_zero, List.set_cons_succ, i64_w, i32_w]
    rfl
  refine pure_ (i := 2) (N := some 27) (v := ?_) (a' := ?_) #[true, true, true, false, false, false, false, false, false, false, false, false, false] rfl rfl (by kernel_rfl) (fun _ _ _ h => h) (Or.inl ⟨by rfl, ?_⟩) ?_ ?_
  rotate_left
  · intro w'
    go_simp
    with_reducible rfl
  rotate_left
  · simp only [Act.put, List.setIfInBounds_toArray, List.set_cons_zero, List.set_cons_succ, i64_w, i32_w]
    rfl
  refine pure_ (i := 4) (N := some 29) (v := ?_) (a' := ?_) #[true, true, true, false, true, false, false, false, false, false, false, false, false] rfl rfl (by kernel_rfl) (fun _ _ _ h => h) (Or.inl ⟨by rfl, ?_⟩) ?_ ?_
  rotate_left
  · intro w'
    go_simp
    with_reducible rfl
  rotate_left
  · simp only [Act.put, List.setIfInBounds_toArray, List.set_cons_zero, List.set_cons_succ, i64_w, i32_w]
    rfl
  refine pure_ (i := 5) (N := some 30) (v := ?_) (a' := ?_) #[true, true, true, false, true, true, false, false, false, false, false, false, false] rfl rfl (by kernel_rfl) (fun _ _ _ h => h) (Or.inl ⟨by rfl, ?_⟩) ?_ ?_
  rotate_left
  · intro w'
    go_simp
    with_reducible rfl
  rotate_left
  · simp only [Act.put, List.setIfInBounds_toArray, List.set_cons_zero, List.set_cons_succ, i64_w, i32_w]
    rfl
  refine pure_ (i := 6) (N := some 31) (v := ?_) (a' := ?_) #[true, true, true, false, true, true, true, false, false, false, false, false, false] rfl rfl (by kernel_rfl) (fun _ _ _ h => h) (Or.inl ⟨by rfl, ?_⟩) ?_ ?_
  rotate_left
  · intro w'
    go_simp
    with_reducible rfl
  rotate_left
  · simp only [Act.put, List.setIfInBounds_toArray, List.set_cons_zero, List.set_cons_succ, i64_w, i32_w]
    rfl
  refine pure_ (i := 8) (N := some 33) (v := ?_) (a' := ?_) #[true, true, true, false, true, true, true, false, true, false, false, false, false] rfl rfl (by kernel_rfl) (fun _ _ _ h => h) (Or.inl ⟨by rfl, ?_⟩) ?_ ?_
  rotate_left
  · intro w'
    go_simp
    with_reducible rfl
  rotate_left
  · simp only [Act.put, List.setIfInBounds_toArray, List.set_cons_zero, List.set_cons_succ, i64_w, i32_w]
    rfl
  refine pure_ (i := 10) (N := some 35) (v := ?_) (a' := ?_) #[true, true, true, false, true, true, true, false, true, false, true, false, false] rfl rfl (by kernel_rfl) (fun _ _ _ h => h) (Or.inl ⟨by rfl, ?_⟩) ?_ ?_
  rotate_left
  · intro w'
    go_simp
    with_reducible rfl
  rotate_left
  · simp only [Act.put, List.setIfInBounds_toArray, List.set_cons_zero, List.set_cons_succ, i64_w, i32_w]
    rfl
  refine take_ (i := 3) (N := some 28) (v := ?_) (a' := ?_) #[true, true, true, true, true, true, true, false, true, false, true, false, false] rfl rfl (by kernel_rfl) (fun _ _ _ h => h) (Or.inl ⟨by rfl, ?_⟩) hHeld ?_ ?_
  rotate_left
  · rintro w' ⟨s0, s1⟩
    go_simp
    with_reducible rfl
  rotate_left
  · simp only [Act.put, List.setIfInBounds_toArray, List.set_cons_zero, List.set_cons_succ, i64_w, i32_w]
    rfl
  refine take_ (i := 7) (N := some 32) (v := ?_) (a' := ?_) #[true, true, true, true, true, true, true, true, true, false, true, false, false] rfl rfl (by kernel_rfl) (fun _ _ _ h => h) (Or.inl ⟨by rfl, ?_⟩) hHeld ?_ ?_
  rotate_left
  · rintro w' ⟨s0, s1⟩
    go_simp
    with_reducible rfl
  rotate_left
  · simp only [Act.put, List.setIfInBounds_toArray, List.set_cons_zero, List.set_cons_succ, i64_w, i32_w]
    rfl
  refine pure_ (i := 9) (N := some 34) (v := ?_) (a' := ?_) #[true, true, true, true, true, true, true, true, true, true, true, false, false] rfl rfl (by kernel_rfl) (fun _ _ _ h => h) (Or.inl ⟨by rfl, ?_⟩) ?_ ?_
  rotate_left
  · intro w'
    go_simp
    with_reducible rfl
  rotate_left
  · simp only [Act.put, List.setIfInBounds_toArray, List.set_cons_zero, List.set_cons_succ, i64_w, i32_w]
    rfl
  refine last_ (i := 11) (N := some 36) #[true, true, true, true, true, true, true, true, true, true, true, true, false] rfl rfl (by kernel_rfl) (by decide) (fun K hK => ?_)
  refine goes_ Tryd.func40 (by kernel_rfl) rfl #[.pointer (some ⟨gd, 0, none⟩), .int .i64 (wrap64 ((fr : Int) + (i : Int))), .slice A2 bs.length c2] (by rfl) rfl rfl (by simp only [List.map_toArray, List.map_cons, List.map_nil]; rfl) ?_
  with_reducible refine (Write_w F gd d ((fr : Int) + (i : Int)) _ HWE.out A2 bs.length c2 bs w3.drew HC3.out.disk HS.out.1 (Kd.R_reads' (Kd.R_drew HW3.out.1)).2.2).mono ?_
  rintro e w5 ⟨rfl, F5, hD5, hF5, hk5⟩
  refine ⟨_, rfl, ?_⟩
  rw [HS.out.2]
  have hC5 := HC3.out.redisk hk5 hD5 hF5
  have hbk5 := hk5.blk (blk_drew HW3.out.2.2) (fun hf => by have := HC.out.disk.2 _ hf; omega)
  have HW5 := Aside0.mk (And.intro hC5 (And.intro hbk5 (And.intro hk5 hF5)))
  have HBR := Aside0.mk (((HB0.out.1.trans (HW3.out.2.1.mono HB0.out.1.size)).trans (Below.mono (below_drew (Below.refl w3.heap.size w3)) (Nat.le_trans HB0.out.1.size HW3.out.2.1.size))).trans ((hk5.below (B := w0.heap.size) (Nat.le_trans HB0.out.1.size HW3.out.2.1.size) (fun k hk hf => by have := HB0.out.2 k hf; omega)).trans (Below.mono (below_drew (Below.refl w5.heap.size w5)) (Nat.le_trans (Nat.le_trans HB0.out.1.size HW3.out.2.1.size) hk5.size))))
  clear hD5 hF5 hk5 hC5 hbk5
  refine hK.out _ _ ?_
  clear hK K
  refine norm_ (a' := ?_) ?_ ?_
  rotate_left
  · show Act.put _ (some 36) _ = _
    simp only [Act.put, List.setIfInBounds_toArray, List.set_cons_zero, List.set_cons_succ, i64_w, i32_w]
    rfl
  refine pure_ (i := 12) (N := some 8) (v := ?_) (a' := ?_) #[true, true, true, true, true, true, true, true, true, true, true, true, true] rfl rfl (by kernel_rfl) (fun _ _ _ h => h) (Or.inl ⟨by rfl, ?_⟩) ?_ ?_
  rotate_left
  · intro w'
    go_simp
    with_reducible rfl
  rotate_left
  · simp only [Act.put, List.setIfInBounds_toArray, List.set_cons_zero, List.set_cons_succ, i64_w, i32_w]
    rfl
  refine done_ (by kernel_rfl) ?_
  have HCd := Aside0.mk (HW5.out.1.below (below_drew (Below.refl _ _)))
  have hbd := blk_drew HW5.out.2.1
  have HBd := Aside0.mk hbd
  clear hbd
  go_upto_region 10 with (fail)
  refine start_ (n := 8) (S := fun w' => w'.cell? ⟨gc, 3, none⟩ = some (.map (some bm)) ∧ w'.cell? ⟨W.heap.size, 0, none⟩ = some (.int .u64 x.1) ∧ w'.cell? ⟨W.heap.size, 1, none⟩ = some (.int .i64 x.2.1) ∧ w'.cell? ⟨W.heap.size, 2, none⟩ = some (.int .i64 x.2.2.1) ∧ w'.cell? ⟨W.heap.size, 3, none⟩ = some (.slice A x.2.2.2.length c)) (ds := [7]) #[false, false, false, false, false, false, false, false] (by kernel_rfl) rfl rfl ⟨HCd.out.cells.2.2.2, (HCL.out _ HBd.out).1, (HCL.out _ HBd.out).2.1, (HCL.out _ HBd.out).2.2.1, (HCL.out _ HBd.out).2.2.2⟩ (fun hHeld => ?_)
  refine pure_ (i := 0) (N := some 40) (v := ?_) (a' := ?_) #[true, false, false, false, false, false, false, false] rfl rfl (by kernel_rfl) (fun _ _ _ h => h) (Or.inl ⟨by rfl, ?_⟩) ?_ ?_
  rotate_left
  · intro w'
    go_simp
    with_reducible rfl
  rotate_left
  · simp only [Act.put, List.setIfInBounds_toArray, List.set_cons_zero, List.set_cons_succ, i64_w, i32_w]
    rfl
  refine pure_ (i := 1) (N := some 41) (v := ?_) (a' := ?_) #[true, true, false, false, false, false, false, false] rfl rfl (by kernel_rfl) (fun _ _ _ h => h) (Or.inl ⟨by rfl, ?_⟩) ?_ ?_
  rotate_left
  · intro w'
    go_simp
    with_reducible rfl
  rotate_left
  · simp only [Act.put, List.setIfInBounds_toArray, List.set_cons_zero, List.set_cons_succ, i64_w, i32_w]
    rfl
  refine pure_ (i := 2) (N := some 42) (v := ?_) (a' := ?_) #[true, true, true, false, false, false, false, false] rfl rfl (by kernel_rfl) (fun _ _ _ h => h) (Or.inl ⟨by rfl, ?_⟩) ?_ ?_
  rotate_left
  · intro w'
    go_simp
    with_reducible rfl
  rotate_left
  · simp only [Act.put, List.setIfInBounds_toArray, List.set_cons_zero, List.set_cons_succ, i64_w, i32_w]
    rfl
  refine pure_ (i := 4) (N := some 44) (v := ?_) (a' := ?_) #[true, true, true, false, true, false, false, false] rfl rfl (by kernel_rfl) (fun _ _ _ h => h) (Or.inl ⟨by rfl, ?_⟩) ?_ ?_
  rotate_left
  · intro w'
    go_simp
    with_reducible rfl
  rotate_left
  · simp only [Act.put, List.setIfInBounds_toArray, List.set_cons_zero, List.set_cons_succ, i64_w, i32_w]
    rfl
  refine take_ (i := 3) (N := some 43) (v := ?_) (a' := ?_) #[true, true, true, true, true, false, false, false] rfl rfl (by kernel_rfl) (fun _ _ _ h => h) (Or.inl ⟨by rfl, ?_⟩) hHeld ?_ ?_
  rotate_left
  · rintro w' ⟨s0, s1, s2, s3, s4⟩
    go_simp
    with_reducible rfl
  rotate_left
  · simp only [Act.put, List.setIfInBounds_toArray, List.set_cons_zero, List.set_cons_succ, i64_w, i32_w]
    rfl
  refine take_ (i := 5) (N := some 45) (v := ?_) (a' := ?_) #[true, true, true, true, true, true, false, false] rfl rfl (by kernel_rfl) (fun _ _ _ h => h) (Or.inl ⟨by rfl, ?_⟩) hHeld ?_ ?_
  rotate_left
  · rintro w' ⟨s0, s1, s2, s3, s4⟩
    go_simp
    with_reducible rfl
  rotate_left
  · simp only [Act.put, List.setIfInBounds_toArray, List.set_cons_zero, List.set_cons_succ, i64_w, i32_w]
    rfl
  refine one_ (i := 6) (N := some 46) #[true, true, true, true, true, true, true, false] rfl rfl (by kernel_rfl) (by decide) (fun K hK => ?_)
  refine goes_ Tryd.func39 (by kernel_rfl) rfl #[.agg #[.int .u64 x.1, .int .i64 x.2.1, .int .i64 x.2.2.1, .slice A x.2.2.2.length c]] (by rfl) rfl rfl (by simp only [List.map_toArray, List.map_cons, List.map_nil]; rfl) ?_
  with_reducible refine (copied_a x A c w5.drew (Kd.C_below HX.out.1 HBR.out) HX.out.2.1 HX8.out).mono ?_
  rintro e w6 ⟨v6, rfl, hv6, hb6⟩
  refine ⟨_, rfl, ?_⟩
  have HC6 := Aside0.mk (HCd.out.below hb6)
  obtain ⟨W7, hrun7, hm7, hg7⟩ := map_put_all (P := Tryd.prog) Tryd.underlying49 Tryd.underlying3 HC6.out (i : Int) v6
  have HV6 := Aside0.mk (show EntV (fun k => w5.heap.size ≤ k ∧ k < w6.heap.size) w6 x v6 from by
    obtain ⟨A6, c6, e6, r6⟩ := hv6
    exact ⟨A6, c6, e6, Kd.R_mono (Kd.R_bound r6) (fun k hk => ⟨hk.1, hk.2.2.1⟩)⟩)
  have hbd6 := (hb6.block _ (blk_lt HBd.out)).trans HBd.out
  have hc36 := (HCd.out.below hb6).cells.2.2.2
  refine hK.out _ _ ⟨hc36, (HCL.out _ hbd6).1, (HCL.out _ hbd6).2.1, (HCL.out _ hbd6).2.2.1, (HCL.out _ hbd6).2.2.2⟩ (fun hHeld => ?_)
  clear hK K
  refine norm_ (a' := ?_) ?_ ?_
  rotate_left
  · show Act.put _ (some 46) _ = _
    simp only [Act.put, List.setIfInBounds_toArray, List.set_cons_zero, List.set_cons_succ, i64_w, i32_w]
    rfl
  refine last_ (i := 7) (N := none) #[true, true, true, true, true, true, true, true] rfl rfl (by kernel_rfl) (by decide) (fun K hK => ?_)
  refine skip_ (by rfl) rfl (exec_mapUpdate 49 _ _ _ (.map (some bm)) (.int .i64 (i : Int)) v6 rfl (by rfl) (by rfl) (by rfl) hrun7) ?_
  refine hK.out _ _ ?_
  clear hK K
  refine done_ (by kernel_rfl) ?_
  have hput := HC6.out.put w5.heap.size x v6 i (fun k hk => HCd.out.lt k hk) (fun k hk => HCd.out.disk.2 k hk) HV6.out hg7 hm7
  have HPUT := Aside0.mk hput
  have HKP := Aside0.mk (show Kp (fun k => F k ∨ H k) W W7 from by
    have k1 : Kp (fun k => F k ∨ H k) W w3.drew := Kp.of_below (HW3.out.2.1.trans (Below.mono (below_drew (Below.refl w3.heap.size w3)) HW3.out.2.1.size))
    have k2 := k1.trans HW5.out.2.2.1 (fun q _ hq => .inl hq)
    have k3 : Kp (fun k => F k ∨ H k) W w6 := k2.trans (Kp.of_below (F := fun _ => False) ((below_drew (Below.refl w5.heap.size w5)).trans hb6)) (fun q _ hq => hq.elim)
    exact k3.trans (Kp.of_grown (F := fun k => k = bm) hg7 (fun g hg => by injection hg with hg; exact hg.symm)) (fun q _ hq => by rw [hq]; exact .inr HC.out.bmG))
  have HSZ := Aside0.mk (show W.heap.size ≤ w5.heap.size ∧ W.heap.size ≤ w3.heap.size from ⟨Nat.le_trans HW3.out.2.1.size HW5.out.2.2.1.size, HW3.out.2.1.size⟩)
  go_wp2
  go_ret
  exact ⟨rfl, F5, _, HPUT.out, fun k hk => (HW5.out.2.2.2 k hk).elim .inl (fun q => .inr (Nat.le_trans HSZ.out.2 q)), fun k hk => hk.elim .inl (fun q => .inr (Nat.le_trans HSZ.out.1 q.1)), HKP.out⟩
end Go.Proofs.YtogapedacdnfcaaDoor.G
/- The cache: Put of what is no entry. By hand. -/
namespace Go.Proofs.YtogapedacdnfcaaDoor.G
open Go.RowKit Go.Shelf Go.Proofs.YtogapedacdnfcaaDoorW.PrintWords Go.Proofs.YtogapedacdnfcaaDoorW.PrintLast Go.Proofs.YtogapedacdnfcaaDoorW.PrintMore Go.Proofs.YtogapedacdnfcaaDoor.Dsk
set_option linter.unusedVariables false
set_option linter.unusedSimpArgs false
set_option maxHeartbeats 8000000 in
set_option maxRecDepth 100000 in
theorem Put_bad (F H : Nat → Prop) (gc gd bm fr ct : Nat) (d : Dk) (m : Nat → Option Ent) (x : Ent) (A : Option Addr) (c : Nat) (er : Int) (bs : List Int) (W : World) (h : CMem F H gc gd bm fr ct d m W) (he : er ≠ 0)
    (hb : ∀ V, Below W.heap.size W V → Calls Tryd.prog 10 #[entVal x A c] V fun e w' => ∃ v0_ : Value, e = .returned (.tuple #[v0_, .int .i64 er]) ∧ Kd.R (Kd.int .u8) 5 w' V.heap.size (fun _ => True) v0_ bs ∧ Below V.heap.size V w') :
    Calls Tryd.prog 17 #[.pointer (some ⟨gc, 0, none⟩), entVal x A c] W fun e w' => e = .returned (.int .i64 er) ∧ Below W.heap.size W w' := by
  have HC := Aside0.mk h
  have HBY := Aside0.mk hb
  have hb0 := below_alloc (Below.refl W.heap.size W) (.cells #[.int .u64 x.1, .int .i64 x.2.1, .int .i64 x.2.2.1, .slice A x.2.2.2.length c] 25)
  have hk0 := blk_new W (.cells #[.int .u64 x.1, .int .i64 x.2.1, .int .i64 x.2.2.1, .slice A x.2.2.2.length c] 25)
  obtain ⟨W1, hW1⟩ : ∃ W1, W.alloc (.cells #[.int .u64 x.1, .int .i64 x.2.1, .int .i64 x.2.2.1, .slice A x.2.2.2.length c] 25) = W1 := ⟨_, rfl⟩
  rw [hW1] at hb0 hk0
  have HW1 := Aside0.mk hW1
  have HB1 := Aside0.mk hb0
  obtain ⟨q0, q1, q2, q3, _⟩ := cells4 hk0
  have g1 : (er == 0) = false := by rw [beq_eq_false_iff_ne]; exact he
  have g2 : (er = 0) = False := eq_false he
  have g3 : (er != 0) = true := bne_iff_ne.2 he
  unfold entVal at HBY
  clear h hb hb0 hk0 hW1 he
  unfold entVal
  go_enter Tryd.func17, Tryd.ntmps17
  go_upto_region 1 with (fail)
  rw [HW1.out]
  go_wp2_with (first | (go_at_call 37; refine (none_c gc gd W1 (HC.out.below HB1.out).cells.1).mono ?_; rintro e w1 ⟨rfl, hw1'⟩; refine of_halt ?_))
  unfold G.Halt
  obtain rfl := hw1'.symm
  go_wp2_with (first | (go_at_call 10; refine (HBY.out W1 HB1.out).mono ?_; rintro e w2 ⟨v2, rfl, hR2, hb2⟩; refine of_halt ?_))
  unfold G.Halt
  have HB2 := Aside0.mk (HB1.out.trans (hb2.mono HB1.out.size))
  clear hR2 hb2
  go_wp2
  go_ret
  exact ⟨rfl, HB2.out⟩
end Go.Proofs.YtogapedacdnfcaaDoor.G
/- The cache: Get. By hand. -/
namespace Go.Proofs.YtogapedacdnfcaaDoor.G
open Go.RowKit Go.Shelf Go.Proofs.YtogapedacdnfcaaDoorW.PrintWords Go.Proofs.YtogapedacdnfcaaDoorW.PrintLast Go.Proofs.YtogapedacdnfcaaDoorW.PrintMore Go.Proofs.YtogapedacdnfcaaDoor.Dsk
set_option linter.unusedVariables false
set_option linter.unusedSimpArgs false
def getM (m : Nat → Option Ent) (i : Nat) (key asked : Int) : Option Ent := match m i with
  | some e => if e.1 = key ∧ e.2.1 = asked then some e else none
  | none => none
def zeroEnt : Value := .agg #[.int .u64 0, .int .i64 0, .int .i64 0, .slice none 0 0]
theorem infoEnt : (Tryd.prog.info? 25).map (fun i => (i.zero, i.size)) = some (some zeroEnt, 4) := by kernel_rfl
theorem zero_Ent (w : World) : (zeroValue 25).run Tryd.prog w = .ok zeroEnt w := by
  exact (zero_of_info (v := zeroEnt) (n := 4) (by
  have := infoEnt
  cases hq : Tryd.prog.info? 25 with
  | none => simp [hq] at this
  | some i => simp [hq] at this; simp [this.1, this.2])).1 w
def GetP (r : Option Ent) (W : World) (e : Ending) (w' : World) : Prop := ∃ v b, e = .returned (.tuple #[v, .bool b]) ∧ (match r with | some x => b = true ∧ EntV (fun k => W.heap.size ≤ k) w' x v | none => b = false ∧ v = zeroEnt) ∧ Below W.heap.size W w'
set_option maxHeartbeats 8000000 in
set_option maxRecDepth 100000 in
theorem Get_c (F H : Nat → Prop) (gc gd bm fr ct : Nat) (d : Dk) (m : Nat → Option Ent) (key asked : Int) (W : World) (h : CMem F H gc gd bm fr ct d m W) (h1 : 1 ≤ ct) (h2 : ct ≤ 5000) (hk : 0 ≤ key ∧ key < 18446744073709551616) (ha : -1 ≤ asked ∧ asked ≤ 1) (hl : ∀ i e, m i = some e → e.2.2.2.length ≤ 1000) :
    Calls Tryd.prog 16 #[.pointer (some ⟨gc, 0, none⟩), .int .u64 key, .int .i64 asked] W (GetP (getM m (pl ct key asked) key asked) W) := by
  have HC := Aside0.mk h
  have HN := Aside0.mk (And.intro h1 (And.intro h2 (And.intro hk ha)))
  have HL := Aside0.mk hl
  obtain ⟨i, hi⟩ : ∃ i, pl ct key asked = i := ⟨_, rfl⟩
  have HI := Aside0.mk hi
  rw [hi]
  have f1 : (asked < -1) = False := eq_false (by omega)
  have f2 : (1 < asked) = False := eq_false (by omega)
  obtain ⟨f, hf, ht⟩ := h.map
  obtain ⟨kk, aa, ll, A, n, c, b, hval, hget⟩ : ∃ (kk aa ll : Int) (A : Option Addr) (n c : Nat) (b : Bool), ((b = false ∧ m i = none ∧ Value.agg #[.int .u64 kk, .int .i64 aa, .int .i64 ll, .slice A n c] = zeroEnt) ∨ (b = true ∧ ∃ x, m i = some x ∧ kk = x.1 ∧ aa = x.2.1 ∧ ll = x.2.2.1 ∧ n = x.2.2.2.length ∧ (Kd.int .i64).R 3 W 0 (fun k => H k ∧ k ≠ gc ∧ k ≠ bm) (.slice A x.2.2.2.length c) x.2.2.2)) ∧ ∀ V, Below W.heap.size W V → (Instr.lookup 49 (.map (some bm)) (.int .i64 (i : Int)) true).run Tryd.prog V = .ok (.tuple #[.agg #[.int .u64 kk, .int .i64 aa, .int .i64 ll, .slice A n c], .bool b]) V := by
    have hg := fun V (hV : Below W.heap.size W V) => map_get (P := Tryd.prog) Tryd.underlying49 Tryd.underlying3 zero_Ent (hf.below hV) (i : Int)
    rcases ht i with ⟨q1, q2⟩ | ⟨x, v, q1, q2, A, c, rfl, q3⟩
    · rw [q2] at hg
      exact ⟨0, 0, 0, none, 0, 0, false, .inl ⟨rfl, q1, rfl⟩, hg⟩
    · rw [q2] at hg
      exact ⟨x.1, x.2.1, x.2.2.1, A, x.2.2.2.length, c, true, .inr ⟨rfl, x, q1, rfl, rfl, rfl, rfl, q3⟩, hg⟩
  have HV := Aside0.mk hval
  have HG := Aside0.mk hget
  have hbA := below_alloc (Below.refl W.heap.size W) (.cells #[.int .u64 0, .int .i64 0, .int .i64 0, .slice none 0 0] 25)
  have hkA := blk_new W (.cells #[.int .u64 0, .int .i64 0, .int .i64 0, .slice none 0 0] 25)
  obtain ⟨W1, hW1⟩ : ∃ W1, W.alloc (.cells #[.int .u64 0, .int .i64 0, .int .i64 0, .slice none 0 0] 25) = W1 := ⟨_, rfl⟩
  have hs1 : W1.heap.size = W.heap.size + 1 := by rw [← hW1, World.size_alloc]
  rw [hW1] at hbA hkA
  have HW1 := Aside0.mk hW1
  have HA := Aside0.mk (And.intro hbA (And.intro hkA hs1))
  have hcell : ∀ V, Below W.heap.size W V → V.cell? ⟨gc, 0, none⟩ = some (.pointer (some ⟨gd, 0, none⟩)) ∧ V.cell? ⟨gc, 2, none⟩ = some (.int .i64 (ct : Int)) ∧ V.cell? ⟨gc, 3, none⟩ = some (.map (some bm)) := fun V hV => ⟨(h.below hV).cells.1, (h.below hV).cells.2.2.1, (h.below hV).cells.2.2.2⟩
  have HCELL := Aside0.mk hcell
  have HD := Aside0.mk (hbA.trans (Below.mono (below_drew (Below.refl W1.heap.size W1)) hbA.size))
  clear h h1 h2 hk ha hl hi hbA hkA hcell ht hf hget hval hs1 hW1
  go_enter Tryd.func16, Tryd.ntmps16
  go_upto_region 1 with (fail)
  rw [HW1.out]
  go_wp2_with (first | (go_at_call 37; refine (none_c gc gd W1 (HCELL.out _ HA.out.1).1).mono ?_; rintro e w1 ⟨rfl, hw1⟩; refine of_halt ?_))
  unfold G.Halt
  obtain rfl := hw1.symm
  go_upto_region 3 with (fail)
  refine start_ (n := 15) (S := fun w' => w'.cell? ⟨gc, 3, none⟩ = some (.map (some bm)) ∧ (Instr.lookup 49 (.map (some bm)) (.int .i64 (i : Int)) true).run Tryd.prog w' = .ok (.tuple #[.agg #[.int .u64 kk, .int .i64 aa, .int .i64 ll, .slice A n c], .bool b]) w') (ds := [13]) #[false, false, false, false, false, false, false, false, false, false, false, false, false, false, false] (by kernel_rfl) rfl rfl ⟨(HCELL.out _ HD.out).2.2, HG.out _ HD.out⟩ (fun hHeld => ?_)
  refine pure_ (i := 0) (N := some 22) (v := ?_) (a' := ?_) #[true, false, false, false, false, false, false, false, false, false, false, false, false, false, false] rfl rfl (by kernel_rfl) (fun _ _ _ h => h) (Or.inl ⟨by rfl, ?_⟩) ?_ ?_
  rotate_left
  · intro w'
    go_simp
    with_reducible rfl
  rotate_left
  · simp only [Act.put, List.setIfInBounds_toArray, List.set_cons_zero, List.set_cons_succ, i64_w, i32_w]
    rfl
  refine pure_ (i := 1) (N := some 23) (v := ?_) (a' := ?_) #[true, true, false, false, false, false, false, false, false, false, false, false, false, false, false] rfl rfl (by kernel_rfl) (fun _ _ _ h => h) (Or.inl ⟨by rfl, ?_⟩) ?_ ?_
  rotate_left
  · intro w'
    go_simp
    with_reducible rfl
  rotate_left
  · simp only [Act.put, List.setIfInBounds_toArray, List.set_cons_zero, List.set_cons_succ, i64_w, i32_w]
    rfl
  refine pure_ (i := 2) (N := some 24) (v := ?_) (a' := ?_) #[true, true, true, false, false, false, false, false, false, false, false, false, false, false, false] rfl rfl (by kernel_rfl) (fun _ _ _ h => h) (Or.inl ⟨by rfl, ?_⟩) ?_ ?_
  rotate_left
  · intro w'
    go_simp
    with_reducible rfl
  rotate_left
  · simp only [Act.put, List.setIfInBounds_toArray, List.set_cons_zero, List.set_cons_succ, i64_w, i32_w]
    rfl
  refine pure_ (i := 4) (N := some 26) (v := ?_) (a' := ?_) #[true, true, true, false, true, false, false, false, false, false, false, false, false, false, false] rfl rfl (by kernel_rfl) (fun _ _ _ h => h) (Or.inl ⟨by rfl, ?_⟩) ?_ ?_
  rotate_left
  · intro w'
    go_simp
    with_reducible rfl
  rotate_left
  · simp only [Act.put, List.setIfInBounds_toArray, List.set_cons_zero, List.set_cons_succ, i64_w, i32_w]
    rfl
  refine pure_ (i := 5) (N := some 27) (v := ?_) (a' := ?_) #[true, true, true, false, true, true, false, false, false, false, false, false, false, false, false] rfl rfl (by kernel_rfl) (fun _ _ _ h => h) (Or.inl ⟨by rfl, ?_⟩) ?_ ?_
  rotate_left
  · intro w'
    go_simp
    with_reducible rfl
  rotate_left
  · simp only [Act.put, List.setIfInBounds_toArray, List.set_cons_zero, List.set_cons_succ, i64_w, i32_w]
    rfl
  refine pure_ (i := 6) (N := some 28) (v := ?_) (a' := ?_) #[true, true, true, false, true, true, true, false, false, false, false, false, false, false, false] rfl rfl (by kernel_rfl) (fun _ _ _ h => h) (Or.inl ⟨by rfl, ?_⟩) ?_ ?_
  rotate_left
  · intro w'
    go_simp
    with_reducible rfl
  rotate_left
  · simp only [Act.put, List.setIfInBounds_toArray, List.set_cons_zero, List.set_cons_succ, i64_w, i32_w]
    rfl
  refine take_ (i := 3) (N := some 25) (v := ?_) (a' := ?_) #[true, true, true, true, true, true, true, false, false, false, false, false, false, false, false] rfl rfl (by kernel_rfl) (fun _ _ _ h => h) (Or.inl ⟨by rfl, ?_⟩) hHeld ?_ ?_
  rotate_left
  · rintro w' ⟨s0, s1⟩
    go_simp
    with_reducible rfl
  rotate_left
  · simp only [Act.put, List.setIfInBounds_toArray, List.set_cons_zero, List.set_cons_succ, i64_w, i32_w]
    rfl
  refine join_ (σ := Nat) 2 #[true, true, true, true, true, true, true, true, true, true, true, true, true, false, false] (fun s => [(29, .int .i64 (i : Int)), (30, .tuple #[.agg #[.int .u64 kk, .int .i64 aa, .int .i64 ll, .slice A n c], .bool b]), (21, .tuple #[.agg #[.int .u64 kk, .int .i64 aa, .int .i64 ll, .slice A n c], .bool b]), (31, .agg #[.int .u64 kk, .int .i64 aa, .int .i64 ll, .slice A n c]), (32, .bool b), (8, .pointer (some ⟨s, 0, none⟩))]) (fun s w' => Below W.heap.size W w' ∧ w'.heap[s]? = some (.cells #[.int .u64 0, .int .i64 0, .int .i64 0, .slice none 0 0] 25 (0, 0)) ∧ W1.heap.size ≤ s ∧ w'.heap[W.heap.size]? = some (.cells #[.int .u64 0, .int .i64 0, .int .i64 0, .slice none 0 0] 25 (0, 0))) ?_ ?_
  rotate_left
  · intro hCont
    refine two_ (i := 7) (j := 12) (Ni := some 29) (Nj := some 8) #[true, true, true, true, true, true, true, true, false, false, false, false, false, false, false] #[true, true, true, true, true, true, true, false, false, false, false, false, true, false, false] rfl rfl rfl rfl (by kernel_rfl) (by decide) (by decide) (fun K hK => ?_) (fun K hK => ?_)
    · skip
      refine goes_ Tryd.func38 (by kernel_rfl) rfl #[.pointer (some ⟨gc, 0, none⟩), .int .u64 key, .int .i64 asked] (by rfl) rfl rfl (by simp only [List.map_toArray, List.map_cons, List.map_nil]; rfl) ?_
      with_reducible refine (place_i gc ct i key asked W1.drew HI.out (fun V hV => (HCELL.out V (HD.out.trans (hV.mono HD.out.size))).2.1) HN.out.1 HN.out.2.1 HN.out.2.2.1 HN.out.2.2.2).mono ?_
      rintro e w5 ⟨rfl, hb5⟩
      refine ⟨_, rfl, ?_⟩
      have hB5 := HD.out.trans (hb5.mono HD.out.size)
      refine hK.out _ _ ⟨(HCELL.out _ hB5).2.2, HG.out _ hB5⟩ (fun hHeld => ?_)
      clear hK K
      refine norm_ (a' := ?_) ?_ ?_
      rotate_left
      · show Act.put _ (some 29) _ = _
        simp only [Act.put, List.setIfInBounds_toArray, List.set_cons_zero, List.set_cons_succ, i64_w, i32_w]
        rfl
      refine take_ (i := 8) (N := some 30) (v := ?_) (a' := ?_) #[true, true, true, true, true, true, true, true, true, false, false, false, false, false, false] rfl rfl (by kernel_rfl) (fun _ _ _ h => h) (Or.inl ⟨by rfl, ?_⟩) hHeld ?_ ?_
      rotate_left
      · rintro w' ⟨s0, s1⟩
        go_simp
        with_reducible rfl
      rotate_left
      · simp only [Act.put, List.setIfInBounds_toArray, List.set_cons_zero, List.set_cons_succ, i64_w, i32_w]
        rfl
      refine pure_ (i := 9) (N := some 21) (v := ?_) (a' := ?_) #[true, true, true, true, true, true, true, true, true, true, false, false, false, false, false] rfl rfl (by kernel_rfl) (fun _ _ _ h => h) (Or.inl ⟨by rfl, ?_⟩) ?_ ?_
      rotate_left
      · intro w'
        go_simp
        with_reducible rfl
      rotate_left
      · simp only [Act.put, List.setIfInBounds_toArray, List.set_cons_zero, List.set_cons_succ, i64_w, i32_w]
        rfl
      refine pure_ (i := 10) (N := some 31) (v := ?_) (a' := ?_) #[true, true, true, true, true, true, true, true, true, true, true, false, false, false, false] rfl rfl (by kernel_rfl) (fun _ _ _ h => h) (Or.inl ⟨by rfl, ?_⟩) ?_ ?_
      rotate_left
      · intro w'
        go_simp
        with_reducible rfl
      rotate_left
      · simp only [Act.put, List.setIfInBounds_toArray, List.set_cons_zero, List.set_cons_succ, i64_w, i32_w]
        rfl
      refine pure_ (i := 11) (N := some 32) (v := ?_) (a' := ?_) #[true, true, true, true, true, true, true, true, true, true, true, true, false, false, false] rfl rfl (by kernel_rfl) (fun _ _ _ h => h) (Or.inl ⟨by rfl, ?_⟩) ?_ ?_
      rotate_left
      · intro w'
        go_simp
        with_reducible rfl
      rotate_left
      · simp only [Act.put, List.setIfInBounds_toArray, List.set_cons_zero, List.set_cons_succ, i64_w, i32_w]
        rfl
      refine one_ (i := 12) (N := some 8) #[true, true, true, true, true, true, true, true, true, true, true, true, true, false, false] rfl rfl (by kernel_rfl) (by decide) (fun K hK => ?_)
      refine value_ (w1 := ?_) (v := ?_) (by rfl) rfl ?_ ?_
      rotate_left 2
      · go_simp
        constructor
        · rfl
        · rfl
      refine hK.out _ _ ⟨(HCELL.out _ (below_alloc hB5 _)).2.2, HG.out _ (below_alloc hB5 _)⟩ (fun hHeld => ?_)
      clear hK K
      refine norm_ (a' := ?_) ?_ ?_
      rotate_left
      · show Act.put _ (some 8) _ = _
        simp only [Act.put, List.setIfInBounds_toArray, List.set_cons_zero, List.set_cons_succ, i64_w, i32_w]
        rfl
      exact norm_ (by simp only [putAll, Act.put, List.setIfInBounds_toArray, List.set_cons_zero, List.set_cons_succ]) (hCont w5.heap.size _ ⟨below_alloc hB5 _, blk_new w5 _, hb5.size, blk_alloc ((hb5.block _ (blk_lt HA.out.2.1)).trans HA.out.2.1) _⟩)
    · skip
      refine value_ (w1 := ?_) (v := ?_) (by rfl) rfl ?_ ?_
      rotate_left 2
      · go_simp
        constructor
        · rfl
        · rfl
      refine hK.out _ _ ⟨(HCELL.out _ (below_alloc HD.out _)).2.2, HG.out _ (below_alloc HD.out _)⟩ (fun hHeld => ?_)
      clear hK K
      refine norm_ (a' := ?_) ?_ ?_
      rotate_left
      · show Act.put _ (some 8) _ = _
        simp only [Act.put, List.setIfInBounds_toArray, List.set_cons_zero, List.set_cons_succ, i64_w, i32_w]
        rfl
      refine one_ (i := 7) (N := some 29) #[true, true, true, true, true, true, true, true, false, false, false, false, true, false, false] rfl rfl (by kernel_rfl) (by decide) (fun K hK => ?_)
      refine goes_ Tryd.func38 (by kernel_rfl) rfl #[.pointer (some ⟨gc, 0, none⟩), .int .u64 key, .int .i64 asked] (by rfl) rfl rfl (by simp only [List.map_toArray, List.map_cons, List.map_nil]; rfl) ?_
      with_reducible refine (place_i gc ct i key asked (W1.alloc (.cells #[.int .u64 0, .int .i64 0, .int .i64 0, .slice none 0 0] 25)).drew HI.out (fun V hV => (HCELL.out V ((below_alloc HD.out _).trans (hV.mono (below_alloc HD.out _).size))).2.1) HN.out.1 HN.out.2.1 HN.out.2.2.1 HN.out.2.2.2).mono ?_
      rintro e w6 ⟨rfl, hb6⟩
      refine ⟨_, rfl, ?_⟩
      have hB6 := (below_alloc HD.out (.cells #[.int .u64 0, .int .i64 0, .int .i64 0, .slice none 0 0] 25)).trans (hb6.mono (below_alloc HD.out _).size)
      refine hK.out _ _ ⟨(HCELL.out _ hB6).2.2, HG.out _ hB6⟩ (fun hHeld => ?_)
      clear hK K
      refine norm_ (a' := ?_) ?_ ?_
      rotate_left
      · show Act.put _ (some 29) _ = _
        simp only [Act.put, List.setIfInBounds_toArray, List.set_cons_zero, List.set_cons_succ, i64_w, i32_w]
        rfl
      refine take_ (i := 8) (N := some 30) (v := ?_) (a' := ?_) #[true, true, true, true, true, true, true, true, true, false, false, false, true, false, false] rfl rfl (by kernel_rfl) (fun _ _ _ h => h) (Or.inl ⟨by rfl, ?_⟩) hHeld ?_ ?_
      rotate_left
      · rintro w' ⟨s0, s1⟩
        go_simp
        with_reducible rfl
      rotate_left
      · simp only [Act.put, List.setIfInBounds_toArray, List.set_cons_zero, List.set_cons_succ, i64_w, i32_w]
        rfl
      refine pure_ (i := 9) (N := some 21) (v := ?_) (a' := ?_) #[true, true, true, true, true, true, true, true, true, true, false, false, true, false, false] rfl rfl (by kernel_rfl) (fun _ _ _ h => h) (Or.inl ⟨by rfl, ?_⟩) ?_ ?_
      rotate_left
      · intro w'
        go_simp
        with_reducible rfl
      rotate_left
      · simp only [Act.put, List.setIfInBounds_toArray, List.set_cons_zero, List.set_cons_succ, i64_w, i32_w]
        rfl
      refine pure_ (i := 10) (N := some 31) (v := ?_) (a' := ?_) #[true, true, true, true, true, true, true, true, true, true, true, false, true, false, false] rfl rfl (by kernel_rfl) (fun _ _ _ h => h) (Or.inl ⟨by rfl, ?_⟩) ?_ ?_
      rotate_left
      · intro w'
        go_simp
        with_reducible rfl
      rotate_left
      · simp only [Act.put, List.setIfInBounds_toArray, List.set_cons_zero, List.set_cons_succ, i64_w, i32_w]
        rfl
      refine pure_ (i := 11) (N := some 32) (v := ?_) (a' := ?_) #[true, true, true, true, true, true, true, true, true, true, true, true, true, false, false] rfl rfl (by kernel_rfl) (fun _ _ _ h => h) (Or.inl ⟨by rfl, ?_⟩) ?_ ?_
      rotate_left
      · intro w'
        go_simp
        with_reducible rfl
      rotate_left
      · simp only [Act.put, List.setIfInBounds_toArray, List.set_cons_zero, List.set_cons_succ, i64_w, i32_w]
        rfl
      exact norm_ (by simp only [putAll, Act.put, List.setIfInBounds_toArray, List.set_cons_zero, List.set_cons_succ]) (hCont W1.heap.size _ ⟨hB6, (hb6.block _ (blk_lt (blk_new W1.drew _))).trans (blk_new W1.drew _), Nat.le_refl _, (hb6.block _ (blk_lt (blk_alloc (blk_drew HA.out.2.1) _))).trans (blk_alloc (blk_drew HA.out.2.1) _)⟩)
  rintro s W5 ⟨HB5, HK5, HS5, HR5⟩
  have hHeld := And.intro (HCELL.out _ HB5).2.2 (HG.out _ HB5)
  have hs0 := (cells4 HK5).1
  have hs1 := (cells4 HK5).2.1
  have hs2 := (cells4 HK5).2.2.1
  have hs3 := (cells4 HK5).2.2.2
  have hz0 := blk_frozen HK5 0
  have hz1 := blk_frozen HK5 1
  have hz2 := blk_frozen HK5 2
  have hz3 := blk_frozen HK5 3
  refine norm_ (a' := ?_) ?_ ?_
  rotate_left
  · simp only [putAll, Act.put, List.setIfInBounds_toArray, List.set_cons_zero, List.set_cons_succ]
    rfl
  refine last_ (i := 13) (N := none) #[true, true, true, true, true, true, true, true, true, true, true, true, true, true, false] rfl rfl (by kernel_rfl) (by decide) (fun K hK => ?_)
  refine skip_ (w1 := ?_) (by rfl) rfl ?_ ?_
  rotate_left
  · go_simp
    rfl
  refine hK.out _ _ ?_
  clear hK K
  refine pure_ (i := 14) (N := some 9) (v := ?_) (a' := ?_) #[true, true, true, true, true, true, true, true, true, true, true, true, true, true, true] rfl rfl (by kernel_rfl) (fun _ _ _ h => h) (Or.inl ⟨by rfl, ?_⟩) ?_ ?_
  rotate_left
  · intro w'
    go_simp
    with_reducible rfl
  rotate_left
  · simp only [Act.put, List.setIfInBounds_toArray, List.set_cons_zero, List.set_cons_succ, i64_w, i32_w]
    rfl
  refine done_ (by kernel_rfl) ?_
  have hW0s : W.heap.size ≤ s := by have := HA.out.2.2; omega
  have hne : W.heap.size ≠ s := by have := HA.out.2.2; omega
  have hK6 := blk4 HK5 (.int .u64 kk) (.int .i64 aa) (.int .i64 ll) (.slice A n c)
  have hB6 := below4 HB5 hW0s (.int .u64 kk) (.int .i64 aa) (.int .i64 ll) (.slice A n c)
  have hR6 := blk_far (p := ⟨s, 3, none⟩) (blk_far (p := ⟨s, 2, none⟩) (blk_far (p := ⟨s, 1, none⟩) (blk_far (p := ⟨s, 0, none⟩) HR5 hne (.int .u64 kk)) hne (.int .i64 aa)) hne (.int .i64 ll)) hne (.slice A n c)
  obtain ⟨W6, hW6⟩ : ∃ W6, ((((W5.setCell ⟨s, 0, none⟩ (.int .u64 kk)).setCell ⟨s, 1, none⟩ (.int .i64 aa)).setCell ⟨s, 2, none⟩ (.int .i64 ll)).setCell ⟨s, 3, none⟩ (.slice A n c)) = W6 := ⟨_, rfl⟩
  rw [hW6] at hK6 hB6 hR6
  rw [hW6]
  have H6 := Aside0.mk (And.intro hK6 (And.intro hB6 hR6))
  obtain ⟨q0, q1, q2, q3⟩ := cells4 hK6
  obtain ⟨r0, r1, r2, r3⟩ := cells4 hR6
  have z0 := blk_frozen hR6 0
  have z1 := blk_frozen hR6 1
  have z2 := blk_frozen hR6 2
  have z3 := blk_frozen hR6 3
  clear hK6 hB6 hR6 hW6 hHeld hs0 hs1 hs2 hs3 hz0 hz1 hz2 hz3 HB5 HK5 HR5
  by_cases hbb : b = true ∧ kk = key ∧ aa = asked
  · obtain ⟨hb1, hk1, ha1⟩ := hbb
    subst hb1
    have HKA := Aside0.mk (And.intro hk1 ha1)
    have g1 : (kk != key) = false := bne_eq_false_iff_eq.2 hk1
    have g2 : (kk = key) = True := eq_true hk1
    have g3 : (aa != asked) = false := bne_eq_false_iff_eq.2 ha1
    have g4 : (aa = asked) = True := eq_true ha1
    clear hk1 ha1
    rcases HV.out with ⟨hb2, _⟩ | ⟨_, x, hmx, hx1, hx2, hx3, hx4, hxR⟩
    · cases hb2
    have hgm : getM m i key asked = some x := by
      unfold getM
      rw [hmx]
      show (if x.1 = key ∧ x.2.1 = asked then some x else none) = _
      rw [if_pos ⟨by rw [← hx1]; exact HKA.out.1, by rw [← hx2]; exact HKA.out.2⟩]
    have HGM := Aside0.mk hgm
    have HXX := Aside0.mk (And.intro hxR (HL.out i x hmx))
    subst hx1 hx2 hx3 hx4
    have hB6d := H6.out.2.1
    clear hmx hgm hxR
    go_wp2_with (first | (go_at_call 39; refine (copied_a x A c W6 (Kd.C_below (Kd.R_reads' HXX.out.1).2.2 H6.out.2.1) (Kd.R_reads' HXX.out.1).2.1 (by have := HXX.out.2; omega)).mono ?_; rintro e w7 ⟨v7, rfl, hv7, hb7⟩; refine of_halt ?_))
    unfold G.Halt
    obtain ⟨A7, c7, rfl, hR7⟩ := hv7
    unfold entVal
    have hR67 := (hb7.block _ (blk_lt H6.out.2.2)).trans H6.out.2.2
    have H7 := Aside0.mk (And.intro hR7 (And.intro hR67 (H6.out.2.1.trans (hb7.mono H6.out.2.1.size))))
    obtain ⟨t0, t1, t2, t3⟩ := cells4 hR67
    have y0 := blk_frozen hR67 0
    have y1 := blk_frozen hR67 1
    have y2 := blk_frozen hR67 2
    have y3 := blk_frozen hR67 3
    have hlt6 := blk_lt H6.out.2.2
    have HLT := Aside0.mk hlt6
    clear hR7 hR67 hb7 hlt6 hB6d
    go_wp2
    refine bodyPost_ret (results_list (rs := [.cell 6 25, .tmp 7]) rfl (by simp) (.cell W.heap.size 25 _ (0, 0) _ rfl (blk4 H7.out.2.1 _ _ _ _) Tryd.underlying25 rfl (by kernel_rfl) (.tmp .nil))) rfl ⟨_, _, rfl, ?_, below4 H7.out.2.2 (Nat.le_refl _) _ _ _ _⟩
    rw [HGM.out]
    refine ⟨rfl, A7, c7, rfl, ?_⟩
    have k1 := Kd.R_far (p := ⟨W.heap.size, 0, none⟩) H7.out.1 (fun k hk => by show k ≠ W.heap.size; have := HLT.out; omega) (.int .u64 x.1)
    have k2 := Kd.R_far (p := ⟨W.heap.size, 1, none⟩) k1 (fun k hk => by show k ≠ W.heap.size; have := HLT.out; omega) (.int .i64 x.2.1)
    have k3 := Kd.R_far (p := ⟨W.heap.size, 2, none⟩) k2 (fun k hk => by show k ≠ W.heap.size; have := HLT.out; omega) (.int .i64 x.2.2.1)
    have k4 := Kd.R_far (p := ⟨W.heap.size, 3, none⟩) k3 (fun k hk => by show k ≠ W.heap.size; have := HLT.out; omega) (.slice A7 x.2.2.2.length c7)
    exact Kd.R_mono k4 (fun k hk => Nat.le_trans H6.out.2.1.size hk)
  · have hgm : getM m i key asked = none := by
      unfold getM
      rcases HV.out with ⟨_, hm, _⟩ | ⟨hb1, x, hm, hx1, hx2, _⟩
      · rw [hm]
      · rw [hm]
        show (if x.1 = key ∧ x.2.1 = asked then some x else none) = none
        rw [if_neg (fun q => hbb ⟨hb1, hx1.trans q.1, hx2.trans q.2⟩)]
    have HGM := Aside0.mk hgm
    have hcs : b = false ∨ (b = true ∧ (kk != key) = true ∧ (kk = key) = False) ∨ (b = true ∧ ((kk != key) = false ∧ (kk = key) = True) ∧ (aa != asked) = true ∧ (aa = asked) = False) := by
      cases b with
      | false => exact .inl rfl
      | true =>
        by_cases hk1 : kk = key
        · refine .inr (.inr ⟨rfl, ⟨bne_eq_false_iff_eq.2 hk1, eq_true hk1⟩, ?_⟩)
          have : ¬ aa = asked := fun q => hbb ⟨rfl, hk1, q⟩
          exact ⟨bne_iff_ne.2 this, eq_false this⟩
        · exact .inr (.inl ⟨rfl, bne_iff_ne.2 hk1, eq_false hk1⟩)
    clear hbb hgm
    rcases hcs with hb1 | ⟨hb1, g1, g2⟩ | ⟨hb1, ⟨g1, g2⟩, g3, g4⟩
    all_goals
      subst hb1
      go_wp2
      refine bodyPost_ret (results_list (rs := [.cell 6 25, .tmp 7]) rfl (by simp) (.cell W.heap.size 25 _ (0, 0) _ rfl (blk4 H6.out.2.2 _ _ _ _) Tryd.underlying25 rfl (by kernel_rfl) (.tmp .nil))) rfl ⟨_, _, rfl, by rw [HGM.out]; exact ⟨rfl, rfl⟩, below4 H6.out.2.1 (Nat.le_refl _) _ _ _ _⟩
end Go.Proofs.YtogapedacdnfcaaDoor.G
/- The cache: Entries. By hand. -/
namespace Go.Proofs.YtogapedacdnfcaaDoor.G
open Go.RowKit Go.Shelf Go.Proofs.YtogapedacdnfcaaDoorW.PrintWords Go.Proofs.YtogapedacdnfcaaDoorW.PrintLast Go.Proofs.YtogapedacdnfcaaDoorW.PrintMore Go.Proofs.YtogapedacdnfcaaDoor.Dsk
set_option linter.unusedVariables false
set_option linter.unusedSimpArgs false
abbrev entK : Kd Ent := Kd.pair (Kd.int .u64) (Kd.pair (Kd.int .i64) (Kd.pair (Kd.int .i64) (Kd.slice 3 (Kd.int .i64))))
theorem infoEntB : (Tryd.prog.info? 25).map (fun i => (i.zero, i.size, i.bytes)) = some (some zeroEnt, 4, 48) := by kernel_rfl
def entsTo (m : Nat → Option Ent) (i : Nat) : List Ent := (List.range i).filterMap m
theorem entsTo_none {m : Nat → Option Ent} {i : Nat} (h : m i = none) : entsTo m (i + 1) = entsTo m i := by simp [entsTo, List.range_succ, List.filterMap_append, h]
theorem entsTo_some {m : Nat → Option Ent} {i : Nat} {x : Ent} (h : m i = some x) : entsTo m (i + 1) = entsTo m i ++ [x] := by simp [entsTo, List.range_succ, List.filterMap_append, h]
theorem entsTo_len (m : Nat → Option Ent) (i : Nat) : (entsTo m i).length ≤ i := by
  have := List.length_filterMap_le m (List.range i)
  simpa [entsTo] using this
set_option maxHeartbeats 8000000 in
set_option maxRecDepth 100000 in
theorem Entries_c (F H : Nat → Prop) (gc gd bm fr ct : Nat) (d : Dk) (m : Nat → Option Ent) (W : World) (h : CMem F H gc gd bm fr ct d m W) (h2 : ct ≤ 5000) (hl : ∀ i e, m i = some e → e.2.2.2.length ≤ 1000) :
    Calls Tryd.prog 19 #[.pointer (some ⟨gc, 0, none⟩)] W fun e w' => ∃ v, e = .returned v ∧ entK.R 25 w' 0 (fun k => W.heap.size ≤ k) v (entsTo m ct) ∧ Below W.heap.size W w' := by
  have HC := Aside0.mk h
  have HL := Aside0.mk hl
  have HN := Aside0.mk h2
  obtain ⟨f, hf, ht⟩ := h.map
  have HT := Aside0.mk ht
  have HF := Aside0.mk hf
  have hc2 := h.cells.2.2.1
  clear h hl h2 hf ht
  go_enter Tryd.func19, Tryd.ntmps19
  go_wp2_with (first | (go_at_call 37; refine (none_c gc gd W HC.out.cells.1).mono ?_; rintro e w1 ⟨rfl, hw1⟩; refine of_halt ?_))
  unfold G.Halt
  obtain rfl := hw1.symm
  go_wp2
  go_loopg [3, 13] (ct + 1) (fun kq v3 v13 w' => ∃ i : Nat, v13 = .int .i64 (i : Int) ∧ Aside0 (i ≤ ct ∧ kq + i = ct + 1) ∧ Aside0 (entK.R 25 w' 0 (fun k => W.heap.size ≤ k) v3 (entsTo m i) ∧ Below W.heap.size W w'))
  case atStart => exact ⟨0, rfl, ⟨by omega⟩, ⟨Kd.R_nil _ _ _ _ _, Below.refl _ _⟩⟩
  case round =>
    obtain ⟨i, rfl, HI, HR⟩ := hrel
    obtain ⟨Ao, co, rfl⟩ := Kd.R_slice HR.out.1
    by_cases hi : i < ct
    · have e1 : ((i : Int) < (ct : Int)) = True := eq_true (by omega)
      have e2 : (i < ct) = True := eq_true hi
      have w3_ : wrap64 ((i : Int) + 1) = ((i + 1 : Nat) : Int) := by have := HN.out; unfold wrap64; omega
      have HX := Aside0.mk (show ∃ j, i + 1 + j = ct from ⟨ct - (i + 1), by omega⟩)
      have hc3 := (HC.out.below HR.out.2).cells.2.2.2
      have hget := map_get (P := Tryd.prog) Tryd.underlying49 Tryd.underlying3 zero_Ent (HF.out.below HR.out.2) (i : Int)
      clear hi hc2
      rcases HT.out i with ⟨q1, q2⟩ | ⟨x, v, q1, q2, A, c, rfl, q3⟩
      · rw [q2] at hget
        unfold zeroEnt at hget
        have HE := Aside0.mk (entsTo_none q1)
        clear q1 q2
        go_wp2
        go_roundg (gk - 1)
        case measure => have := HI.out; omega
        case rel => exact ⟨i + 1, by first | rw [w3_] | rfl | simp, ⟨by have := HI.out; obtain ⟨j, hj⟩ := HX.out; omega⟩, ⟨by rw [HE.out]; exact Kd.R_alloc HR.out.1 _, below_alloc HR.out.2 _⟩⟩
      · rw [q2] at hget
        unfold entVal at hget
        have HE := Aside0.mk (And.intro (entsTo_some q1) (HL.out i x q1))
        have HQ := Aside0.mk q3
        clear q1 q2 q3
        have hba := below_alloc HR.out.2 (.cells #[.int .u64 x.1, .int .i64 x.2.1, .int .i64 x.2.2.1, .slice A x.2.2.2.length c] 25)
        have HBA := Aside0.mk hba
        clear hba
        go_wp2_with (first | (go_at_call 39; refine (copied_a x A c _ (Kd.C_below (Kd.R_reads' HQ.out).2.2 HBA.out) (Kd.R_reads' HQ.out).2.1 (by have := HE.out.2; omega)).mono ?_; rintro e w7 ⟨v7, rfl, ⟨A7, c7, rfl, hR7⟩, hb7⟩; refine of_halt ?_))
        unfold G.Halt
        unfold entVal
        rw [World.size_alloc] at hR7
        have hlt := fun k (hk : (Value.slice Ao (entsTo m i).length co).ownBlock = some k) => Kd.R_lt HR.out.1 k hk
        have h17 := (below_alloc (Below.refl wr.heap.size wr) (.cells #[.int .u64 x.1, .int .i64 x.2.1, .int .i64 x.2.2.1, .slice A x.2.2.2.length c] 25)).trans (hb7.mono (by rw [World.size_alloc]; omega))
        have H7 := Aside0.mk (And.intro hR7 (And.intro h17 hlt))
        clear hR7 hb7 h17 hlt hget hc3
        go_wp2_with (first | ((with_reducible refine gate_builtin (b := .append) (xs := #[.tmp 26, .tmp 29]) rfl ?_); refine of_halt ?_))
        unfold Halt
        refine Kd.R_append entK (w0 := W) (W := w7) 0 rfl (.tmp 26) (.tmp 29) 44 25 zeroEnt 48 rfl Tryd.underlying44 infoEntB rfl (by decide) (by decide) (.slice Ao (entsTo m i).length co) (entsTo m i) x [.int .u64 x.1, .int .i64 x.2.1, .int .i64 x.2.2.1, .slice A7 x.2.2.2.length c7] (fun k => W.heap.size ≤ k) (fun k => wr.heap.size + 1 ≤ k) rfl rfl ⟨[.int .u64 x.1], _, rfl, rfl, [.int .i64 x.2.1], _, rfl, rfl, [.int .i64 x.2.2.1], _, rfl, rfl, ⟨_, rfl, H7.out.1⟩⟩ (fun k hk => ⟨by have := HR.out.2.size; omega, fun e => by have := H7.out.2.2 k e.symm; omega⟩) (fun k hk => Nat.le_trans (HR.out.2.trans (H7.out.2.1.mono HR.out.2.size)).size hk) (Kd.R_below HR.out.1 H7.out.2.1) (Below.mono (HR.out.2.trans (H7.out.2.1.mono HR.out.2.size)) (Nat.zero_le _)) (Nat.zero_le _) (by have := entsTo_len m i; have := HI.out; have := HN.out; omega) ?_
        intro v8 w8 ho8 hb8 hg8 hat8
        have H8 := Aside0.mk (And.intro ho8 ((HR.out.2.trans (H7.out.2.1.mono HR.out.2.size)).trans ((Kp.of_grown (F := fun k => W.heap.size ≤ k) hg8 (fun g hg => (HR.out.1.1 g hg))).below (B := W.heap.size) (HR.out.2.trans (H7.out.2.1.mono HR.out.2.size)).size (fun k hk hq => by omega))))
        clear ho8 hb8 hg8 hat8
        go_wp2
        go_roundg (gk - 1)
        case measure => have := HI.out; omega
        case rel => exact ⟨i + 1, by first | rw [w3_] | rfl | simp, ⟨by have := HI.out; obtain ⟨j, hj⟩ := HX.out; omega⟩, ⟨by rw [HE.out.1]; exact H8.out.1, H8.out.2⟩⟩
    · obtain rfl : i = ct := by have := HI.out; omega
      clear hi
      go_wp2
      go_ret
      exact ⟨_, rfl, HR.out⟩
end Go.Proofs.YtogapedacdnfcaaDoor.G
/- The cache: Open. By hand. -/
namespace Go.Proofs.YtogapedacdnfcaaDoor.G
open Go.RowKit Go.Shelf Go.Proofs.YtogapedacdnfcaaDoorW.PrintWords Go.Proofs.YtogapedacdnfcaaDoorW.PrintLast Go.Proofs.YtogapedacdnfcaaDoorW.PrintMore Go.Proofs.YtogapedacdnfcaaDoor.Dsk
set_option linter.unusedVariables false
set_option linter.unusedSimpArgs false
/-- What lies at a place. -/
def entAt (rd_ : List Int → Ent × Int) (d : Dk) (fr ct j : Nat) : Option Ent := if (rd_ (latest d (fr + j))).2 = 0 ∧ pl ct (rd_ (latest d (fr + j))).1.1 (rd_ (latest d (fr + j))).1.2.1 = j then some (rd_ (latest d (fr + j))).1 else none
def openTo (rd_ : List Int → Ent × Int) (d : Dk) (fr ct i : Nat) : Nat → Option Ent := fun j => if j < i then entAt rd_ d fr ct j else none
theorem openTo_some {rd_ : List Int → Ent × Int} {d : Dk} {fr ct i : Nat} {x : Ent} (h : entAt rd_ d fr ct i = some x) : openTo rd_ d fr ct (i + 1) = putM (openTo rd_ d fr ct i) i x := by
  funext j
  unfold openTo putM
  by_cases hj : j = i
  · subst hj; simp [h]
  · simp only [hj, if_false]
    by_cases hl : j < i
    · rw [if_pos hl, if_pos (by omega)]
    · rw [if_neg hl, if_neg (by omega)]
theorem openTo_none {rd_ : List Int → Ent × Int} {d : Dk} {fr ct i : Nat} (h : entAt rd_ d fr ct i = none) : openTo rd_ d fr ct (i + 1) = openTo rd_ d fr ct i := by
  funext j
  unfold openTo
  by_cases hj : j = i
  · subst hj; simp [h]
  · by_cases hl : j < i
    · rw [if_pos hl, if_pos (by omega)]
    · rw [if_neg hl, if_neg (by omega)]
/-- What Open leaves. -/
def OpenP (F : Nat → Prop) (gd fr ct : Nat) (d : Dk) (m : Nat → Option Ent) (W : World) (e : Ending) (w' : World) : Prop := ∃ gc bm H, e = .returned (.tuple #[.pointer (some ⟨gc, 0, none⟩), .int .i64 0]) ∧ CMem F H gc gd bm fr ct d m w' ∧ (∀ k, H k → W.heap.size ≤ k) ∧ Below W.heap.size W w'
set_option maxHeartbeats 8000000 in
set_option maxRecDepth 100000 in
theorem Open_c (rd_ : List Int → Ent × Int) (F : Nat → Prop) (gd fr ct : Nat) (d : Dk) (W : World) (h : Disk F gd d W) (hs : Small d) (hl : d.left = none) (h1 : 1 ≤ ct) (h2 : fr + ct ≤ d.lies.length) (h3 : d.lies.length ≤ 4096)
    (hrd : ∀ V, Below W.heap.size W V → ∀ i, i < ct → ∀ A c, Kd.C (Kd.int .u8) V A (latest d (fr + i)).length (latest d (fr + i)) → (latest d (fr + i)).length ≤ c → Calls Tryd.prog 12 #[.slice A (latest d (fr + i)).length c] V fun e w' => ∃ v0 : Value, e = .returned (.tuple #[.agg #[.int .u64 (rd_ (latest d (fr + i))).1.1, .int .i64 (rd_ (latest d (fr + i))).1.2.1, .int .i64 (rd_ (latest d (fr + i))).1.2.2.1, v0], .int .i64 (rd_ (latest d (fr + i))).2]) ∧ Kd.R (Kd.int .i64) 3 w' V.heap.size (fun _ => True) v0 (rd_ (latest d (fr + i))).1.2.2.2 ∧ Below V.heap.size V w')
    (hok : ∀ i, i < ct → (rd_ (latest d (fr + i))).2 = 0 → (0 ≤ (rd_ (latest d (fr + i))).1.1 ∧ (rd_ (latest d (fr + i))).1.1 < 18446744073709551616) ∧ -1 ≤ (rd_ (latest d (fr + i))).1.2.1 ∧ (rd_ (latest d (fr + i))).1.2.1 ≤ 1) :
    Calls Tryd.prog 20 #[.pointer (some ⟨gd, 0, none⟩), .int .i64 (fr : Int), .int .i64 (ct : Int)] W (OpenP F gd fr ct d (openTo rd_ d fr ct ct) W) := by
  have HD := Aside0.mk h
  have HS := Aside0.mk (And.intro hs hl)
  have HN := Aside0.mk (And.intro h1 (And.intro h2 h3))
  have HRD := Aside0.mk hrd
  have HOK := Aside0.mk hok
  have f0 : ((d.lies.length : Int) == 0) = false := by rw [beq_eq_false_iff_ne]; omega
  have f0' : ((d.lies.length : Int) = 0) = False := eq_false (by omega)
  have f1 : ((fr : Int) < 0) = False := eq_false (by omega)
  have f2 : ((ct : Int) < 1) = False := eq_false (by omega)
  have f3 : ((d.lies.length : Int) < (fr : Int)) = False := eq_false (by omega)
  have f3' : (d.lies.length < fr) = False := eq_false (by omega)
  have f2' : (ct < 1) = False := eq_false (by omega)
  have f2'' : (ct = 0) = False := eq_false (by omega)
  have f4 : wrap64 ((d.lies.length : Int) - (fr : Int)) = (d.lies.length : Int) - (fr : Int) := by unfold wrap64; omega
  have f5 : ((d.lies.length : Int) - (fr : Int) < (ct : Int)) = False := eq_false (by omega)
  have hb1 := below_alloc (below_alloc (Below.refl W.heap.size W) (.map #[] 0)) (.cells #[.pointer (some ⟨gd, 0, none⟩), .int .i64 (fr : Int), .int .i64 (ct : Int), .map (some W.heap.size)] 51)
  have hk1 := blk_new (W.alloc (.map #[] 0)) (.cells #[.pointer (some ⟨gd, 0, none⟩), .int .i64 (fr : Int), .int .i64 (ct : Int), .map (some W.heap.size)] 51)
  have hm1 := (MapAt.new W).below (below_alloc (Below.refl _ _) (.cells #[.pointer (some ⟨gd, 0, none⟩), .int .i64 (fr : Int), .int .i64 (ct : Int), .map (some W.heap.size)] 51))
  rw [World.size_alloc] at hk1
  have hC0 : CMem F (fun k => k = W.heap.size ∨ k = W.heap.size + 1) (W.heap.size + 1) gd W.heap.size fr ct d (openTo rd_ d fr ct 0) ((W.alloc (.map #[] 0)).alloc (.cells #[.pointer (some ⟨gd, 0, none⟩), .int .i64 (fr : Int), .int .i64 (ct : Int), .map (some W.heap.size)] 51)) :=
    ⟨h.below hb1, hk1, ⟨_, hm1, fun i => .inl ⟨by simp [openTo], rfl⟩⟩, .inr rfl, .inl rfl, by omega, fun k hk hq => by have := h.2 k hk; omega, fun k hk => by rw [World.size_alloc, World.size_alloc]; omega⟩
  have HC0 := Aside0.mk (And.intro hC0 hb1)
  clear h hs hl h1 h2 h3 hrd hok hb1 hk1 hm1 hC0
  have hmm := @run_makeMap Tryd.prog
  go_enter Tryd.func20, Tryd.ntmps20
  go_wp2_with (first | (go_at_call 22; refine (Sectors_c F gd d W HD.out).mono ?_; rintro e w1 ⟨rfl, hw1⟩; refine of_halt ?_))
  unfold G.Halt
  obtain rfl := hw1.symm
  go_wp2
  clear hmm f0 f0' f1 f2 f3 f3' f2' f2'' f4 f5
  go_loopg [46] (ct + 1) (fun kq v46 w' => ∃ i : Nat, v46 = .int .i64 (i : Int) ∧ Aside0 (i ≤ ct ∧ kq + i = ct + 1) ∧ Aside0 (∃ H, CMem F H (W.heap.size + 1) gd W.heap.size fr ct d (openTo rd_ d fr ct i) w' ∧ (∀ k, H k → W.heap.size ≤ k) ∧ Below W.heap.size W w'))
  case atStart => exact ⟨0, rfl, ⟨by omega⟩, ⟨_, HC0.out.1, fun k hk => by omega, HC0.out.2⟩⟩
  case round =>
    clear HC0
    obtain ⟨i, rfl, HI, HR⟩ := hrel
    obtain ⟨H, hC, hH, hB⟩ := HR.out
    have HC := Aside0.mk (And.intro hC (And.intro hH hB))
    clear HR hC hH hB
    by_cases hi : i < ct
    · have e1 : ((i : Int) < (ct : Int)) = True := eq_true (by omega)
      have e2 : (i < ct) = True := eq_true hi
      have w3_ : wrap64 ((i : Int) + 1) = ((i + 1 : Nat) : Int) := by have := HN.out; unfold wrap64; omega
      have w4_ : wrap64 ((fr : Int) + (i : Int)) = (fr : Int) + (i : Int) := by have := HN.out; unfold wrap64; omega
      have HX := Aside0.mk (show ∃ j, i + 1 + j = ct from ⟨ct - (i + 1), by omega⟩)
      have hread : Dsk.read d ((fr : Int) + (i : Int)) = (latest d (fr + i), 0) := by
        have := HN.out
        unfold Dsk.read
        rw [show isS d ((fr : Int) + (i : Int)) = true from decide_eq_true (by omega), if_neg (by simp), show down d = false by unfold down; rw [HS.out.2]; rfl, if_neg (by simp), show ((fr : Int) + (i : Int)).toNat = fr + i by omega]
      have HRE := Aside0.mk hread
      have HI2 := Aside0.mk (And.intro (HRD.out) (HOK.out i hi))
      have HIL := Aside0.mk hi
      clear hi hread
      go_wp2_with (first | (go_at_call 43; refine (Read_c F gd d ((fr : Int) + (i : Int)) wr HC.out.1.disk HS.out.1).mono ?_; rintro e w2 ⟨v2, rfl, hR2, hb2⟩; refine of_halt ?_))
      unfold G.Halt
      rw [HRE.out] at hR2
      try rw [HRE.out]
      have hR2 : Kd.R (Kd.int .u8) 5 w2 wr.heap.size (fun _ => True) v2 (latest d (fr + i)) := hR2
      obtain ⟨A2, c2, rfl⟩ := Kd.R_slice hR2
      have H2 := Aside0.mk (And.intro hR2 (And.intro (HC.out.1.below hb2) (HC.out.2.2.trans (hb2.mono HC.out.2.2.size))))
      clear hR2 hb2
      go_wp2_with (first | (go_at_call 12; refine (HRD.out w2 H2.out.2.2 i HIL.out A2 c2 (Kd.R_reads' H2.out.1).2.2 (Kd.R_reads' H2.out.1).2.1).mono ?_; rintro e w3 ⟨v3, rfl, hR3, hb3⟩; refine of_halt ?_))
      unfold G.Halt
      obtain ⟨⟨x, er⟩, hx⟩ : ∃ r, rd_ (latest d (fr + i)) = r := ⟨_, rfl⟩
      rw [hx] at hR3
      try rw [hx]
      have hR3 : Kd.R (Kd.int .i64) 3 w3 w2.heap.size (fun _ => True) v3 x.2.2.2 := hR3
      obtain ⟨A3, c3, rfl⟩ := Kd.R_slice hR3
      have H3 := Aside0.mk (And.intro hR3 (And.intro (H2.out.2.1.below hb3) (And.intro (H2.out.2.2.trans (hb3.mono H2.out.2.2.size)) (show w2.heap.size ≤ w3.heap.size from hb3.size))))
      have hok := HI2.out.2
      rw [hx] at hok
      have hEA : entAt rd_ d fr ct i = if er = 0 ∧ pl ct x.1 x.2.1 = i then some x else none := by unfold entAt; rw [hx]
      have HEA := Aside0.mk (And.intro hEA hok)
      clear hR3 hb3 hx hok hEA
      have hbX := below_alloc (Below.refl w3.heap.size w3) (.cells #[.int .u64 x.1, .int .i64 x.2.1, .int .i64 x.2.2.1, .slice A3 x.2.2.2.length c3] 25)
      have hkX := blk_new w3 (.cells #[.int .u64 x.1, .int .i64 x.2.1, .int .i64 x.2.2.1, .slice A3 x.2.2.2.length c3] 25)
      have HBX := Aside0.mk (And.intro hbX hkX)
      clear hbX hkX
      by_cases he : er = 0
      · subst he
        obtain ⟨hkr, har⟩ := HEA.out.2 rfl
        have HKR := Aside0.mk (And.intro hkr har)
        obtain ⟨p, hp⟩ : ∃ p, pl ct x.1 x.2.1 = p := ⟨_, rfl⟩
        have HP := Aside0.mk hp
        clear hkr har hp
        go_wp2_with (first | (go_at_call 38; refine (place_i (W.heap.size + 1) ct p x.1 x.2.1 _ HP.out (fun V hV => ((H3.out.2.1.below HBX.out.1).below hV).cells.2.2.1) HN.out.1 (by have := HN.out; omega) HKR.out.1 HKR.out.2).mono ?_; rintro e w5 ⟨rfl, hb5⟩; refine of_halt ?_))
        unfold G.Halt
        have hk5 := (hb5.block _ (blk_lt HBX.out.2)).trans HBX.out.2
        have hb35 := HBX.out.1.trans (hb5.mono HBX.out.1.size)
        have H5 := Aside0.mk (And.intro (H3.out.2.1.below hb35) (And.intro hk5 (And.intro hb35 (H3.out.2.2.1.trans (hb35.mono H3.out.2.2.1.size)))))
        clear hb5 hk5 hb35
        by_cases hpi : p = i
        · subst hpi
          have HEN := Aside0.mk (show entAt rd_ d fr ct p = some x by rw [HEA.out.1, if_pos ⟨by trivial, HP.out⟩])
          have hC15 := (H5.out.1.below (below_drew (Below.refl _ _))).cells.2.2.2
          obtain ⟨t0, t1, t2, t3, _⟩ := cells4 (blk_drew H5.out.2.1)
          obtain ⟨W7, hrun7, hm7, hg7⟩ := map_put_all (P := Tryd.prog) Tryd.underlying49 Tryd.underlying3 (H5.out.1.below (below_drew (Below.refl w5.heap.size w5))) (p : Int) (.agg #[.int .u64 x.1, .int .i64 x.2.1, .int .i64 x.2.2.1, .slice A3 x.2.2.2.length c3])
          have hput := (H5.out.1.below (below_drew (Below.refl w5.heap.size w5))).put w2.heap.size x (.agg #[.int .u64 x.1, .int .i64 x.2.1, .int .i64 x.2.2.1, .slice A3 x.2.2.2.length c3]) p (fun k hk => H2.out.2.1.lt k hk) (fun k hk => H2.out.2.1.disk.2 k hk) ⟨A3, c3, rfl, Kd.R_mono (Kd.R_bound (Kd.R_lower (Kd.R_tight rfl (Kd.R_below H3.out.1 (H5.out.2.2.1.trans (Below.mono (below_drew (Below.refl w5.heap.size w5)) H5.out.2.2.1.size)))) (Nat.zero_le _))) (fun k hk => ⟨Kd.R_base H3.out.1 k hk.1.symm, hk.2.2.1⟩)⟩ hg7 hm7
          rw [← openTo_some HEN.out] at hput
          have hb7 : Below W.heap.size W W7 := H5.out.2.2.2.trans ((Below.mono (below_drew (Below.refl w5.heap.size w5)) H5.out.2.2.2.size).trans ((Kp.of_grown (F := fun k => k = W.heap.size) hg7 (fun g hg => by injection hg with hg; exact hg.symm)).below (B := W.heap.size) H5.out.2.2.2.size (fun k hk hq => by omega)))
          have HPUT := Aside0.mk (And.intro hput hb7)
          have HSZ := Aside0.mk H2.out.2.2.size
          clear hput hb7 hm7 hg7
          go_upto_region 15 with (fail)
          refine start_ (n := 7) (S := fun w' => w'.cell? ⟨W.heap.size + 1, 3, none⟩ = some (.map (some W.heap.size)) ∧ w'.cell? ⟨w3.heap.size, 0, none⟩ = some (.int .u64 x.1) ∧ w'.cell? ⟨w3.heap.size, 1, none⟩ = some (.int .i64 x.2.1) ∧ w'.cell? ⟨w3.heap.size, 2, none⟩ = some (.int .i64 x.2.2.1) ∧ w'.cell? ⟨w3.heap.size, 3, none⟩ = some (.slice A3 x.2.2.2.length c3)) (ds := [6]) #[false, false, false, false, false, false, false] (by kernel_rfl) rfl rfl ⟨hC15, t0, t1, t2, t3⟩ (fun hHeld => ?_)
          refine pure_ (i := 0) (N := some 77) (v := ?_) (a' := ?_) #[true, false, false, false, false, false, false] rfl rfl (by kernel_rfl) (fun _ _ _ h => h) (Or.inl ⟨by rfl, ?_⟩) ?_ ?_
          rotate_left
          · intro w'
            go_simp
            with_reducible rfl
          rotate_left
          · simp only [Act.put, List.setIfInBounds_toArray, List.set_cons_zero, List.set_cons_succ, i64_w, i32_w]
            rfl
          refine pure_ (i := 1) (N := some 78) (v := ?_) (a' := ?_) #[true, true, false, false, false, false, false] rfl rfl (by kernel_rfl) (fun _ _ _ h => h) (Or.inl ⟨by rfl, ?_⟩) ?_ ?_
          rotate_left
          · intro w'
            go_simp
            with_reducible rfl
          rotate_left
          · simp only [Act.put, List.setIfInBounds_toArray, List.set_cons_zero, List.set_cons_succ, i64_w, i32_w]
            rfl
          refine pure_ (i := 2) (N := some 79) (v := ?_) (a' := ?_) #[true, true, true, false, false, false, false] rfl rfl (by kernel_rfl) (fun _ _ _ h => h) (Or.inl ⟨by rfl, ?_⟩) ?_ ?_
          rotate_left
          · intro w'
            go_simp
            with_reducible rfl
          rotate_left
          · simp only [Act.put, List.setIfInBounds_toArray, List.set_cons_zero, List.set_cons_succ, i64_w, i32_w]
            rfl
          refine pure_ (i := 4) (N := some 81) (v := ?_) (a' := ?_) #[true, true, true, false, true, false, false] rfl rfl (by kernel_rfl) (fun _ _ _ h => h) (Or.inl ⟨by rfl, ?_⟩) ?_ ?_
          rotate_left
          · intro w'
            go_simp
            with_reducible rfl
          rotate_left
          · simp only [Act.put, List.setIfInBounds_toArray, List.set_cons_zero, List.set_cons_succ, i64_w, i32_w]
            rfl
          refine take_ (i := 3) (N := some 80) (v := ?_) (a' := ?_) #[true, true, true, true, true, false, false] rfl rfl (by kernel_rfl) (fun _ _ _ h => h) (Or.inl ⟨by rfl, ?_⟩) hHeld ?_ ?_
          rotate_left
          · rintro w' ⟨s0, s1, s2, s3, s4⟩
            go_simp
            with_reducible rfl
          rotate_left
          · simp only [Act.put, List.setIfInBounds_toArray, List.set_cons_zero, List.set_cons_succ, i64_w, i32_w]
            rfl
          refine take_ (i := 5) (N := some 82) (v := ?_) (a' := ?_) #[true, true, true, true, true, true, false] rfl rfl (by kernel_rfl) (fun _ _ _ h => h) (Or.inl ⟨by rfl, ?_⟩) hHeld ?_ ?_
          rotate_left
          · rintro w' ⟨s0, s1, s2, s3, s4⟩
            go_simp
            with_reducible rfl
          rotate_left
          · simp only [Act.put, List.setIfInBounds_toArray, List.set_cons_zero, List.set_cons_succ, i64_w, i32_w]
            rfl
          refine last_ (i := 6) (N := none) #[true, true, true, true, true, true, true] rfl rfl (by kernel_rfl) (by decide) (fun K hK => ?_)
          refine skip_ (by rfl) rfl (exec_mapUpdate 49 _ _ _ (.map (some W.heap.size)) (.int .i64 (p : Int)) (.agg #[.int .u64 x.1, .int .i64 x.2.1, .int .i64 x.2.2.1, .slice A3 x.2.2.2.length c3]) rfl (by rfl) (by rfl) (by rfl) hrun7) ?_
          refine hK.out _ _ ?_
          clear hK K
          refine done_ (by kernel_rfl) ?_
          clear hC15 t0 t1 t2 t3 hrun7
          go_wp2
          go_roundg (gk - 1)
          case measure => have := HI.out; omega
          case rel => exact ⟨p + 1, by first | rw [w3_] | rfl | simp, ⟨by have := HI.out; obtain ⟨j, hj⟩ := HX.out; omega⟩, ⟨_, HPUT.out.1, fun k hk => hk.elim (HC.out.2.1 k) (fun q => Nat.le_trans HSZ.out q.1), HPUT.out.2⟩⟩
        · have HEN := Aside0.mk (show entAt rd_ d fr ct i = none by rw [HEA.out.1, if_neg (fun q => hpi (HP.out.symm.trans q.2))])
          have g1 : ((p : Int) == (i : Int)) = false := by rw [beq_eq_false_iff_ne]; omega
          have g2 : (p = i) = False := eq_false hpi
          clear hpi
          go_wp2
          go_roundg (gk - 1)
          case measure => have := HI.out; omega
          case rel => exact ⟨i + 1, by first | rw [w3_] | rfl | simp, ⟨by have := HI.out; obtain ⟨j, hj⟩ := HX.out; omega⟩, ⟨H, by rw [openTo_none HEN.out]; exact H5.out.1, HC.out.2.1, H5.out.2.2.2⟩⟩
      · have HEN := Aside0.mk (show entAt rd_ d fr ct i = none by rw [HEA.out.1, if_neg (fun q => he q.1)])
        have g1 : (er == 0) = false := by rw [beq_eq_false_iff_ne]; exact he
        have g2 : (er = 0) = False := eq_false he
        clear he
        go_wp2
        go_roundg (gk - 1)
        case measure => have := HI.out; omega
        case rel => exact ⟨i + 1, by first | rw [w3_] | rfl | simp, ⟨by have := HI.out; obtain ⟨j, hj⟩ := HX.out; omega⟩, ⟨H, by rw [openTo_none HEN.out]; exact H3.out.2.1.below HBX.out.1, HC.out.2.1, H3.out.2.2.1.trans (HBX.out.1.mono H3.out.2.2.1.size)⟩⟩
    · obtain rfl : i = ct := by have := HI.out; omega
      clear hi
      go_wp2
      go_ret2
      exact ⟨_, _, H, rfl, HC.out⟩
end Go.Proofs.YtogapedacdnfcaaDoor.G
/- Chapter 25: opened, a cache on a disk of its own. By hand. -/
namespace Go.Proofs.YtogapedacdnfcaaDoor.G
open Go.RowKit Go.Shelf Go.Proofs.YtogapedacdnfcaaDoorW.PrintWords Go.Proofs.YtogapedacdnfcaaDoorW.PrintLast Go.Proofs.YtogapedacdnfcaaDoorW.PrintMore Go.Proofs.YtogapedacdnfcaaDoor.Dsk
set_option linter.unusedVariables false
set_option linter.unusedSimpArgs false
theorem latest_new (n j : Nat) (h : j < n) : latest (new n) j = zeros 64 := by
  unfold latest new
  simp [List.getD_eq_getElem?_getD, List.getElem?_replicate, h]
theorem openTo_zero (rd_ : List Int → Ent × Int) (n fr ct i : Nat) (h0 : (rd_ (zeros 64)).2 ≠ 0) (h : fr + ct ≤ n) (hi : i ≤ ct) : openTo rd_ (new n) fr ct i = fun _ => none := by
  funext j
  unfold openTo entAt
  by_cases hj : j < i
  · rw [if_pos hj, latest_new n (fr + j) (by omega), if_neg (fun q => h0 q.1)]
  · rw [if_neg hj]
/-- How a sector is read. -/
def RdOk (rd_ : List Int → Ent × Int) (W : World) (P : List Int → Prop) : Prop := ∀ V, Below W.heap.size W V → ∀ l, P l → ∀ A c, Kd.C (Kd.int .u8) V A l.length l → l.length ≤ c → Calls Tryd.prog 12 #[.slice A l.length c] V fun e w' => ∃ v0 : Value, e = .returned (.tuple #[.agg #[.int .u64 (rd_ l).1.1, .int .i64 (rd_ l).1.2.1, .int .i64 (rd_ l).1.2.2.1, v0], .int .i64 (rd_ l).2]) ∧ Kd.R (Kd.int .i64) 3 w' V.heap.size (fun _ => True) v0 (rd_ l).1.2.2.2 ∧ Below V.heap.size V w'
theorem RdOk.below {rd_ : List Int → Ent × Int} {W W' : World} {P : List Int → Prop} (h : RdOk rd_ W P) (hb : Below W.heap.size W W') : RdOk rd_ W' P := fun V hV => h V (hb.trans (hV.mono hb.size))
def OpdP (ct : Nat) (W : World) (e : Ending) (w' : World) : Prop := ∃ gd gc bm F H, e = .returned (.tuple #[.pointer (some ⟨gd, 0, none⟩), .pointer (some ⟨gc, 0, none⟩)]) ∧ CMem F H gc gd bm 1 ct (new (ct + 2)) (fun _ => none) w' ∧ (∀ k, F k ∨ H k → W.heap.size ≤ k) ∧ Below W.heap.size W w'
set_option maxHeartbeats 8000000 in
set_option maxRecDepth 100000 in
theorem opened_c (rd_ : List Int → Ent × Int) (ct : Nat) (W : World) (h1 : 1 ≤ ct) (h2 : ct ≤ 100) (hr : RdOk rd_ W (fun l => l = zeros 64)) (h0 : (rd_ (zeros 64)).2 ≠ 0) :
    Calls Tryd.prog 21 #[.int .i64 (ct : Int)] W (OpdP ct W) := by
  have HN := Aside0.mk (And.intro h1 (And.intro h2 h0))
  have HR := Aside0.mk hr
  have hw : wrap64 ((ct : Int) + 2) = (ct : Int) + 2 := by unfold wrap64; omega
  have htn : ((ct : Int) + 2).toNat = ct + 2 := by omega
  have HTN := Aside0.mk htn
  clear h1 h2 hr h0 htn
  go_enter Tryd.func21, Tryd.ntmps21
  go_wp2_with (first | (go_at_call 25; refine (New_c ((ct : Int) + 2) W (by have := HN.out; omega) (by have := HN.out; omega)).mono ?_; rintro e w1 ⟨gd, F, rfl, hD, hF, hb⟩; refine of_halt ?_))
  unfold G.Halt
  rw [HTN.out] at hD
  have HD := Aside0.mk (And.intro hD (And.intro hF hb))
  have hlen : (new (ct + 2)).lies.length = ct + 2 := by simp [new]
  have HLN := Aside0.mk hlen
  clear hD hF hb hw hlen
  go_wp2_with (first | (go_at_call 20; refine (Open_c rd_ F gd 1 ct (new (ct + 2)) w1 HD.out.1 ⟨by simp [new], by simp [new], by simp [new], by rw [HLN.out]; have := HN.out; omega⟩ rfl HN.out.1 (by rw [HLN.out]; omega) (by rw [HLN.out]; have := HN.out; omega) (fun V hV i hi A c hC hc => by rw [latest_new (ct + 2) (1 + i) (by omega)] at hC hc ⊢; exact HR.out V (HD.out.2.2.trans (hV.mono HD.out.2.2.size)) _ rfl A c hC hc) (fun i hi he => by rw [latest_new (ct + 2) (1 + i) (by omega)] at he; exact absurd he HN.out.2.2)).mono ?_; rintro e w2 ⟨gc, bm, H, rfl, hC, hH, hb⟩; refine of_halt ?_))
  unfold G.Halt
  have hC2 : CMem F H gc gd bm 1 ct (new (ct + 2)) (fun _ => none) w2 := by rw [← openTo_zero rd_ (ct + 2) 1 ct ct HN.out.2.2 (by omega) (Nat.le_refl _)]; exact hC
  have HC := Aside0.mk (And.intro hC2 (And.intro hH (HD.out.2.2.trans (hb.mono HD.out.2.2.size))))
  clear hC hC2 hH hb
  go_wp2
  go_ret2
  exact ⟨gd, gc, bm, F, H, rfl, HC.out.1, fun k hk => hk.elim (HD.out.2.1 k) (fun q => Nat.le_trans HD.out.2.2.size (HC.out.2.1 k q)), HC.out.2.2⟩
end Go.Proofs.YtogapedacdnfcaaDoor.G
/- CacheKeeps in plain Lean: what the rounds keep; what is opened behind a flush and a crash. -/
namespace Go.Proofs.YtogapedacdnfcaaDoor.G
open Go.RowKit Go.Proofs.YtogapedacdnfcaaDoor.Dsk
set_option linter.unusedVariables false
theorem pl_lt (ct : Nat) (key asked : Int) (h : 1 ≤ ct) : pl ct key asked < ct := by
  unfold pl
  have h1 := Int.emod_lt_of_pos (key % ct + asked + 1) (show (0 : Int) < ct by omega)
  have h2 := Int.emod_nonneg (key % ct + asked + 1) (show (ct : Int) ≠ 0 by omega)
  omega
structure Kp5 (es : Ent → List Int) (ok : Ent → Prop) (l : List Ent) (ct i : Nat) (last : List Nat) (m : Nat → Option Ent) (d : Dk) : Prop where
  len : last.length = ct
  at_ : ∀ p, p < ct → (last.getD p 0 = 0 ∧ m p = none ∧ latest d (1 + p) = zeros 64) ∨ ∃ k x, last.getD p 0 = k + 1 ∧ k < i ∧ l[k]? = some x ∧ ok x ∧ pl ct x.1 x.2.1 = p ∧ m p = some x ∧ latest d (1 + p) = es x
  out : ∀ p, ct ≤ p → m p = none
  lies : d.lies.length = ct + 2
  left : d.left = none
  steps : d.steps ≤ i
  waits : d.waits.length ≤ i
theorem Kp5.start (es : Ent → List Int) (ok : Ent → Prop) (l : List Ent) (ct : Nat) : Kp5 es ok l ct 0 (List.replicate ct 0) (fun _ => none) (new (ct + 2)) :=
  ⟨by simp, fun p hp => .inl ⟨by simp [List.getD_eq_getElem?_getD, hp], rfl, latest_new (ct + 2) (1 + p) (by omega)⟩, fun p _ => rfl, by simp [new], rfl, Nat.le_refl _, Nat.le_refl _⟩
theorem Kp5.skip {es : Ent → List Int} {ok : Ent → Prop} {l : List Ent} {ct i : Nat} {last : List Nat} {m : Nat → Option Ent} {d : Dk} (h : Kp5 es ok l ct i last m d) : Kp5 es ok l ct (i + 1) last m d :=
  ⟨h.len, fun p hp => (h.at_ p hp).imp id (fun ⟨k, x, a, b, c⟩ => ⟨k, x, a, by omega, c⟩), h.out, h.lies, h.left, by have := h.steps; omega, by have := h.waits; omega⟩
theorem Kp5.isS {es : Ent → List Int} {ok : Ent → Prop} {l : List Ent} {ct i : Nat} {last : List Nat} {m : Nat → Option Ent} {d : Dk} (h : Kp5 es ok l ct i last m d) (p : Nat) (hp : p < ct) : Dsk.isS d ((1 : Int) + (p : Int)) = true := decide_eq_true (by rw [h.lies]; omega)
theorem Kp5.down {es : Ent → List Int} {ok : Ent → Prop} {l : List Ent} {ct i : Nat} {last : List Nat} {m : Nat → Option Ent} {d : Dk} (h : Kp5 es ok l ct i last m d) : Dsk.down d = false := by unfold Dsk.down; rw [h.left]; rfl
theorem Kp5.put {es : Ent → List Int} {ok : Ent → Prop} {l : List Ent} {ct i : Nat} {last : List Nat} {m : Nat → Option Ent} {d : Dk} (h : Kp5 es ok l ct i last m d) (hc : 1 ≤ ct) (x : Ent) (hx : l[i]? = some x) (hok : ok x) (hes : (es x).length = 64) :
    (Dsk.write d ((1 : Int) + (pl ct x.1 x.2.1 : Nat)) (es x)).2 = 0 ∧ Kp5 es ok l ct (i + 1) (last.set (pl ct x.1 x.2.1) (i + 1)) (putM m (pl ct x.1 x.2.1) x) (Dsk.write d ((1 : Int) + (pl ct x.1 x.2.1 : Nat)) (es x)).1 := by
  have hp := pl_lt ct x.1 x.2.1 hc
  obtain ⟨q, hq⟩ : ∃ q, pl ct x.1 x.2.1 = q := ⟨_, rfl⟩
  rw [hq] at hp ⊢
  have hS := h.isS q hp
  have hlt := latest_write ((1 : Int) + (q : Int)) (es x) hS hes h.down
  have hw : Dsk.write d ((1 : Int) + (q : Int)) (es x) = (stepped ⟨d.lies, d.waits ++ [(((1 : Int) + (q : Int)).toNat, es x)], d.steps, d.left⟩, 0) := by
    unfold Dsk.write
    rw [hS, if_neg (by simp), if_neg (by simp [hes]), h.down, if_neg (by simp)]
  refine ⟨by rw [hw], ⟨by rw [List.length_set]; exact h.len, fun p hpc => ?_, fun p hpc => ?_, by rw [hw]; exact h.lies, by rw [hw]; show d.left.map _ = none; rw [h.left]; rfl, by rw [hw]; show d.steps + 1 ≤ _; have := h.steps; omega, by rw [hw]; show (d.waits ++ [_]).length ≤ _; rw [List.length_append]; show _ + 1 ≤ _; have := h.waits; omega⟩⟩
  · by_cases e : p = q
    · subst e
      refine .inr ⟨i, x, ?_, by omega, hx, hok, hq, by simp [putM], ?_⟩
      · rw [List.getD_eq_getElem?_getD, List.getElem?_set_self (by rw [h.len]; exact hpc)]; rfl
      · rw [hlt, if_pos (by omega)]
    · have e1 : (last.set q (i + 1)).getD p 0 = last.getD p 0 := by rw [List.getD_eq_getElem?_getD, List.getD_eq_getElem?_getD, List.getElem?_set_ne (fun z => e z.symm)]
      have e2 : putM m q x p = m p := by simp [putM, e]
      rw [e1, e2, hlt, if_neg (by omega)]
      exact (h.at_ p hpc).imp id (fun ⟨k, y, a, b, c⟩ => ⟨k, y, a, by omega, c⟩)
  · have : ¬ p = q := by omega
    simp [putM, this, h.out p hpc]
/-- What is opened behind a flush and a crash. -/
theorem Kp5.reopen {es : Ent → List Int} {ok : Ent → Prop} {l : List Ent} {ct i : Nat} {last : List Nat} {m : Nat → Option Ent} {d d' : Dk} (h : Kp5 es ok l ct i last m d) (rd_ : List Int → Ent × Int) (h0 : (rd_ (zeros 64)).2 ≠ 0) (he : ∀ x, ok x → rd_ (es x) = (x, 0)) (hd : ∀ j, j < d.lies.length → latest d' j = latest d j) : openTo rd_ d' 1 ct ct = m := by
  funext p
  unfold openTo entAt
  by_cases hp : p < ct
  · rw [if_pos hp, hd (1 + p) (by rw [h.lies]; omega)]
    rcases h.at_ p hp with ⟨_, h2, h3⟩ | ⟨k, x, _, _, _, h4, h5, h6, h7⟩
    · rw [h3, if_neg (fun q => h0 q.1), h2]
    · rw [h7, he x h4, if_pos ⟨rfl, h5⟩, h6]
  · rw [if_neg hp, h.out p (by omega)]
/-- How many are told. -/
theorem Kp5.count {es : Ent → List Int} {ok : Ent → Prop} {l : List Ent} {ct i : Nat} {last : List Nat} {m : Nat → Option Ent} {d : Dk} (h : Kp5 es ok l ct i last m d) (p : Nat) (hp : p < ct) : (last.getD p 0 = 0 → entsTo m (p + 1) = entsTo m p) ∧ (last.getD p 0 ≠ 0 → (entsTo m (p + 1)).length = (entsTo m p).length + 1) := by
  rcases h.at_ p hp with ⟨h1, h2, _⟩ | ⟨k, x, h1, _, _, _, _, h6, _⟩
  · exact ⟨fun _ => entsTo_none h2, fun q => absurd h1 q⟩
  · exact ⟨fun q => by omega, fun _ => by rw [entsTo_some h6, List.length_append]; rfl⟩
theorem getM_put (m : Nat → Option Ent) (i : Nat) (x : Ent) : getM (putM m i x) i x.1 x.2.1 = some x := by
  unfold getM putM
  simp
end Go.Proofs.YtogapedacdnfcaaDoor.G
/- CacheKeeps: two caches, apart. -/
namespace Go.Proofs.YtogapedacdnfcaaDoor.G
open Go.RowKit Go.Shelf Go.Proofs.YtogapedacdnfcaaDoorW.PrintWords Go.Proofs.YtogapedacdnfcaaDoorW.PrintLast Go.Proofs.YtogapedacdnfcaaDoorW.PrintMore Go.Proofs.YtogapedacdnfcaaDoor.Dsk
set_option linter.unusedVariables false
set_option linter.unusedSimpArgs false
/-- A cache somewhere, all its blocks within S. -/
def CIn (S : Nat → Prop) (gc gd fr ct : Nat) (d : Dk) (m : Nat → Option Ent) (W : World) : Prop := ∃ F H bm, CMem F H gc gd bm fr ct d m W ∧ (∀ k, F k ∨ H k → S k) ∧ ∀ k, S k → k < W.heap.size
theorem CIn.below {S : Nat → Prop} {gc gd fr ct : Nat} {d : Dk} {m : Nat → Option Ent} {W W' : World} (h : CIn S gc gd fr ct d m W) (hb : Below W.heap.size W W') : CIn S gc gd fr ct d m W' := by
  obtain ⟨F, H, bm, h1, h2, h3⟩ := h
  exact ⟨F, H, bm, h1.below hb, h2, fun k hk => Nat.lt_of_lt_of_le (h3 k hk) hb.size⟩
theorem CIn.kp {S T : Nat → Prop} {gc gd fr ct : Nat} {d : Dk} {m : Nat → Option Ent} {W W' : World} (h : CIn S gc gd fr ct d m W) (hk : Kp T W W') (hd : ∀ k, S k → ¬ T k) : CIn S gc gd fr ct d m W' := by
  obtain ⟨F, H, bm, h1, h2, h3⟩ := h
  exact ⟨F, H, bm, h1.kp hk (fun k q => hd k (h2 k q)), h2, fun k hk' => Nat.lt_of_lt_of_le (h3 k hk') hk.size⟩
/-- Two caches, apart, beyond a world's first blocks. -/
structure TwoC (w : World) (S T : Nat → Prop) (g5 e5 g1 e1 : Nat) (d5 d1 : Dk) (m5 m1 : Nat → Option Ent) (W : World) : Prop where
  c5 : CIn S g5 e5 1 5 d5 m5 W
  c1 : CIn T g1 e1 1 1 d1 m1 W
  fr : Fr w W
  s : ∀ k, S k → w.heap.size ≤ k ∧ ¬ T k
  t : ∀ k, T k → w.heap.size ≤ k
theorem TwoC.below {w W W' : World} {S T : Nat → Prop} {g5 e5 g1 e1 : Nat} {d5 d1 : Dk} {m5 m1 : Nat → Option Ent} (h : TwoC w S T g5 e5 g1 e1 d5 d1 m5 m1 W) (hb : Below W.heap.size W W') : TwoC w S T g5 e5 g1 e1 d5 d1 m5 m1 W' :=
  ⟨h.c5.below hb, h.c1.below hb, h.fr.then_below hb, h.s, h.t⟩
theorem CIn.of_put {S F H : Nat → Prop} {gc gd bm fr ct : Nat} {d : Dk} {m : Nat → Option Ent} {c : Int} {W : World} {e : Ending} {w' : World} (h : ∀ k, F k ∨ H k → S k) (hp : PutP F H gc gd bm fr ct d m c W e w') (hS : ∀ k, S k → k < W.heap.size) :
    e = .returned (.int .i64 c) ∧ ∃ S', CIn S' gc gd fr ct d m w' ∧ (∀ k, S' k → S k ∨ W.heap.size ≤ k) ∧ Kp S W w' := by
  obtain ⟨he, F', H', hC, hF, hH, hK⟩ := hp
  refine ⟨he, fun k => F' k ∨ H' k, ⟨F', H', bm, hC, fun k hk => hk, fun k hk => hk.elim (hC.disk.2 k) (hC.lt k)⟩, fun k hk => ?_, hK.mono (fun q _ hq => h q hq)⟩
  rcases hk with q | q
  · exact (hF k q).imp (fun z => h k (.inl z)) id
  · exact (hH k q).imp (fun z => h k (.inr z)) id
theorem TwoC.put5 {w W w' : World} {S S' T : Nat → Prop} {g5 e5 g1 e1 : Nat} {d5 d5' d1 : Dk} {m5 m5' m1 : Nat → Option Ent} (h : TwoC w S T g5 e5 g1 e1 d5 d1 m5 m1 W) (hC : CIn S' g5 e5 1 5 d5' m5' w') (hS : ∀ k, S' k → S k ∨ W.heap.size ≤ k) (hK : Kp S W w') : TwoC w S' T g5 e5 g1 e1 d5' d1 m5' m1 w' := by
  obtain ⟨F, H, bm, q1, q2, q3⟩ := h.c1
  exact ⟨hC, h.c1.kp hK (fun k ht hs => (h.s k hs).2 ht), h.fr.then_kp hK (fun k hk => (h.s k hk).1), fun k hk => (hS k hk).elim (h.s k) (fun z => ⟨Nat.le_trans h.fr.size z, fun ht => by have := q3 k ht; omega⟩), h.t⟩
theorem TwoC.put1 {w W w' : World} {S T T' : Nat → Prop} {g5 e5 g1 e1 : Nat} {d5 d1 d1' : Dk} {m5 m1 m1' : Nat → Option Ent} (h : TwoC w S T g5 e5 g1 e1 d5 d1 m5 m1 W) (hC : CIn T' g1 e1 1 1 d1' m1' w') (hT : ∀ k, T' k → T k ∨ W.heap.size ≤ k) (hK : Kp T W w') : TwoC w S T' g5 e5 g1 e1 d5 d1' m5 m1' w' := by
  obtain ⟨F, H, bm, q1, q2, q3⟩ := h.c5
  exact ⟨h.c5.kp hK (fun k hs ht => (h.s k hs).2 ht), hC, h.fr.then_kp hK h.t, fun k hk => ⟨(h.s k hk).1, fun ht => (hT k ht).elim (h.s k hk).2 (fun z => by have := q3 k hk; omega)⟩, fun k hk => (hT k hk).elim (h.t k) (fun z => Nat.le_trans h.fr.size z)⟩
end Go.Proofs.YtogapedacdnfcaaDoor.G
/- Entries in a row that is read: four cells each. -/
namespace Go.Proofs.YtogapedacdnfcaaDoor.G
open Go.RowKit Go.Shelf Go.Proofs.YtogapedacdnfcaaDoorW.PrintWords Go.Proofs.YtogapedacdnfcaaDoorW.PrintLast Go.Proofs.YtogapedacdnfcaaDoorW.PrintMore Go.Proofs.YtogapedacdnfcaaDoor.Dsk
set_option linter.unusedVariables false
set_option linter.unusedSimpArgs false
theorem add_fld4 (ad : Addr) (k j : Nat) : ad.add (k + (j + 1)) = ⟨(ad.add k).block, (ad.add k).off + (j + 1), none⟩ := by
  rw [← Addr.add_add]
  simp [Addr.add]
theorem cell_lt4 {w : World} {p : Addr} {v : Value} (h : w.cell? p = some v) : p.block < w.heap.size := by
  rcases Nat.lt_or_ge p.block w.heap.size with hl | hl
  · exact hl
  · rw [World.cell?, Array.getElem?_eq_none hl] at h
    cases h
/-- What an entry's cells tell in a world. -/
structure EntIn (ad : Addr) (i : Nat) (x : Ent) (K : Option Addr) (ck : Nat) (V : World) : Prop where
  key : V.cell? (ad.add (i * 4)) = some (.int .u64 x.1)
  asked : V.cell? ⟨(ad.add (i * 4)).block, (ad.add (i * 4)).off + 1, none⟩ = some (.int .i64 x.2.1)
  level : V.cell? ⟨(ad.add (i * 4)).block, (ad.add (i * 4)).off + 2, none⟩ = some (.int .i64 x.2.2.1)
  levels : V.cell? ⟨(ad.add (i * 4)).block, (ad.add (i * 4)).off + 3, none⟩ = some (.slice K x.2.2.2.length ck)
  rowC : Kd.C (Kd.int .i64) V K x.2.2.2.length x.2.2.2
  rowLe : x.2.2.2.length ≤ ck
theorem ent_at {w : World} {A : Option Addr} {n : Nat} {xs : List Ent} (h : Kd.C entK w A n xs) (i : Nat) (hi : i < n) : ∃ ad x K ck, A = some ad ∧ xs[i]? = some x ∧ ∀ V, Below w.heap.size w V → EntIn ad i x K ck V := by
  obtain ⟨ad, hA, hc⟩ := h.2.2 (by omega)
  subst hA
  have hl : xs.length = n := h.1
  obtain ⟨x, hx⟩ : ∃ x, xs[i]? = some x := ⟨_, List.getElem?_eq_getElem (by omega)⟩
  obtain ⟨cs, hcs, hk, hu⟩ := hc i x hx
  obtain ⟨c0, d0, rfl, h0, c1, d1, rfl, h1, c2, c3, rfl, h2, ⟨K, ck, h3, h3l, h3C⟩⟩ := hk
  have h0' : c0 = [.int .u64 x.1] := h0
  have h1' : c1 = [.int .i64 x.2.1] := h1
  have h2' : c2 = [.int .i64 x.2.2.1] := h2
  subst h0' h1' h2' h3
  have hs : entK.sz = 4 := rfl
  refine ⟨ad, x, K, ck, rfl, hx, fun V hV => ?_⟩
  have hcell : ∀ j u, ([Value.int .u64 x.1] ++ ([Value.int .i64 x.2.1] ++ ([Value.int .i64 x.2.2.1] ++ [Value.slice K x.2.2.2.length ck])))[j]? = some u → V.cell? (ad.add (i * 4 + j)) = some u := fun j u hj => by
    have := hu j u hj
    rw [hs] at this
    exact (Below.cell hV (cell_lt4 this)).trans this
  refine ⟨hcell 0 _ rfl, ?_, ?_, ?_, Kd.C_below h3C hV, h3l⟩
  · rw [← add_fld4]; exact hcell 1 _ rfl
  · rw [← add_fld4]; exact hcell 2 _ rfl
  · rw [← add_fld4]; exact hcell 3 _ rfl
/-- Put, of a cache somewhere. -/
theorem CIn.put_c {S : Nat → Prop} {gc gd ct : Nat} {d : Dk} {m : Nat → Option Ent} {W : World} (h : CIn S gc gd 1 ct d m W) (w0 : World) (hB0 : Below w0.heap.size w0 W) (hS0 : ∀ k, S k → w0.heap.size ≤ k) (hs : Small d) (h1 : 1 ≤ ct) (h2 : ct ≤ 5000) (x : Ent) (A : Option Addr) (c : Nat) (bs : List Int)
    (hk : 0 ≤ x.1 ∧ x.1 < 18446744073709551616) (hR : Kd.C (Kd.int .i64) w0 A x.2.2.2.length x.2.2.2) (hc : x.2.2.2.length ≤ c) (hl : x.2.2.2.length ≤ 1000) (ha : -1 ≤ x.2.1 ∧ x.2.1 ≤ 1)
    (hb : ∀ V, Below W.heap.size W V → Calls Tryd.prog 10 #[entVal x A c] V fun e w' => ∃ v0_ : Value, e = .returned (.tuple #[v0_, .int .i64 0]) ∧ Kd.R (Kd.int .u8) 5 w' V.heap.size (fun _ => True) v0_ bs ∧ Below V.heap.size V w')
    (hw : (Dsk.write d ((1 : Int) + (pl ct x.1 x.2.1 : Nat)) bs).2 = 0) :
    Calls Tryd.prog 17 #[.pointer (some ⟨gc, 0, none⟩), .agg #[.int .u64 x.1, .int .i64 x.2.1, .int .i64 x.2.2.1, .slice A x.2.2.2.length c]] W fun e w' => e = .returned (.int .i64 0) ∧ ∃ S', CIn S' gc gd 1 ct (Dsk.write d ((1 : Int) + (pl ct x.1 x.2.1 : Nat)) bs).1 (putM m (pl ct x.1 x.2.1) x) w' ∧ (∀ k, S' k → S k ∨ W.heap.size ≤ k) ∧ Kp S W w' := by
  obtain ⟨F, H, bm, hC, hFH, hlt⟩ := h
  exact (Put_c F H gc gd bm 1 ct d m x A c bs W hC hs h1 h2 (by omega) hk w0 hB0 (fun k hk => hS0 k (hFH k (.inl hk))) hR hc hl ha hb hw).mono fun e w' hp => CIn.of_put hFH hp hlt
/-- Get, of a cache somewhere. -/
theorem CIn.get_c {S : Nat → Prop} {gc gd ct : Nat} {d : Dk} {m : Nat → Option Ent} {W : World} (h : CIn S gc gd 1 ct d m W) (h1 : 1 ≤ ct) (h2 : ct ≤ 5000) (key asked : Int) (hk : 0 ≤ key ∧ key < 18446744073709551616) (ha : -1 ≤ asked ∧ asked ≤ 1) (hl : ∀ i e, m i = some e → e.2.2.2.length ≤ 1000) :
    Calls Tryd.prog 16 #[.pointer (some ⟨gc, 0, none⟩), .int .u64 key, .int .i64 asked] W (GetP (getM m (pl ct key asked) key asked) W) := by
  obtain ⟨F, H, bm, hC, hFH, hlt⟩ := h
  exact Get_c F H gc gd bm 1 ct d m key asked W hC h1 h2 hk ha hl
/-- Entries, of a cache somewhere. -/
theorem CIn.ents_c {S : Nat → Prop} {gc gd ct : Nat} {d : Dk} {m : Nat → Option Ent} {W : World} (h : CIn S gc gd 1 ct d m W) (h2 : ct ≤ 5000) (hl : ∀ i e, m i = some e → e.2.2.2.length ≤ 1000) :
    Calls Tryd.prog 19 #[.pointer (some ⟨gc, 0, none⟩)] W fun e w' => ∃ v, e = .returned v ∧ entK.R 25 w' 0 (fun k => W.heap.size ≤ k) v (entsTo m ct) ∧ Below W.heap.size W w' := by
  obtain ⟨F, H, bm, hC, hFH, hlt⟩ := h
  exact Entries_c F H gc gd bm 1 ct d m W hC h2 hl
end Go.Proofs.YtogapedacdnfcaaDoor.G
/- CacheKeeps: flush, crash and what is opened then. -/
namespace Go.Proofs.YtogapedacdnfcaaDoor.G
open Go.RowKit Go.Shelf Go.Proofs.YtogapedacdnfcaaDoorW.PrintWords Go.Proofs.YtogapedacdnfcaaDoorW.PrintLast Go.Proofs.YtogapedacdnfcaaDoorW.PrintMore Go.Proofs.YtogapedacdnfcaaDoor.Dsk
set_option linter.unusedVariables false
set_option linter.unusedSimpArgs false
theorem CIn.flush_c {S : Nat → Prop} {gc gd fr ct : Nat} {d : Dk} {m : Nat → Option Ent} {W : World} (h : CIn S gc gd fr ct d m W) (hs : Small d) :
    Calls Tryd.prog 23 #[.pointer (some ⟨gd, 0, none⟩)] W fun e w' => e = .returned (.int .i64 (flush d).2) ∧ ∃ S', CIn S' gc gd fr ct (flush d).1 m w' ∧ (∀ k, S' k → S k ∨ W.heap.size ≤ k) ∧ Kp S W w' := by
  obtain ⟨F, H, bm, hC, hFH, hlt⟩ := h
  refine (Flush_c F gd d W hC.disk hs).mono fun e w' ⟨he, F', hD, hF, hK⟩ => ⟨he, fun k => F' k ∨ H k, ⟨F', H, bm, hC.redisk hK hD hF, fun k hk => hk, fun k hk => ?_⟩, fun k hk => ?_, hK.mono fun q _ hq => hFH q (.inl hq)⟩
  · exact hk.elim (hD.2 k) (fun q => Nat.lt_of_lt_of_le (hC.lt k q) hK.size)
  · exact hk.elim (fun q => (hF k q).imp (fun z => hFH k (.inl z)) id) (fun q => .inl (hFH k (.inr q)))
theorem CIn.flush0_c {S : Nat → Prop} {gc gd fr ct : Nat} {d : Dk} {m : Nat → Option Ent} {W : World} (h : CIn S gc gd fr ct d m W) (hs : Small d) (h0 : (flush d).2 = 0) :
    Calls Tryd.prog 23 #[.pointer (some ⟨gd, 0, none⟩)] W fun e w' => e = .returned (.int .i64 0) ∧ ∃ S', CIn S' gc gd fr ct (flush d).1 m w' ∧ (∀ k, S' k → S k ∨ W.heap.size ≤ k) ∧ Kp S W w' :=
  (h.flush_c hs).mono fun e w' h => by rw [h0] at h; exact h
theorem CIn.crash_c {S : Nat → Prop} {gc gd fr ct : Nat} {d : Dk} {m : Nat → Option Ent} {W : World} (h : CIn S gc gd fr ct d m W) (hs : Small d) (ks : List Int) (A : Option Addr) (cm : Nat) (hK : Kd.C (Kd.int .i64) W A ks.length ks) (hkc : ks.length ≤ cm) :
    Calls Tryd.prog 24 #[.pointer (some ⟨gd, 0, none⟩), .slice A ks.length cm] W (MkP (crash d ks) W) := by
  obtain ⟨F, H, bm, hC, hFH, hlt⟩ := h
  exact Crash_c F gd d ks A cm W hC.disk hs hK hkc
theorem CIn.ok {S : Nat → Prop} {gc gd fr ct : Nat} {d : Dk} {m : Nat → Option Ent} {W : World} (h : CIn S gc gd fr ct d m W) : Ok d := by
  obtain ⟨F, H, bm, hC, hFH, hlt⟩ := h
  exact hC.disk.ok
theorem OpenP.cin {F : Nat → Prop} {gd fr ct : Nat} {d : Dk} {m : Nat → Option Ent} {W : World} {e : Ending} {w' : World} (h : OpenP F gd fr ct d m W e w') : ∃ gc S, e = .returned (.tuple #[.pointer (some ⟨gc, 0, none⟩), .int .i64 0]) ∧ CIn S gc gd fr ct d m w' ∧ Below W.heap.size W w' := by
  obtain ⟨gc, bm, H, he, hC, hH, hb⟩ := h
  exact ⟨gc, fun k => F k ∨ H k, he, ⟨F, H, bm, hC, fun k hk => hk, fun k hk => hk.elim (hC.disk.2 k) (hC.lt k)⟩, hb⟩
/-- What is opened behind a flush and a crash is what was put. -/
theorem Kp5.again {es : Ent → List Int} {ok : Ent → Prop} {l : List Ent} {i : Nat} {last : List Nat} {m : Nat → Option Ent} {d : Dk} (h : Kp5 es ok l 5 i last m d) (rd_ : List Int → Ent × Int) (h0 : (rd_ (zeros 64)).2 ≠ 0) (he : ∀ x, ok x → rd_ (es x) = (x, 0)) (ks : List Int) :
    (flush d).2 = 0 ∧ openTo rd_ (crash (flush d).1 ks) 1 5 5 = m ∧ ∀ j, j < 5 → latest (crash (flush d).1 ks) (1 + j) = zeros 64 ∨ ∃ x, ok x ∧ latest (crash (flush d).1 ks) (1 + j) = es x := by
  have hd := h.down
  have hl : ∀ j, j < d.lies.length → latest (crash (flush d).1 ks) j = latest d j := fun j hj => by rw [latest_crash (flush_waits hd) ks j, latest_flush hd j hj]
  refine ⟨by unfold flush; rw [hd, if_neg (by simp)], h.reopen rd_ h0 he hl, fun j hj => ?_⟩
  rw [hl (1 + j) (by rw [h.lies]; omega)]
  rcases h.at_ j hj with ⟨_, _, q⟩ | ⟨k, x, _, _, _, hx, _, _, q⟩
  · exact .inl q
  · exact .inr ⟨x, hx, q⟩
/-- A row of numbers, somewhere. -/
def RowI (w' : World) (A : Option Addr) (c : Nat) (l : List Int) : Prop := (Kd.int .i64).R 3 w' 0 (fun _ => True) (.slice A l.length c) l
theorem RowI.below {W W' : World} {A : Option Addr} {c : Nat} {l : List Int} (h : RowI W A c l) (hb : Below W.heap.size W W') : RowI W' A c l := Kd.R_step h (fun k _ hk => hb.block k hk)
theorem RowI.C {W : World} {A : Option Addr} {c : Nat} {l : List Int} (h : RowI W A c l) : Kd.C (Kd.int .i64) W A l.length l ∧ l.length ≤ c := ⟨(Kd.R_reads' h).2.2, (Kd.R_reads' h).2.1⟩
theorem RowI.set4 {W : World} {A : Option Addr} {c : Nat} {l : List Int} {g : Nat} {x0 x1 x2 x3 : Value} (h : RowI W A c l) (hb : W.heap[g]? = some (.cells #[x0, x1, x2, x3] 25 (0, 0))) (y0 y1 y2 y3 : Value) : RowI ((((W.setCell ⟨g, 0, none⟩ y0).setCell ⟨g, 1, none⟩ y1).setCell ⟨g, 2, none⟩ y2).setCell ⟨g, 3, none⟩ y3) A c l := R_set4 h hb (by decide) y0 y1 y2 y3
def GotR (x : Ent) (A : Option Addr) (c : Nat) (W w' : World) : Prop := RowI w' A c x.2.2.2 ∧ Below W.heap.size W w'
/-- Get, of what is there. -/
theorem CIn.got_c {S : Nat → Prop} {gc gd ct : Nat} {d : Dk} {m : Nat → Option Ent} {W : World} (h : CIn S gc gd 1 ct d m W) (h1 : 1 ≤ ct) (h2 : ct ≤ 5000) (x : Ent) (i : Nat) (hpl : pl ct x.1 x.2.1 = i) (hm : m i = some x) (hk : 0 ≤ x.1 ∧ x.1 < 18446744073709551616) (ha : -1 ≤ x.2.1 ∧ x.2.1 ≤ 1) (hl : ∀ i e, m i = some e → e.2.2.2.length ≤ 1000) :
    Calls Tryd.prog 16 #[.pointer (some ⟨gc, 0, none⟩), .int .u64 x.1, .int .i64 x.2.1] W fun e w' => ∃ A c, e = .returned (.tuple #[.agg #[.int .u64 x.1, .int .i64 x.2.1, .int .i64 x.2.2.1, .slice A x.2.2.2.length c], .bool true]) ∧ GotR x A c W w' := by
  refine (h.get_c h1 h2 x.1 x.2.1 hk ha hl).mono fun e w' hp => ?_
  have hg : getM m (pl ct x.1 x.2.1) x.1 x.2.1 = some x := by unfold getM; rw [hpl, hm]; simp
  rw [hg] at hp
  obtain ⟨v, b, rfl, ⟨rfl, A, c, rfl, hR⟩, hb⟩ := hp
  exact ⟨A, c, rfl, Kd.R_mono hR (fun _ _ => trivial), hb⟩
theorem ix5_0 (a0 a1 a2 a3 a4 : Int) (W : World) : (Instr.index 68 (.agg #[.int .i64 a0, .int .i64 a1, .int .i64 a2, .int .i64 a3, .int .i64 a4]) (.int .i64 0)).run Tryd.prog W = .ok (.int .i64 a0) W := by kernel_rfl
theorem ix5_1 (a0 a1 a2 a3 a4 : Int) (W : World) : (Instr.index 68 (.agg #[.int .i64 a0, .int .i64 a1, .int .i64 a2, .int .i64 a3, .int .i64 a4]) (.int .i64 1)).run Tryd.prog W = .ok (.int .i64 a1) W := by kernel_rfl
theorem ix5_2 (a0 a1 a2 a3 a4 : Int) (W : World) : (Instr.index 68 (.agg #[.int .i64 a0, .int .i64 a1, .int .i64 a2, .int .i64 a3, .int .i64 a4]) (.int .i64 2)).run Tryd.prog W = .ok (.int .i64 a2) W := by kernel_rfl
theorem ix5_3 (a0 a1 a2 a3 a4 : Int) (W : World) : (Instr.index 68 (.agg #[.int .i64 a0, .int .i64 a1, .int .i64 a2, .int .i64 a3, .int .i64 a4]) (.int .i64 3)).run Tryd.prog W = .ok (.int .i64 a3) W := by kernel_rfl
theorem ix5_4 (a0 a1 a2 a3 a4 : Int) (W : World) : (Instr.index 68 (.agg #[.int .i64 a0, .int .i64 a1, .int .i64 a2, .int .i64 a3, .int .i64 a4]) (.int .i64 4)).run Tryd.prog W = .ok (.int .i64 a4) W := by kernel_rfl
theorem index5 (a0 a1 a2 a3 a4 j n : Nat) (W : World) (hj : j < 5) (h : (#[Value.int .i64 (a0 : Int), .int .i64 (a1 : Int), .int .i64 (a2 : Int), .int .i64 (a3 : Int), .int .i64 (a4 : Int)] : Array Value)[j]? = some (.int .i64 (n : Int))) :
    (Instr.index 68 (.agg #[.int .i64 (a0 : Int), .int .i64 (a1 : Int), .int .i64 (a2 : Int), .int .i64 (a3 : Int), .int .i64 (a4 : Int)]) (.int .i64 (j : Int))).run Tryd.prog W = .ok (.int .i64 (n : Int)) W := by
  rcases j with _ | _ | _ | _ | _ | j
  · have e : some (Value.int .i64 (a0 : Int)) = _ := h
    rw [← Option.some.inj e]
    exact ix5_0 _ _ _ _ _ W
  · have e : some (Value.int .i64 (a1 : Int)) = _ := h
    rw [← Option.some.inj e]
    exact ix5_1 _ _ _ _ _ W
  · have e : some (Value.int .i64 (a2 : Int)) = _ := h
    rw [← Option.some.inj e]
    exact ix5_2 _ _ _ _ _ W
  · have e : some (Value.int .i64 (a3 : Int)) = _ := h
    rw [← Option.some.inj e]
    exact ix5_3 _ _ _ _ _ W
  · have e : some (Value.int .i64 (a4 : Int)) = _ := h
    rw [← Option.some.inj e]
    exact ix5_4 _ _ _ _ _ W
  · omega
end Go.Proofs.YtogapedacdnfcaaDoor.G
