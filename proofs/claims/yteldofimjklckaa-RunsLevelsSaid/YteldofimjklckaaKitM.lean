/- Where a walk stands still, for a hand to go on. -/
import Derived.Test.YteldofimjklckaaX0
import Derived.Test.YteldofimjklckaaHTy
import Derived.Carry
namespace Go.Proofs.Yteldofimjklckaa.G
def Halt (p : Prop) : Prop := p
theorem of_halt {p : Prop} (h : Halt p) : p := h
end Go.Proofs.Yteldofimjklckaa.G
/- An append of a whole row in a region that draws its order (for seats without sums/HTab). By hand. -/
namespace Go.Proofs.Yteldofimjklckaa.G
open Go.RowKit Go.Proofs.YteldofimjklckaaW.PrintWords Go.Proofs.YteldofimjklckaaW.PrintLast Go.Proofs.YteldofimjklckaaW.PrintMore
set_option linter.unusedVariables false
set_option linter.unusedSimpArgs false

/-- An append of a whole row, as one step of a region that draws its order. -/
theorem step_append_row {P : Program} {ops : Array Oper} {o : Oper} {a : Act} {Q : Exit → Act → World → Prop} {K : Act → World → Prop} (k : IntKind) {w0 W : World} (base : Nat) (hw : Region.wanted o (yielded ops a.tmps) = true) (s x : Operand) (t e : TypeId) (bytes : Nat)
    (ho : o.op = .call { callee := .builtin .append, args := #[s, x], argTypes := #[t, t] })
    (ht : P.underlying t = some (.slice e)) (hinfo : (P.info? e).map (fun i => (i.zero, i.size, i.bytes)) = some (some (.int k 0), 1, bytes)) (hb0 : 0 < bytes)
    (v : Value) (xs ys : List Int) (A : Option Addr) (m c : Nat) (ok : Nat → Prop) (hs : a.eval s = v) (hx : a.eval x = .slice A m c) (hfresh : ∀ k, W.heap.size ≤ k → ok k)
    (HO : Kd.R (Kd.int k) e W base ok v xs) (HR : Kd.C (Kd.int k) W A m ys) (HB : Below base w0 W) (hbase : base ≤ W.heap.size) (hl : (xs.length + m) * bytes ≤ 140737488355328)
    (h : ∀ v1 w1, Kd.R (Kd.int k) e w1 base ok v1 (xs ++ ys) → Below base w0 w1 → W.grownBy w1 v.ownBlock → (v1.ownBlock = v.ownBlock ∨ ∃ b, v1.ownBlock = some b ∧ W.heap.size ≤ b) → K (a.put o.dst v1) w1) :
    if Region.wanted o (yielded ops a.tmps) = true then Oper.wp P o a W K Q else K (a.put o.dst undef) W := by
  obtain ⟨i0, hi, hzz⟩ := Option.map_eq_some_iff.1 hinfo
  simp only [Prod.mk.injEq] at hzz
  obtain ⟨hz0, hz1, hz2⟩ := hzz
  have HO' := Kd.own_of_R (enc := Value.int k) (h1 := fun _ => rfl) HO
  have HR' := Kd.reads_of_C (enc := Value.int k) (h1 := fun _ => rfl) (d := (0 : Int)) HR
  have hm : ys.length = m := HR'.1
  have hlen : xs.length + m ≤ 140737488355328 := Nat.le_trans (Nat.le_mul_of_pos_right _ hb0) hl
  have hrun : ∃ v1 w1, (Builtin.append_ #[t, t] o.type #[v, .slice A m c]).run P W = .ok v1 w1 ∧ w1.ownsRow base e 1 v1 (xs ++ ys).length (encs (Value.int k) (xs ++ ys)) ∧ W.grownBy w1 v.ownBlock ∧ (v1.ownBlock = v.ownBlock ∨ v1.ownBlock = some W.heap.size) := by
    rcases A with _ | ad
    · have h0 : m = 0 := by
        rcases Nat.eq_zero_or_pos m with h0 | h0
        · exact h0
        · obtain ⟨ad, h, _⟩ := HR'.2.2 h0
          cases h
      subst h0
      obtain rfl : ys = [] := List.eq_nil_of_length_eq_zero hm
      refine ⟨v, W, ?_, by simpa using HO', World.grownBy.refl W _, .inl rfl⟩
      rcases HO'.2 with ⟨rfl, hn⟩ | ⟨g, cap, cur, rfl, _, _, hnc, _⟩
      · simp [Builtin.append_, run_underlying ht, sizeOf, typeInfo, hi, Builtin.lenOf, Builtin.firstCells]
      · simp [Builtin.append_, run_underlying ht, sizeOf, typeInfo, hi, Builtin.lenOf, Builtin.firstCells, hnc, storeCells]
    · have hcells : ∀ j u, (encs (Value.int k) ys)[j]? = some u → W.cell? (ad.add j) = some u := by
        intro j u hu
        have hj : j < ys.length := by
          rcases Nat.lt_or_ge j ys.length with h | h
          · exact h
          · simp [encs, List.getElem?_eq_none h] at hu
        obtain ⟨ad', h', hc⟩ := HR'.2.2 (by omega)
        injection h' with h'
        subst h'
        rw [encs_get (d := (0 : Int)) ys j hj] at hu
        rw [← hu]
        exact hc j (by omega)
      obtain ⟨v1, w1, hr, h2, h3, _, h5⟩ := run_append_own_at (P := P) W base t o.type e i0 (.int k 0) 1 bytes ht hi hz0 hz1 hz2 rfl (by omega) v xs.length (encs (Value.int k) xs) HO' ad m c (encs (Value.int k) ys) (by simp [encs, hm]) hcells
        (by intro u hu; simp only [encs, List.mem_map] at hu; obtain ⟨q, _, rfl⟩ := hu; rfl) (by simp only [maxLen]; omega) hl hbase
      exact ⟨v1, w1, hr, by simpa [encs, hm] using h2, h3, h5⟩
  obtain ⟨v1, w1, hr, hown, hg, hat⟩ := hrun
  rw [if_pos hw]
  unfold Oper.wp execOp
  simp only [ho, resolve, invoke, builtin, Sem.run_bind, Sem.run_pure, Result.andThen_ok, List.map_toArray, List.map_cons, List.map_nil, hs, hx, hr]
  have hat' : v1.ownBlock = v.ownBlock ∨ ∃ b, v1.ownBlock = some b ∧ W.heap.size ≤ b := hat.imp id (fun h => ⟨_, h, Nat.le_refl _⟩)
  refine h v1 w1 (Kd.R_of_own hown (fun j hk => ?_)) (HB.grown hg hbase (own_base HO')) hg hat'
  rcases hat' with e1 | ⟨b, e1, hbb⟩
  · exact HO.1 j (by rw [← e1]; exact hk)
  · rw [e1] at hk
    injection hk with hk
    subst hk
    exact hfresh _ hbb
end Go.Proofs.Yteldofimjklckaa.G
/- A call of a function value in a region that draws its order; all but a footprint stays. -/
namespace Go.Proofs.Yteldofimjklckaa.G
open Go.RowKit Go.Proofs.YteldofimjklckaaW.PrintWords Go.Proofs.YteldofimjklckaaW.PrintLast Go.Proofs.YteldofimjklckaaW.PrintMore
set_option linter.unusedVariables false
set_option linter.unusedSimpArgs false
/-- A call of a function value: what it captured stands behind its arguments. -/
theorem goesV_ {P : Program} {ops : Array Oper} {Q : Exit → Act → World → Prop} {oi : Oper} {N : Option Tmp} {a : Act} {w : World} {K : Act → World → Prop} {f : FuncId} {fn : Func} {as_ : Array Operand} {ts : Array TypeId} (hf : P.funcs[f]? = some fn) (hname : (fn.name == "runtime.NumGoroutine") = false) (hb : fn.body.isSome = true) (s : Operand) (cap : Array Value) (args : Array Value)
    (hw : Region.wanted oi (yielded ops a.tmps) = true) (hN : oi.dst = N) (hop : oi.op = .call { callee := .value s, args := as_, argTypes := ts }) (hs : a.eval s = .func (.func f) #[] cap) (hargs : as_.map a.eval ++ cap = args)
    (h : Calls P f args w fun e w' => ∃ v, e = .returned v ∧ K (a.put N v) w') : if Region.wanted oi (yielded ops a.tmps) = true then Oper.wp P oi a w K Q else K (a.put N undef) w := by
  refine call_ f args hw hN ?_ h
  have he := enters_ hf hname hb args w
  unfold execOp
  simp [hop, resolve, Deferred.ofValue, invoke, hs, hargs, he]
/-- All but a footprint stays. -/
structure Kp (F : Nat → Prop) (w w' : World) : Prop where
  os : w'.os = w.os
  tape : w'.tape = w.tape
  output : w'.output = w.output
  size : w.heap.size ≤ w'.heap.size
  block : ∀ k, k < w.heap.size → ¬ F k → w'.heap[k]? = w.heap[k]?
theorem Kp.refl (F : Nat → Prop) (w : World) : Kp F w w := ⟨rfl, rfl, rfl, Nat.le_refl _, fun _ _ _ => rfl⟩
theorem Kp.trans {F G : Nat → Prop} {a b c : World} (h : Kp F a b) (k : Kp G b c) (hG : ∀ q, q < a.heap.size → G q → F q) : Kp F a c :=
  ⟨k.os.trans h.os, k.tape.trans h.tape, k.output.trans h.output, Nat.le_trans h.size k.size, fun i hi hn => (k.block i (Nat.lt_of_lt_of_le hi h.size) (fun g => hn (hG i hi g))).trans (h.block i hi hn)⟩
theorem Kp.mono {F G : Nat → Prop} {a b : World} (h : Kp F a b) (hG : ∀ q, q < a.heap.size → F q → G q) : Kp G a b := ⟨h.os, h.tape, h.output, h.size, fun i hi hn => h.block i hi (fun f => hn (hG i hi f))⟩
theorem Kp.of_below {F : Nat → Prop} {w w' : World} (h : Below w.heap.size w w') : Kp F w w' := ⟨h.os, h.tape, h.output, h.size, fun k hk _ => h.block k hk⟩
theorem Kp.of_grown {F : Nat → Prop} {w w' : World} {row : Option Nat} (h : w.grownBy w' row) (hr : ∀ g, row = some g → F g) : Kp F w w' := ⟨h.os, h.tape, h.output, h.size, fun k hk hn => h.block k hk (fun e => hn (hr k e.symm))⟩
theorem Kp.below {F : Nat → Prop} {w w' : World} (h : Kp F w w') {B : Nat} (hB : B ≤ w.heap.size) (hF : ∀ k, k < B → ¬ F k) : Below B w w' := ⟨h.os, h.tape, h.output, h.size, fun k hk => h.block k (by omega) (hF k hk)⟩
theorem Kp.set {F : Nat → Prop} {w w1 : World} (h : Kp F w w1) {p : Addr} (hp : F p.block ∨ w.heap.size ≤ p.block) (u : Value) : Kp F w (w1.setCell p u) :=
  ⟨h.os, h.tape, h.output, by simpa [World.setCell] using h.size, fun k hk hn => (Below.heap_setCell w1 p u k (fun e => by
    subst e
    rcases hp with hp | hp
    · exact hn hp
    · omega)).trans (h.block k hk hn)⟩
theorem Kp.blk {F : Nat → Prop} {w w' : World} (h : Kp F w w') {k : Nat} {o : Obj} (hk : w.heap[k]? = some o) (hn : ¬ F k) : w'.heap[k]? = some o := (h.block k (blk_lt hk) hn).trans hk
theorem Kp.R {F : Nat → Prop} {α : Type} {d : Kd α} {e base : Nat} {ok : Nat → Prop} {v : Value} {xs : List α} {w w' : World} (h : Kp F w w') (hr : d.R e w base ok v xs) (hd : ∀ k, ok k → ¬ F k) : d.R e w' base ok v xs := Kd.R_step hr fun k hk hlt => h.block k hlt (hd k hk)
end Go.Proofs.Yteldofimjklckaa.G
/- A map of places to their numbers, filled in order: one block; what is looked up in it, and stored. -/
namespace Go.Proofs.Yteldofimjklckaa.G
open Go.RowKit Go.Proofs.YteldofimjklckaaW.PrintWords Go.Proofs.YteldofimjklckaaW.PrintLast Go.Proofs.YteldofimjklckaaW.PrintMore
set_option linter.unusedVariables false
set_option linter.unusedSimpArgs false

def entsFrom (j : Nat) (hs : List Nat) : List MapEntry := (hs.zipIdx j).map fun p => ⟨.int .i64 (p.1 : Int), .int .i64 (p.2 : Int), p.2⟩
def mapObj (hs : List Nat) : Obj := .map (entsFrom 0 hs).toArray hs.length
theorem entsFrom_snoc (j : Nat) (hs : List Nat) (h : Nat) : entsFrom j (hs ++ [h]) = entsFrom j hs ++ [⟨.int .i64 (h : Int), .int .i64 ((j + hs.length : Nat) : Int), j + hs.length⟩] := by
  simp [entsFrom, List.zipIdx_append]
theorem mapObj_snoc (hs : List Nat) (h : Nat) : mapObj (hs ++ [h]) = .map ((entsFrom 0 hs).toArray.push ⟨.int .i64 (h : Int), .int .i64 (hs.length : Int), hs.length⟩) (hs.length + 1) := by
  simp [mapObj, entsFrom_snoc]
theorem find_none (x : Int) : ∀ (hs : List Nat) (j i : Nat), (∀ q ∈ hs, (q : Int) ≠ x) → Instr.findNow (.int .i64) (.int .i64 x) (entsFrom j hs) i = some none
  | [], _, _, _ => rfl
  | h :: t, j, i, hn => by
    have h1 : ((x : Int) == (h : Int)) = false := beq_eq_false_iff_ne.2 (fun e => hn h (by simp) e.symm)
    have ih := find_none x t (j + 1) (i + 1) (fun q hq => hn q (by simp [hq]))
    simp only [entsFrom, List.zipIdx_cons, List.map_cons]
    simp only [entsFrom] at ih
    simp [Instr.findNow, Instr.sameNow, h1, ih]
theorem find_some (x : Nat) : ∀ (hs : List Nat) (j i k : Nat), hs[k]? = some x → hs.Pairwise (· < ·) → Instr.findNow (.int .i64) (.int .i64 (x : Int)) (entsFrom j hs) i = some (some (i + k, .int .i64 ((j + k : Nat) : Int)))
  | [], _, _, _, h, _ => by simp at h
  | h :: t, j, i, k, hk, hp => by
    have hp' := List.pairwise_cons.1 hp
    cases k with
    | zero =>
      obtain rfl : h = x := by simpa using hk
      simp [entsFrom, List.zipIdx_cons, Instr.findNow, Instr.sameNow]
    | succ k =>
      have hk' : t[k]? = some x := by simpa using hk
      have hlt := hp'.1 x (List.mem_of_getElem? hk')
      have h1 : ((x : Int) == (h : Int)) = false := beq_eq_false_iff_ne.2 (by omega)
      have ih := find_some x t (j + 1) (i + 1) k hk' hp'.2
      simp only [entsFrom, List.zipIdx_cons, List.map_cons]
      simp only [entsFrom] at ih
      simp [Instr.findNow, Instr.sameNow, h1, ih]
      omega
theorem hgetObj {P : Program} {W : World} {b : Nat} {es : Array MapEntry} {c : Nat} (h : W.heap[b]? = some (.map es c)) : (getObj b).run P W = .ok (.map es c) W := by
  simp [getObj, Sem.run, h]
theorem hcheckKey {P : Program} {k : IntKind} {t : TypeId} (W : World) (b : Bool) (n : Nat) (x : Int) (ht : P.underlying t = some (.int k)) : (Instr.checkKey b (n + 1) t (.int k x)).run P W = .ok () W := by
  simp [Instr.checkKey, run_underlying ht]
theorem hfindKey {P : Program} {k : IntKind} {t : TypeId} (W : World) (x : Int) (es : List MapEntry) (r : Option (Nat × Value)) (ht : P.underlying t = some (.int k)) (h : Instr.findNow (.int k) (.int k x) es 0 = some r) : (Instr.findKey t (.int k x) es).run P W = .ok r W := by
  unfold Instr.findKey
  simp [run_underlying ht, h]
/-- A lookup in it: what is there. -/
theorem heads_some {P : Program} {T K E : TypeId} (hT : P.underlying T = some (.map K E)) (hK : P.underlying K = some (.int .i64)) (W : World) (b : Nat) {hs : List Nat} (h : W.heap[b]? = some (mapObj hs)) (hp : hs.Pairwise (· < ·)) (x k : Nat) (hx : hs[k]? = some x) :
    (Instr.lookup T (.map (some b)) (.int .i64 (x : Int)) true).run P W = .ok (.tuple #[.int .i64 (k : Int), .bool true]) W := by
  have hk : ∀ bb, (Instr.checkKey bb 10000 K (.int .i64 (x : Int))).run P W = .ok () W := fun bb => hcheckKey W bb 9999 _ hK
  have hf := find_some x hs 0 0 k hx hp
  simp only [Nat.zero_add] at hf
  unfold Instr.lookup
  simp only [Sem.run_bind, run_underlying hT, Result.andThen_ok, hgetObj (P := P) (show W.heap[b]? = some (.map (entsFrom 0 hs).toArray hs.length) from h), Sem.run_pure, hk, hfindKey W _ _ _ hK hf]
  rfl
theorem heads_none {P : Program} {T K E : TypeId} (hT : P.underlying T = some (.map K E)) (hK : P.underlying K = some (.int .i64)) (hz : ∀ w, (zeroValue E).run P w = .ok (.int .i64 0) w) (W : World) (b : Nat) {hs : List Nat} (h : W.heap[b]? = some (mapObj hs)) (x : Int) (hx : ∀ q ∈ hs, (q : Int) ≠ x) :
    (Instr.lookup T (.map (some b)) (.int .i64 x) true).run P W = .ok (.tuple #[.int .i64 0, .bool false]) W := by
  have hk : ∀ bb, (Instr.checkKey bb 10000 K (.int .i64 x)).run P W = .ok () W := fun bb => hcheckKey W bb 9999 _ hK
  unfold Instr.lookup
  simp only [Sem.run_bind, run_underlying hT, Result.andThen_ok, hgetObj (P := P) (show W.heap[b]? = some (.map (entsFrom 0 hs).toArray hs.length) from h), Sem.run_pure, hk, hfindKey W _ _ _ hK (find_none x hs 0 0 hx), hz]
  rfl
/-- A store of a new place. -/
theorem heads_put {P : Program} {T K E : TypeId} (hT : P.underlying T = some (.map K E)) (hK : P.underlying K = some (.int .i64)) (W : World) (b : Nat) {hs : List Nat} (h : W.heap[b]? = some (mapObj hs)) (x : Nat) (hx : ∀ q ∈ hs, q ≠ x) :
    ∃ W', (Instr.mapUpdate T (.map (some b)) (.int .i64 (x : Int)) (.int .i64 (hs.length : Int))).run P W = .ok () W' ∧ W'.heap[b]? = some (mapObj (hs ++ [x])) ∧ W.grownBy W' (some b) := by
  have hk : ∀ bb, (Instr.checkKey bb 10000 K (.int .i64 (x : Int))).run P W = .ok () W := fun bb => hcheckKey W bb 9999 _ hK
  have hb : W.heap[b]? = some (.map (entsFrom 0 hs).toArray hs.length) := h
  refine ⟨{ W with heap := W.heap.setIfInBounds b (mapObj (hs ++ [x])) }, ?_, ?_, ?_⟩
  · unfold Instr.mapUpdate
    simp only [Sem.run_bind, run_underlying hT, Result.andThen_ok, hgetObj (P := P) hb, Sem.run_pure, hk, hfindKey _ _ _ _ hK (find_none (x : Int) hs 0 0 (fun q hq e => hx q hq (by omega))), MapKept.run_setObj_map _ hb]
    rw [mapObj_snoc]
  · have hlt : b < W.heap.size := (Array.getElem?_eq_some_iff.1 hb).1
    simp [hlt]
  · refine ⟨rfl, rfl, rfl, by simp, fun k hk hne => ?_⟩
    have : b ≠ k := fun e => hne (by rw [e])
    simp [Array.getElem?_setIfInBounds, this]
end Go.Proofs.Yteldofimjklckaa.G
