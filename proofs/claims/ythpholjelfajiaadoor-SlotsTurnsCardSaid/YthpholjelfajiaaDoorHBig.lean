/- Values of many cells (arrays, structs that hold arrays): built, put into a slice of one, stored into a new local, loaded; as steps of regions. -/
import Derived.Test.YthpholjelfajiaaDoorHTy
import Derived.Deep.MidRow
import Derived.Deep.WholeRow
import Derived.Laws.Tables
namespace Go.Proofs.YthpholjelfajiaaDoor.G
open Go.RowKit Go.Proofs.YthpholjelfajiaaDoorW.PrintWords Go.Proofs.YthpholjelfajiaaDoorW.PrintLast Go.Proofs.YthpholjelfajiaaDoorW.PrintMore
set_option linter.unusedVariables false
set_option linter.unusedSimpArgs false

theorem foldl_set (off : Nat) : ∀ (vs : List Value) (i0 : Nat) (cells : Array Value), off + i0 + vs.length ≤ cells.size →
    (vs.zipIdx i0).foldl (fun cs (x : Value × Nat) => cs.setIfInBounds (off + x.2) x.1) cells = (cells.toList.take (off + i0) ++ vs ++ cells.toList.drop (off + i0 + vs.length)).toArray
  | [], i0, cells, h => by simp
  | v :: vs, i0, cells, h => by
    simp only [List.length_cons] at h
    rw [List.zipIdx_cons, List.foldl_cons, foldl_set off vs (i0 + 1) _ (by simp; omega)]
    congr 1
    apply List.ext_getElem?
    intro k
    simp only [Array.toList_setIfInBounds, List.length_cons, List.getElem?_append, List.length_append, List.length_take, List.length_set, Array.length_toList, List.getElem?_drop]
    by_cases h1 : k < off + i0
    · simp only [show min (off + (i0 + 1)) cells.size = off + i0 + 1 by omega, show min (off + i0) cells.size = off + i0 by omega, h1, show k < off + i0 + 1 + vs.length by omega, show k < off + i0 + 1 by omega, show k < off + i0 + (vs.length + 1) by omega, if_true, List.getElem?_take]
      rw [if_pos (by omega), List.getElem?_set_ne (by omega)]
    · by_cases h2 : k = off + i0
      · subst h2
        simp [show min (off + (i0 + 1)) cells.size = off + i0 + 1 by omega, show min (off + i0) cells.size = off + i0 by omega, List.getElem?_take, show off + i0 < off + (i0 + 1) by omega, show off + i0 < off + i0 + 1 + vs.length by omega, show off + i0 < cells.size by omega]
      · by_cases h3 : k < off + i0 + 1 + vs.length
        · simp only [show min (off + (i0 + 1)) cells.size = off + i0 + 1 by omega, show min (off + i0) cells.size = off + i0 by omega, h1, h3, show ¬ k < off + i0 + 1 by omega, show k < off + i0 + (vs.length + 1) by omega, if_true, if_false]
          rw [show k - (off + i0) = (k - (off + i0 + 1)) + 1 by omega, List.getElem?_cons_succ]
        · simp only [show min (off + (i0 + 1)) cells.size = off + i0 + 1 by omega, show min (off + i0) cells.size = off + i0 by omega, h3, show ¬ k < off + i0 + (vs.length + 1) by omega, if_false]
          rw [List.getElem?_set_ne (by omega)]
          congr 1
          omega
theorem fill_one (place : Nat → Option (Nat × Nat)) (cells : Array Value) (i off size : Nat) (v : Value) (rest : List (Nat × Value)) (hp : place i = some (off, size)) (hs : v.cells.size = size) (hl : off + size ≤ cells.size) :
    Instr.fill place cells ((i, v) :: rest) = Instr.fill place (cells.toList.take off ++ v.cells.toList ++ cells.toList.drop (off + size)).toArray rest := by
  rw [Instr.fill, hp]
  simp only
  rw [if_neg (by simp [hs]; omega)]
  congr 1
  have := foldl_set off v.cells.toList 0 cells (by simp [hs]; omega)
  rw [Nat.add_zero] at this
  rw [Array.length_toList, hs] at this
  rw [← this]
  have e : v.cells.zipIdx = (v.cells.toList.zipIdx 0).toArray := by
    apply Array.ext'
    simp
  rw [e, List.foldl_toArray']
  simp
section
variable {P : Program}
theorem buildSlice_one (t e : TypeId) (size bytes : Nat) (z v : Value) (hu : P.underlying t = some (.slice e)) (hi : (P.info? e).map (fun i => (i.zero, i.size, i.bytes)) = some (some z, size, bytes)) (h0 : 0 < size) (h1 : size ≤ 1000000) (hz : z.cells.size = size) (hv : v.cells.size = size) (W : World) :
    (Instr.buildSlice t 1 #[(0, v)]).run P W = .ok (.slice (some ⟨W.heap.size, 0, none⟩) 1 1) (W.alloc (.cells v.cells e)) := by
  obtain ⟨i, hi1, hi2, hi3, hi4⟩ := info_parts hi
  have hf : Instr.fill (fun i => some (i * size, size)) ((Array.range (1 * size)).map (z.cells[· % z.cells.size]!)) [(0, v)] = some v.cells := by
    rw [fill_one _ _ 0 0 size v [] (by simp) hv (by simp)]
    rw [Instr.fill]
    congr 1
    apply Array.ext'
    simp
  have hs1 : ¬ (1 * size > 2 ^ 24) := by omega
  have hs2 : ¬ (1 * size = 0) := by omega
  have hsz : ∀ w, (sizeOf e).run P w = .ok size w := fun w => by simp [sizeOf, typeInfo, hi1, hi3]
  have hzv : ∀ w, (zeroValue e).run P w = .ok z w := fun w => by simp [zeroValue, typeInfo, hi1, hi2]
  unfold Instr.buildSlice
  rw [Sem.run_bind, run_underlying hu]
  simp only [Result.andThen_ok, Sem.run_bind, hsz, if_neg hs1, if_neg hs2, hzv, Sem.run_pure, hf, newRow, newObj]
  first | rfl | simp
variable {ops : Array Oper} {rest : List Oper} {o : Oper} {a : Act} {Q : Exit → Act → World → Prop} {Kc : Act → World → Prop} {W W1 : World}
theorem exec_build (t : TypeId) (parts : Array (Nat × Operand)) (vs : Array (Nat × Value)) (v : Value) (ho : o.op = .build t parts) (hp : parts.map (fun (i, x) => (i, a.eval x)) = vs) (hr : (Instr.build t vs).run P W = .ok v W) : (execOp a.eval o).run P W = .ok (.value v) W := by
  unfold execOp
  simp only [ho, Sem.run_bind, hp, hr, Result.andThen_ok]
  rfl
theorem exec_buildSlice (t : TypeId) (n : Nat) (parts : Array (Nat × Operand)) (vs : Array (Nat × Value)) (v : Value) (ho : o.op = .buildSlice t n parts) (hp : parts.map (fun (i, x) => (i, a.eval x)) = vs) (hr : (Instr.buildSlice t n vs).run P W = .ok v W1) : (execOp a.eval o).run P W = .ok (.value v) W1 := by
  unfold execOp
  simp only [ho, Sem.run_bind, hp, hr, Result.andThen_ok]
  rfl
theorem exec_build2 (t : TypeId) (i j : Nat) (x y : Operand) (vx vy v : Value) (ho : o.op = .build t #[(i, x), (j, y)]) (hx : a.eval x = vx) (hy : a.eval y = vy) (hr : (Instr.build t #[(i, vx), (j, vy)]).run P W = .ok v W) : (execOp a.eval o).run P W = .ok (.value v) W :=
  exec_build t _ _ v ho (by subst hx; subst hy; simp) hr
theorem exec_build1 (t : TypeId) (i : Nat) (x : Operand) (vx v : Value) (ho : o.op = .build t #[(i, x)]) (hx : a.eval x = vx) (hr : (Instr.build t #[(i, vx)]).run P W = .ok v W) : (execOp a.eval o).run P W = .ok (.value v) W :=
  exec_build t _ _ v ho (by subst hx; simp) hr
theorem exec_buildSlice1 (t : TypeId) (n i : Nat) (x : Operand) (vx v : Value) (ho : o.op = .buildSlice t n #[(i, x)]) (hx : a.eval x = vx) (hr : (Instr.buildSlice t n #[(i, vx)]).run P W = .ok v W1) : (execOp a.eval o).run P W = .ok (.value v) W1 :=
  exec_buildSlice t n _ _ v ho (by subst hx; simp) hr
theorem exec_assign (x : Operand) (vx : Value) (ho : o.op = .assign x) (hx : a.eval x = vx) : (execOp a.eval o).run P W = .ok (.value vx) W := by
  subst hx
  unfold execOp
  rw [ho]
  rfl
theorem exec_convert (s d : TypeId) (x : Operand) (vx v : Value) (ho : o.op = .convert s d x) (hx : a.eval x = vx) (hr : (convert s d vx).run P W = .ok v W1) : (execOp a.eval o).run P W = .ok (.value v) W1 := by
  unfold execOp
  simp only [ho, Sem.run_bind, hx, hr, Result.andThen_ok]
  rfl
theorem exec_makeSlice (t : TypeId) (x y : Operand) (vx vy v : Value) (ho : o.op = .makeSlice t x y) (hx : a.eval x = vx) (hy : a.eval y = vy) (hr : (Instr.makeSlice t vx vy).run P W = .ok v W1) : (execOp a.eval o).run P W = .ok (.value v) W1 := by
  unfold execOp
  simp only [ho, Sem.run_bind, hx, hy, hr, Result.andThen_ok]
  rfl
theorem exec_min2 (ts : Array TypeId) (x y : Operand) (vx vy : Int) (ho : o.op = .call { callee := .builtin .min, args := #[x, y], argTypes := ts }) (hx : a.eval x = .int .i64 vx) (hy : a.eval y = .int .i64 vy) : (execOp a.eval o).run P W = .ok (.value (.int .i64 (mn vx vy))) W := by
  unfold execOp
  simp only [ho, Sem.run_bind, resolve, invoke, builtin, Sem.run_pure, Result.andThen_ok, List.map_toArray, List.map_cons, List.map_nil, hx, hy, min_two, min2_int]
  rfl
theorem exec_max2 (ts : Array TypeId) (x y : Operand) (vx vy : Int) (ho : o.op = .call { callee := .builtin .max, args := #[x, y], argTypes := ts }) (hx : a.eval x = .int .i64 vx) (hy : a.eval y = .int .i64 vy) : (execOp a.eval o).run P W = .ok (.value (.int .i64 (mx vx vy))) W := by
  unfold execOp
  simp only [ho, Sem.run_bind, resolve, invoke, builtin, Sem.run_pure, Result.andThen_ok, List.map_toArray, List.map_cons, List.map_nil, hx, hy, max_two, max2_int]
  rfl
theorem exec_copy (dT sT : TypeId) (x y : Operand) (vx vy v : Value) (ho : o.op = .call { callee := .builtin .copy, args := #[x, y], argTypes := #[dT, sT] }) (hx : a.eval x = vx) (hy : a.eval y = vy) (hr : (Builtin.copy_ #[dT, sT] o.type #[vx, vy]).run P W = .ok v W1) : (execOp a.eval o).run P W = .ok (.value v) W1 := by
  unfold execOp
  simp only [ho, Sem.run_bind, resolve, invoke, builtin, Sem.run_pure, Result.andThen_ok, List.map_toArray, List.map_cons, List.map_nil, hx, hy, hr]
theorem exec_load (t : TypeId) (x : Operand) (vx v : Value) (ho : o.op = .load t x) (hx : a.eval x = vx) (hr : (Instr.loadAt t vx).run P W = .ok v W) : (execOp a.eval o).run P W = .ok (.value v) W := by
  unfold execOp
  simp only [ho, Sem.run_bind, hx, hr, Result.andThen_ok]
  rfl
theorem exec_alloc (t : TypeId) (z : Value) (ho : o.op = .alloc t) (hz : (zeroValue t).run P W = .ok z W) : (execOp a.eval o).run P W = .ok (.value (.pointer (some ⟨W.heap.size, 0, none⟩))) (W.alloc (.cells z.cells t)) := by
  unfold execOp
  simp only [ho, Sem.run_bind, Instr.alloc, hz, Result.andThen_ok]
  rfl
theorem exec_store (t : TypeId) (x y : Operand) (vx vy : Value) (ho : o.op = .store t x y) (hx : a.eval x = vx) (hy : a.eval y = vy) (hr : (Instr.storeAt t vx vy).run P W = .ok () W1) : (execOp a.eval o).run P W = .ok .skip W1 := by
  unfold execOp
  simp only [ho, Sem.run_bind, hx, hy, hr, Result.andThen_ok]
  rfl
/-- The same in a plain region. -/
theorem wpList_exec {v : Value} (hg : o.guard = none) (hr : (execOp a.eval o).run P W = .ok (.value v) W1) (h : wpList P ops Q rest (a.put o.dst v) W1) : wpList P ops Q (o :: rest) a W :=
  wpList_plain hg fun _ hK => by
    unfold Oper.wp
    rw [hr]
    exact hK _ _ h
theorem wpList_exec_skip (hg : o.guard = none) (hd : o.dst = none) (hr : (execOp a.eval o).run P W = .ok .skip W1) (h : wpList P ops Q rest a W1) : wpList P ops Q (o :: rest) a W :=
  wpList_plain hg fun _ hK => by
    unfold Oper.wp
    rw [hr]
    refine hK _ _ ?_
    rw [hd]
    exact h
end
end Go.Proofs.YthpholjelfajiaaDoor.G
