/- The disk: all, what it hands to a loop. By hand. -/
import Derived.RangeFuncWrites
import Derived.RangeFuncNested
import Derived.RangeFuncBound
import Derived.RangeFuncCalls
import Derived.RangeFuncLeaves
import Derived.Shelf.Abstract
import Derived.Shelf.RegionOpen
import Derived.WalkKit
import Derived.OwnWalkIn
import Derived.TacticsInMore
import Derived.LoopNIn
import Derived.LoopIn
import Derived.Test.YtckbdckeijanlaaHDskE
import Derived.Test.YtckbdckeijanlaaHTame
namespace Go.Proofs.Ytckbdckeijanlaa.G
open Go.RowKit Go.Shelf Go.Proofs.YtckbdckeijanlaaW.PrintWords Go.Proofs.YtckbdckeijanlaaW.PrintLast Go.Proofs.YtckbdckeijanlaaW.PrintMore Go.Proofs.Ytckbdckeijanlaa.Dsk
set_option linter.unusedVariables false
set_option linter.unusedSimpArgs false
attribute [local go_sem] Oper.semAt_some
set_option maxHeartbeats 4000000 in
theorem all_calls (g : Nat) (w : World) : Calls Try.prog 29 #[.pointer (some ⟨g, 0, none⟩)] w fun e w' => e = .returned (.func (.func 37) #[] #[.pointer (some ⟨w.heap.size, 0, none⟩)]) ∧ w' = w.alloc (.cells #[.pointer (some ⟨g, 0, none⟩)] 24) := by
  go_enter Try.func29, Try.ntmps29
  go_wp2
  go_ret
  exact ⟨rfl, rfl⟩
/-- A write, as a value; its cells. -/
def wcells (w : Nat × List Int) : List Value := .int .i64 (w.1 : Int) :: bts w.2
abbrev encWt (ws : List (Nat × List Int)) (x : Fin ws.length) : Array Value := #[.int .i64 ((x : Nat) : Int), .agg (wcells ws[x.val]).toArray]
def allW (ws : List (Nat × List Int)) : List (Fin ws.length) := List.ofFn (fun k => k)
theorem take_ofFn {α : Type} {n : Nat} (f : Fin n → α) (k : Nat) (h : k < n) : (List.ofFn f).take (k + 1) = (List.ofFn f).take k ++ [f ⟨k, h⟩] := by
  rw [List.take_succ_eq_append_getElem (by simpa using h)]
  simp
theorem take_ofFn_all {α : Type} {n : Nat} (f : Fin n → α) : (List.ofFn f).take n = List.ofFn f := List.take_of_length_le (by simp)
theorem wcells_length (w : Nat × List Int) (h : w.2.length = 64) : (wcells w).length = 65 := by simp [wcells, bts_length, h]
theorem wcells_one (w : Nat × List Int) : ∀ u ∈ wcells w, u.oneCell' = true := fun u hu => by
  rcases List.mem_cons.1 hu with rfl | hu
  · rfl
  · exact bts_one _ u hu
/-- A write that lies in line is loaded whole. -/
theorem load_wrt (V : World) (b o : Nat) (w : Nat × List Int) (hx : w.2.length = 64) (h : V.rangeAt b o (wcells w)) : (Instr.loadAt 64 (.pointer (some ⟨b, o, none⟩))).run Try.prog V = .ok (.agg (wcells w).toArray) V :=
  run_loadAt_mid V b o 64 (wcells w) _ h Try.underlying64 rfl (by rw [wcells_length w hx]; exact sizeW)
theorem zero_W (V : World) : (zeroValue 64).run Try.prog V = .ok zeroW V := (zero_of_info (v := zeroW) (n := 65) (by
  have := infoW
  cases hq : Try.prog.info? 64 with
  | none => simp [hq] at this
  | some i => simp [hq] at this; simp [this.1, this.2.1])).1 V
theorem zero_S (V : World) : (zeroValue 62).run Try.prog V = .ok (.agg (List.replicate 64 (Value.int .u8 0)).toArray) V := (zero_of_info (v := .agg (List.replicate 64 (Value.int .u8 0)).toArray) (n := 64) (by
  have := infoS
  cases hq : Try.prog.info? 62 with
  | none => simp [hq] at this
  | some i => simp [hq] at this; simp [this.1, this.2.1])).1 V
theorem range_new (W : World) (cs : List Value) (t : TypeId) : (W.alloc (.cells cs.toArray t)).rangeAt W.heap.size 0 cs := fun j v hv => by
  rw [cell_of_row _ _ _ cs.toArray t (0, 0) (heap_alloc_last W _), Nat.zero_add]
  simpa using hv
theorem store_wrt (W : World) (w : Nat × List Int) (hx : w.2.length = 64) : (Instr.storeAt 64 (.pointer (some ⟨W.heap.size, 0, none⟩)) (.agg (wcells w).toArray)).run Try.prog (W.alloc (.cells zeroW.cells 64)) = .ok () (W.alloc (.cells (wcells w).toArray 64)) :=
  run_storeAt_new W _ _ _ (by rw [List.size_toArray, wcells_length w hx]; exact sizeW) (by rw [zeroW_size, List.size_toArray, wcells_length w hx]) (all_oneCell_toArray (wcells_one w))
set_option maxRecDepth 100000 in
set_option maxHeartbeats 8000000 in
theorem all1_in (F : Fence) (n : Nat) (h8 : F.fn 37) (hro : F.round = none) (hn : 1 ≤ n) (l Bs g c : Nat) (A : Option Addr) (ws : List (Nat × List Int)) (w0 : World) (hlen : ws.length < 17592186044416)
    (hR : wrtK.R 64 w0 0 (fun k => some k = (Value.slice A ws.length c).ownBlock) (.slice A ws.length c) (ws.map encW)) (hbs : w0.cell? ⟨Bs, 0, none⟩ = some (.pointer (some ⟨g, 0, none⟩))) (hwv : w0.cell? ⟨g, 1, none⟩ = some (.slice A ws.length c))
    (Kk : World → World → Prop) (hKk : ∀ X Y, w0.heap.size ≤ X.heap.size → Kk X Y → X.heap.size ≤ Y.heap.size ∧ ∀ k, some k = (Value.slice A ws.length c).ownBlock → Y.heap[k]? = X.heap[k]?)
    (J Jx : List (Fin ws.length) → World → Prop) (W : World) (hW : Below w0.heap.size w0 W) (hJ : AbidesFrom W.heap.size J)
    (hY : ∀ pre x W1, J pre W1 → pre.length < ws.length → YieldAt F (n - 1) Try.prog l (encWt ws x) W1 fun e W' =>
      (e = .returned (.bool true) ∧ J (pre ++ [x]) W' ∧ Kk W1 W') ∨ (e = .returned (.bool false) ∧ Jx (pre ++ [x]) W'))
    (h0 : J [] W) :
    CallsIn F n Try.prog 37 #[.func (.yield l) #[] #[], .pointer (some ⟨Bs, 0, none⟩)] W fun e W' => (∃ v, e = .returned v) ∧
      ((∃ ys, ys = allW ws ∧ J ys W') ∨ (∃ pre, True ∧ Jx pre W')) := by
  have c1 := (hW.cell (p := ⟨Bs, 0, none⟩) (World.block_lt_of_cell? w0 _ hbs)).trans hbs
  have c2 := (hW.cell (p := ⟨g, 1, none⟩) (World.block_lt_of_cell? w0 _ hwv)).trans hwv
  have HR := Aside0.mk (Kd.R_step hR (fun k _ hlt => hW.block k hlt))
  have HSZ := Aside0.mk hW.size
  have HL := Aside0.mk hlen
  have HK := Aside0.mk hKk
  have HJ := Aside0.mk hJ
  have HZ := Aside0.mk zero_W
  clear hR hW hbs hwv hlen hKk hJ
  refine callsIn_of_wp Try.func37 rfl h8 ?_ hro
  simp only [Try.ntmps37, List.size_toArray, List.length_cons, List.length_nil, Nat.reduceAdd, Nat.reduceSub, Array.replicate_succ, Array.replicate_zero, List.push_toArray, List.append_toArray, List.nil_append, List.cons_append]
  gi_wp2
  clear c1 c2
  gi_loopw [10] (fun i wr => ∃ k : Nat, Aside0 (k ≤ ws.length) ∧ i = .int .i64 k ∧ J ((allW ws).take k) wr ∧ Aside0 (w0.heap.size ≤ wr.heap.size ∧ W.heap.size ≤ wr.heap.size) ∧ Aside0 (wrtK.R 64 wr 0 (fun k => some k = (Value.slice A ws.length c).ownBlock) (.slice A ws.length c) (ws.map encW)))
    (fun i _ => ws.length - (intOf i).toNat)
  case atStart => exact ⟨0, ⟨Nat.zero_le _⟩, rfl, by simpa using h0, ⟨HSZ.out, Nat.le_refl _⟩, HR⟩
  case round =>
    obtain ⟨k, HKL, rfl, hJs, HS, HRr0⟩ := hrel
    by_cases hlt : k < ws.length
    · obtain ⟨gw, hA⟩ : ∃ gw, A = some ⟨gw, 0, none⟩ := by
        obtain ⟨gw, cp, e, _⟩ := Kd.R_form HRr0.out (by simpa using (show 0 < ws.length by omega))
        injection e with e1 _ _
        exact ⟨gw, e1⟩
      subst hA
      obtain ⟨hx, hrg⟩ := wrt_range (gl := gw) (n := (ws.map encW).length) (xs := ws.map encW) (Kd.R_reads' HRr0.out).2.2 k (by simpa using hlt) (encW ws[k]) (by simp [hlt])
      have hload : (Instr.loadAt 64 (.pointer (some ⟨gw, k * 65, none⟩))).run Try.prog wr = .ok (.agg (wcells ws[k]).toArray) wr := load_wrt wr gw (k * 65) ws[k] hx hrg
      have hload2 := load_wrt (wr.alloc (.cells (wcells ws[k]).toArray 64)) wr.heap.size 0 ws[k] hx (range_new wr _ _)
      have hJ2 : J ((allW ws).take k) (wr.alloc (.cells (wcells ws[k]).toArray 64)) := HJ.out _ wr _ none hJs (World.grownBy_alloc wr _ none) (fun r e => by cases e)
      obtain ⟨fn, tmps, assign, body, hy, hRr⟩ := hY _ (⟨k, hlt⟩ : Fin ws.length) _ hJ2 (by simp [allW]; omega)
      (try dsimp only [encWt] at hy); (try dsimp only [encWt] at hRr)
      have hst := store_wrt wr ws[k] hx
      have hi : (k : Int) < (ws.length : Int) := by omega
      have HLT := Aside0.mk hlt
      have HX := Aside0.mk (And.intro hx hrg)
      have HLD := Aside0.mk (And.intro hload (And.intro hload2 hst))
      clear hx hrg hload hload2 hst hJ2 hJs
      generalize hz : ws[k] = z at *
      have HZZ := Aside0.mk hz
      clear hz
      gi_wp2_with (first
        | ((with_reducible refine gateIn_ (.load 64 (.tmp 13)) rfl ?_); refine wpListIn_exec rfl rfl (exec_load 64 _ (.pointer (some ⟨gw, k * 65, none⟩)) _ rfl rfl HLD.out.1) ?_)
        | ((with_reducible refine gateIn_ (.alloc 64) rfl ?_); refine wpListIn_exec rfl rfl (exec_alloc 64 zeroW rfl (HZ.out _)) ?_)
        | ((with_reducible refine gateIn_ (.store 64 (.tmp 4) (.tmp 14)) rfl ?_); refine wpListIn_exec_skip rfl rfl rfl (exec_store 64 _ _ (.pointer (some ⟨wr.heap.size, 0, none⟩)) (.agg (wcells z).toArray) rfl rfl rfl HLD.out.2.2) ?_)
        | ((with_reducible refine gateIn_ (.load 64 (.tmp 4)) rfl ?_); refine wpListIn_exec rfl rfl (exec_load 64 _ (.pointer (some ⟨wr.heap.size, 0, none⟩)) _ rfl rfl HLD.out.2.1) ?_))
      refine hRr.mono ?_
      rintro e W3 (⟨rfl, hJ3, hk3⟩ | ⟨rfl, hJx3⟩)
      · have hk4 := HK.out _ _ (by have := HS.out.1; simp; omega) hk3
        have HR3 := Aside0.mk (Kd.R_step (Kd.R_alloc HRr0.out (.cells (wcells z).toArray 64)) (fun q hq _ => hk4.2 q hq))
        have HS3 := Aside0.mk (show w0.heap.size ≤ W3.heap.size ∧ W.heap.size ≤ W3.heap.size from by have := HS.out; have := hk4.1; simp at this; omega)
        clear hk3 hk4
        gi_wp2
        go_roundw
        case rel => exact ⟨k + 1, ⟨by have := HLT.out; omega⟩, by rw [show wrap64 ((k : Int) + 1) = ((k + 1 : Nat) : Int) from by have := HLT.out; have := HL.out; unfold wrap64; omega], by rw [allW, take_ofFn _ k HLT.out]; exact hJ3, HS3, HR3⟩
        case measure => rw [show wrap64 ((k : Int) + 1) = ((k + 1 : Nat) : Int) from by have := HLT.out; have := HL.out; unfold wrap64; omega]; simp only [intOf, Int.toNat_natCast]; have := HLT.out; omega
      · gi_wp2
        refine bodyPost_ret (results_none rfl _ _ _) rfl ?_
        exact ⟨⟨_, rfl⟩, .inr ⟨_, trivial, hJx3⟩⟩
    · obtain rfl : k = ws.length := by have := HKL.out; omega
      gi_wp2
      go_end0
      exact ⟨⟨_, rfl⟩, .inl ⟨_, rfl, by rw [allW, take_ofFn_all] at hJs; exact hJs⟩⟩
theorem all_stops (F : Fence) (n : Nat) (h8 : F.fn 37) (hro : F.round = none) (hn : 1 ≤ n) (Bs g c : Nat) (A : Option Addr) (ws : List (Nat × List Int)) (w0 : World) (hlen : ws.length < 17592186044416)
    (hR : wrtK.R 64 w0 0 (fun k => some k = (Value.slice A ws.length c).ownBlock) (.slice A ws.length c) (ws.map encW)) (hbs : w0.cell? ⟨Bs, 0, none⟩ = some (.pointer (some ⟨g, 0, none⟩))) (hwv : w0.cell? ⟨g, 1, none⟩ = some (.slice A ws.length c))
    (Kk : World → World → Prop) (hKk : ∀ X Y, w0.heap.size ≤ X.heap.size → Kk X Y → X.heap.size ≤ Y.heap.size ∧ ∀ k, some k = (Value.slice A ws.length c).ownBlock → Y.heap[k]? = X.heap[k]?) :
    SeqStopsK F n Try.prog 37 #[.pointer (some ⟨Bs, 0, none⟩)] (fun x : Fin ws.length => encWt ws x) Kk (fun ys => ys = allW ws) (fun _ => True) ws.length w0 := fun l J Jx W hW hJ _ hY h0 =>
  all1_in F n h8 hro hn l Bs g c A ws w0 hlen hR hbs hwv Kk hKk J Jx W hW hJ hY h0
end Go.Proofs.Ytckbdckeijanlaa.G
