/- neutral.sides: a map of four entries, as one block; what is looked up in it. -/
import Derived.Test.YtcjmjggifeaggaaX0
import Derived.Carry
import Derived.WideMake
namespace Go.Proofs.Ytcjmjggifeaggaa.G
open Go.RowKit Go.Proofs.YtcjmjggifeaggaaW.PrintWords Go.Proofs.YtcjmjggifeaggaaW.PrintLast Go.Proofs.YtcjmjggifeaggaaW.PrintMore
set_option linter.unusedVariables false
set_option linter.unusedSimpArgs false

/-- Here the walk stands still: a hand goes on. -/
def Halt (p : Prop) : Prop := p
theorem of_halt {p : Prop} (h : Halt p) : p := h

def sidesObj : Obj := .map #[⟨.int .i64 1, .int .i64 1, 0⟩, ⟨.int .i64 2, .int .i64 2, 1⟩, ⟨.int .i64 4, .int .i64 2, 2⟩, ⟨.int .i64 7, .int .i64 2, 3⟩] 4
/-- the side of a type; 0: none -/
def sideOf (x : Int) : Int := if x = 1 then 1 else if x = 2 then 2 else if x = 4 then 2 else if x = 7 then 2 else 0

theorem getObj_of {P : Program} {W : World} {b : Nat} {es : Array MapEntry} {c : Nat} (h : W.heap[b]? = some (.map es c)) : (getObj b).run P W = .ok (.map es c) W := by
  simp [getObj, Sem.run, h]
theorem checkKey_int {P : Program} {k : IntKind} {t : TypeId} (W : World) (b : Bool) (n : Nat) (x : Int) (ht : P.underlying t = some (.int k)) : (Instr.checkKey b (n + 1) t (.int k x)).run P W = .ok () W := by
  simp [Instr.checkKey, run_underlying ht]
theorem findKey_int {P : Program} {k : IntKind} {t : TypeId} (W : World) (x : Int) (es : List MapEntry) (r : Option (Nat × Value)) (ht : P.underlying t = some (.int k)) (h : Instr.findNow (.int k) (.int k x) es 0 = some r) : (Instr.findKey t (.int k x) es).run P W = .ok r W := by
  unfold Instr.findKey
  simp [run_underlying ht, h]
theorem alloc_new (W : World) (o : Obj) : (W.alloc o).heap[W.heap.size]? = some o := (MapKept.heap_alloc W o).1
theorem alloc_set (w : World) (o o' : Obj) : { w.alloc o with heap := (w.alloc o).heap.setIfInBounds w.heap.size o' } = w.alloc o' := by
  have h : (w.heap.push o).setIfInBounds w.heap.size o' = w.heap.push o' := by
    apply Array.ext
    · simp
    · intro i h1 h2
      simp only [Array.size_setIfInBounds, Array.size_push] at h1
      rw [Array.getElem_setIfInBounds (by simpa using h1)]
      by_cases e : w.heap.size = i
      · subst e; simp
      · rw [if_neg e]
        have hi : i < w.heap.size := by omega
        simp [Array.getElem_push_lt hi]
  show { w with heap := (w.heap.push o).setIfInBounds w.heap.size o' } = { w with heap := w.heap.push o' }
  rw [h]
theorem look_some (W : World) (b : Nat) {es : Array MapEntry} {c : Nat} (h : W.heap[b]? = some (.map es c)) (x v : Int) (i : Nat) (ok : Bool) (hf : Instr.findNow (.int .i64) (.int .i64 x) es.toList 0 = some (some (i, .int .i64 v))) :
    (Instr.lookup 39 (.map (some b)) (.int .i64 x) ok).run Try.prog W = .ok (if ok then .tuple #[.int .i64 v, .bool true] else .int .i64 v) W := by
  have hk : (Instr.checkKey es.isEmpty 10000 3 (.int .i64 x)).run Try.prog W = .ok () W := checkKey_int W _ 9999 x Try.underlying3
  unfold Instr.lookup
  simp only [Sem.run_bind, run_underlying Try.underlying39, Result.andThen_ok, getObj_of (P := Try.prog) h, Sem.run_pure, hk, findKey_int W x _ _ Try.underlying3 hf]
theorem look_none (W : World) (b : Nat) {es : Array MapEntry} {c : Nat} (h : W.heap[b]? = some (.map es c)) (x : Int) (ok : Bool) (hf : Instr.findNow (.int .i64) (.int .i64 x) es.toList 0 = some none) :
    (Instr.lookup 39 (.map (some b)) (.int .i64 x) ok).run Try.prog W = .ok (if ok then .tuple #[.int .i64 0, .bool false] else .int .i64 0) W := by
  have hk : (Instr.checkKey es.isEmpty 10000 3 (.int .i64 x)).run Try.prog W = .ok () W := checkKey_int W _ 9999 x Try.underlying3
  have hz : (zeroValue 3).run Try.prog W = .ok (.int .i64 0) W := Try.zeroValue3 W
  unfold Instr.lookup
  simp only [Sem.run_bind, run_underlying Try.underlying39, Result.andThen_ok, getObj_of (P := Try.prog) h, Sem.run_pure, hk, findKey_int W x _ _ Try.underlying3 hf, hz]
theorem look_any (W : World) (b : Nat) (h : W.heap[b]? = some sidesObj) (x : Int) (ok : Bool) : (Instr.lookup 39 (.map (some b)) (.int .i64 x) ok).run Try.prog W = .ok (if ok then .tuple #[.int .i64 (sideOf x), .bool (decide (sideOf x ≠ 0))] else .int .i64 (sideOf x)) W := by
  by_cases h1 : x = 1
  · subst h1; exact look_some W b h 1 1 0 ok rfl
  by_cases h2 : x = 2
  · subst h2; exact look_some W b h 2 2 1 ok rfl
  by_cases h4 : x = 4
  · subst h4; exact look_some W b h 4 2 2 ok rfl
  by_cases h7 : x = 7
  · subst h7; exact look_some W b h 7 2 3 ok rfl
  have e : sideOf x = 0 := by simp [sideOf, h1, h2, h4, h7]
  rw [e]
  have n1 : (x == 1) = false := by simpa using h1
  have n2 : (x == 2) = false := by simpa using h2
  have n4 : (x == 4) = false := by simpa using h4
  have n7 : (x == 7) = false := by simpa using h7
  exact look_none W b h x ok (by simp [Instr.findNow, Instr.sameNow, n1, n2, n4, n7])
theorem sideLookOk (W : World) (b : Nat) (h : W.heap[b]? = some sidesObj) (x : Int) : (Instr.lookup 39 (.map (some b)) (.int .i64 x) true).run Try.prog W = .ok (.tuple #[.int .i64 (sideOf x), .bool (decide (sideOf x ≠ 0))]) W := look_any W b h x true
theorem sideLook (W : World) (b : Nat) (h : W.heap[b]? = some sidesObj) (x : Int) : (Instr.lookup 39 (.map (some b)) (.int .i64 x) false).run Try.prog W = .ok (.int .i64 (sideOf x)) W := look_any W b h x false

/-- a store of a new key -/
theorem upd (w : World) (es : Array MapEntry) (clock : Nat) (x v : Int) (hn : Instr.findNow (.int .i64) (.int .i64 x) es.toList 0 = some none) :
    (Instr.mapUpdate 39 (.map (some w.heap.size)) (.int .i64 x) (.int .i64 v)).run Try.prog (w.alloc (.map es clock)) = .ok () (w.alloc (.map (es.push ⟨.int .i64 x, .int .i64 v, clock⟩) (clock + 1))) := by
  have hb : (w.alloc (.map es clock)).heap[w.heap.size]? = some (.map es clock) := alloc_new w _
  have hk : (Instr.checkKey false 10000 3 (.int .i64 x)).run Try.prog (w.alloc (.map es clock)) = .ok () (w.alloc (.map es clock)) := checkKey_int _ _ 9999 x Try.underlying3
  unfold Instr.mapUpdate
  simp only [Sem.run_bind, run_underlying Try.underlying39, Result.andThen_ok, getObj_of (P := Try.prog) hb, Sem.run_pure, hk, findKey_int _ x _ _ Try.underlying3 hn, MapKept.run_setObj_map _ hb]
  rw [alloc_set]
set_option maxHeartbeats 2000000 in
theorem sides_calls (w : World) : Calls Try.prog 16 #[] w fun e w' => e = .returned (.map (some w.heap.size)) ∧ w' = w.alloc sidesObj := by
  have hmm := @run_makeMap Try.prog
  have u1 := upd w #[] 0 1 1 rfl
  have u2 := upd w #[⟨.int .i64 1, .int .i64 1, 0⟩] 1 2 2 rfl
  have u3 := upd w #[⟨.int .i64 1, .int .i64 1, 0⟩, ⟨.int .i64 2, .int .i64 2, 1⟩] 2 4 2 rfl
  have u4 := upd w #[⟨.int .i64 1, .int .i64 1, 0⟩, ⟨.int .i64 2, .int .i64 2, 1⟩, ⟨.int .i64 4, .int .i64 2, 2⟩] 3 7 2 rfl
  simp only [List.push_toArray, List.cons_append, List.nil_append, Nat.zero_add, Nat.reduceAdd] at u1 u2 u3 u4
  go_enter Try.func16, Try.ntmps16
  go_wp2
  go_ret
  exact ⟨rfl, rfl⟩
end Go.Proofs.Ytcjmjggifeaggaa.G
