/- What came in, opened by its type: numbers, Bools, strings, structs, slices, one within another. -/
import Derived.ChangeSlices
import Derived.ProofKit
import Derived.OpenShut
import Derived.Deep.Slices
import Derived.Test.YthpholjelfajiaaDoorX0
import Derived.SizedLaws
namespace Go.Proofs.YthpholjelfajiaaDoor.R
open Go.RowKit Go.ChangeShapes Go.WideShapes Go.ChangeAt Go.Deep Go.Proofs.YthpholjelfajiaaDoorW.PrintWords Go.Proofs.YthpholjelfajiaaDoorW.PrintLast Go.Proofs.YthpholjelfajiaaDoorW.PrintMore
set_option linter.unusedVariables false
/-- Whatever reads as a type's datum has cells of this kind. -/
def Opens {α : Type} (P : Program) (t : TypeId) (d : Kd α) (φ : α → Prop) : Prop :=
  d.sz = P.cellsOf t ∧ ∀ {H : Type} (enc : TypeId × Value → H) (w : World) (held : Bool) (fuel : Nat) (cs : List Value) (x : DataW H × List MemPlace), DataW.trod enc P w 0 (fun _ => true) held fuel t cs = some x → ∃ y, d.K w y cs ∧ φ y
theorem opens_int {P : Program} {t : TypeId} {k : IntKind} (ht : P.underlying t = some (.int k)) (hc : P.cellsOf t = 1) : Opens P t (Kd.int k) (fun n => (Lit.int k n).wf = true) :=
  ⟨hc.symm, fun enc w held fuel cs x h => by
    obtain ⟨n, rfl, _, hw⟩ := DataW.trod_int ht h
    exact ⟨n, rfl, hw⟩⟩
theorem opens_bool {P : Program} {t : TypeId} (ht : P.underlying t = some .bool) (hc : P.cellsOf t = 1) : Opens P t Kd.bool (fun _ => True) :=
  ⟨hc.symm, fun enc w held fuel cs x h => by
    obtain ⟨n, rfl, _⟩ := DataW.trod_bool ht h
    exact ⟨n, rfl, trivial⟩⟩
theorem opens_string {P : Program} {t : TypeId} (ht : P.underlying t = some .string) (hc : P.cellsOf t = 1) : Opens P t Kd.string (fun s => s.size ≤ maxLen) :=
  ⟨hc.symm, fun enc w held fuel cs x h => by
    obtain ⟨n, rfl, _, hs⟩ := DataW.trod_string ht h
    exact ⟨n, rfl, hs⟩⟩
theorem opens_slice {α : Type} {P : Program} {t e e0 : TypeId} {d : Kd α} {φ : α → Prop} (ht : P.underlying t = some (.slice e)) (hc : P.cellsOf t = 1) (hd : Opens P e d φ) : Opens P t (Kd.slice e0 d) (fun l => ∀ y ∈ l, φ y) :=
  ⟨hc.symm, fun enc w held fuel cs x h => by
    rcases open_slice ht h with ⟨rfl, _⟩ | ⟨a, len, cap, m, n, D, Pl, rfl, _, hl, hm, hmm, _, hx⟩
    · exact ⟨[], ⟨none, 0, rfl, Nat.le_refl _, Kd.C_nil _ _⟩, fun y hy => by cases hy⟩
    · have hlm : len ≤ m := by rw [hmm]; simpa using hl
      have hy : ∀ i : Fin len, ∃ y, (∃ cs', w.cells? 0 (a.add (i.val * P.cellsOf e)) (P.cellsOf e) = some cs' ∧ d.K w y cs') ∧ φ y := fun i => by
        obtain ⟨cs', h1, h2⟩ := hx i.val (by have := i.isLt; omega)
        obtain ⟨y, hk, hφ⟩ := hd.2 enc w held n cs' _ h2
        exact ⟨y, ⟨cs', h1, hk⟩, hφ⟩
      refine ⟨List.ofFn (fun i : Fin len => Classical.choose (hy i)), ⟨some a, cap, by simp, by simpa using hl, by simp, by simp; unfold maxLen at hm; omega, fun hp => ⟨a, rfl, fun j p hj => ?_⟩⟩, fun y hyy => ?_⟩
      · obtain ⟨hjl, rfl⟩ := List.getElem?_eq_some_iff.1 hj
        rw [List.length_ofFn] at hjl
        rw [List.getElem_ofFn]
        obtain ⟨⟨cs', h1, hk⟩, _⟩ := Classical.choose_spec (hy ⟨j, hjl⟩)
        obtain ⟨_, hlen, hcell⟩ := World.cells?_some h1
        refine ⟨cs', d.K_len hk, hk, fun i u hu => ?_⟩
        have hi : i < cs'.length := (List.getElem?_eq_some_iff.1 hu).1
        have := hcell i (by omega)
        rw [Addr.add_add, ← hd.1] at this
        rw [this, hu]
      · obtain ⟨i, rfl⟩ := (List.mem_ofFn ..).1 hyy
        exact (Classical.choose_spec (hy i)).2⟩
/-- A struct's fields from a place on. -/
def OpensF {α : Type} (P : Program) (fs : List Field) (off : Nat) (d : Kd α) (φ : α → Prop) : Prop :=
  ∀ {H : Type} (enc : TypeId × Value → H) (w : World) (held : Bool) (n : Nat) (cs : List Value), (∀ f ∈ fs, ∃ x, DataW.trod enc P w 0 (fun _ => true) held n f.type ((cs.drop f.offset).take (P.cellsOf f.type)) = some x) → ∃ y, d.K w y ((cs.drop off).take d.sz) ∧ φ y
theorem opensF_one {α : Type} {P : Program} {f : Field} {off : Nat} {d : Kd α} {φ : α → Prop} (ho : f.offset = off) (hd : Opens P f.type d φ) : OpensF P [f] off d φ := fun enc w held n cs h => by
  obtain ⟨x, hx⟩ := h f (by simp)
  obtain ⟨y, hk, hφ⟩ := hd.2 enc w held n _ x hx
  rw [ho, ← hd.1] at hk
  exact ⟨y, hk, hφ⟩
theorem opensF_cons {α β : Type} {P : Program} {f : Field} {fs : List Field} {off off' : Nat} {a : Kd α} {b : Kd β} {φ : α → Prop} {ψ : β → Prop} (ho : f.offset = off) (ha : Opens P f.type a φ) (hs : off + a.sz = off') (hb : OpensF P fs off' b ψ) : OpensF P (f :: fs) off (Kd.pair a b) (fun y => φ y.1 ∧ ψ y.2) := fun enc w held n cs h => by
  obtain ⟨x, hx⟩ := h f (by simp)
  obtain ⟨y, hk, hφ⟩ := ha.2 enc w held n _ x hx
  rw [ho, ← ha.1] at hk
  obtain ⟨z, hz, hψ⟩ := hb enc w held n cs (fun g hg => h g (by simp [hg]))
  refine ⟨(y, z), ⟨_, _, ?_, hk, hz⟩, hφ, hψ⟩
  show (cs.drop off).take (a.sz + b.sz) = _
  rw [← hs, ← List.drop_drop, List.take_add]
theorem opens_struct {α : Type} {P : Program} {t : TypeId} {fs : Array Field} {d : Kd α} {φ : α → Prop} (ht : P.underlying t = some (.struct fs)) (hc : d.sz = P.cellsOf t) (hf : OpensF P fs.toList 0 d φ) : Opens P t d φ :=
  ⟨hc, fun enc w held fuel cs x h => by
    obtain ⟨xs, n, _, _, hl, hlen, hx⟩ := DataW.trod_struct ht h
    obtain ⟨y, hk, hφ⟩ := hf enc w held n cs (fun f hf => by
      obtain ⟨i, hi, rfl⟩ := List.mem_iff_getElem.1 hf
      have hi' : i < fs.size := by simpa using hi
      have := hx i fs[i] (by simp [hi'])
      simp only [Array.getElem_toList]
      rw [this, List.getElem?_eq_getElem (by omega)]
      exact ⟨_, rfl⟩)
    rw [List.drop_zero, hc, ← hl, List.take_length] at hk
    exact ⟨y, hk, hφ⟩⟩
/-- A slice that is a parameter. -/
theorem open_param {α : Type} {H : Type} {enc : TypeId × Value → H} {P : Program} {w : World} {held : Bool} {t e0 : TypeId} {d : Kd α} {φ : List α → Prop} {a : Option Addr} {len cap : Nat} {y : DataW H} {p : List MemPlace} (ho : Opens P t (Kd.slice e0 d) φ) (h : DataW.Trod enc P w 0 (fun _ => true) held t (.slice a len cap) y p) :
    ∃ l : List α, len = l.length ∧ l.length ≤ cap ∧ Kd.C d w a l.length l ∧ φ l := by
  obtain ⟨fuel, hf⟩ := h
  obtain ⟨l, ⟨A, c, hcs, hlc, hC⟩, hφ⟩ := ho.2 enc w held fuel _ _ hf
  simp only [Value.cells, List.cons.injEq, and_true] at hcs
  injection hcs with h1 h2 h3
  subst h1 h2 h3
  exact ⟨l, rfl, hlc, hC, hφ⟩
end Go.Proofs.YthpholjelfajiaaDoor.R
/- What came in, opened by its type, each row within no more bytes than its weight allows. -/
namespace Go.Proofs.YthpholjelfajiaaDoor.R
open Go.RowKit Go.ChangeShapes Go.WideShapes Go.ChangeAt Go.Deep Go.Proofs.YthpholjelfajiaaDoorW.PrintWords Go.Proofs.YthpholjelfajiaaDoorW.PrintLast Go.Proofs.YthpholjelfajiaaDoorW.PrintMore
set_option linter.unusedVariables false
theorem mem_weightsAll {H : Type} {P : Program} {e : TypeId} {d : DataW H} {m : Nat} : ∀ {l : List (DataW H)}, d ∈ l → m ∈ d.weights P e → m ∈ DataW.weightsAll P e l
  | q :: r, h, hm => by
    rw [DataW.weightsAll, List.mem_append]
    rcases List.mem_cons.1 h with rfl | h
    · exact .inl hm
    · exact .inr (mem_weightsAll h hm)
def OpensW {α : Type} (P : Program) (R0 : Nat) (t : TypeId) (d : Kd α) (φ : α → Prop) : Prop :=
  d.sz = P.cellsOf t ∧ ∀ {H : Type} (enc : TypeId × Value → H) (w : World) (held : Bool) (fuel : Nat) (cs : List Value) (x : DataW H × List MemPlace), DataW.trod enc P w 0 (fun _ => true) held fuel t cs = some x → (∀ m ∈ x.1.weights P t, m ≤ R0) → ∃ y, d.K w y cs ∧ φ y
theorem Opens.w {α : Type} {P : Program} {t : TypeId} {d : Kd α} {φ : α → Prop} (R0 : Nat) (h : Opens P t d φ) : OpensW P R0 t d φ := ⟨h.1, fun enc w held fuel cs x hx _ => h.2 enc w held fuel cs x hx⟩
theorem opensW_slice {α : Type} {P : Program} {R0 : Nat} {t e e0 : TypeId} {d : Kd α} {φ : α → Prop} (ht : P.underlying t = some (.slice e)) (hc : P.cellsOf t = 1) (hd : OpensW P R0 e d φ) : OpensW P R0 t (Kd.slice e0 d) (fun l => (∀ y ∈ l, φ y) ∧ l.length * P.bytesOf e ≤ R0) :=
  ⟨hc.symm, fun enc w held fuel cs x h hw => by
    rcases open_slice ht h with ⟨rfl, _⟩ | ⟨a, len, cap, m, n, D, Pl, rfl, _, hl, hm, hmm, rfl, hx⟩
    · exact ⟨[], ⟨none, 0, rfl, Nat.le_refl _, Kd.C_nil _ _⟩, (fun y hy => by cases hy), by simp⟩
    · have hlm : len ≤ m := by rw [hmm]; simpa using hl
      have hw' : ∀ q ∈ ((((List.range len).map D).length + ((List.range (m - len)).map fun j => D (len + j)).length) * P.bytesOf e :: (DataW.weightsAll P e ((List.range len).map D) ++ DataW.weightsAll P e ((List.range (m - len)).map fun j => D (len + j)))), q ≤ R0 := fun q hq => hw q (by simpa only [DataW.weights, ht] using hq)
      have hlen : len * P.bytesOf e ≤ R0 := by
        have := hw' _ (List.mem_cons_self ..)
        refine Nat.le_trans (Nat.mul_le_mul_right _ ?_) this
        simp
      have hy : ∀ i : Fin len, ∃ y, (∃ cs', w.cells? 0 (a.add (i.val * P.cellsOf e)) (P.cellsOf e) = some cs' ∧ d.K w y cs') ∧ φ y := fun i => by
        obtain ⟨cs', h1, h2⟩ := hx i.val (by have := i.isLt; omega)
        obtain ⟨y, hk, hφ⟩ := hd.2 enc w held n cs' _ h2 (fun q hq => hw' q (List.mem_cons_of_mem _ (List.mem_append.2 (.inl (mem_weightsAll (List.mem_map.2 ⟨i.val, by simp, rfl⟩) hq)))))
        exact ⟨y, ⟨cs', h1, hk⟩, hφ⟩
      refine ⟨List.ofFn (fun i : Fin len => Classical.choose (hy i)), ⟨some a, cap, by simp, by simpa using hl, by simp, by simp; unfold maxLen at hm; omega, fun hp => ⟨a, rfl, fun j p hj => ?_⟩⟩, fun y hyy => ?_, by rw [List.length_ofFn]; exact hlen⟩
      · obtain ⟨hjl, rfl⟩ := List.getElem?_eq_some_iff.1 hj
        rw [List.length_ofFn] at hjl
        rw [List.getElem_ofFn]
        obtain ⟨⟨cs', h1, hk⟩, _⟩ := Classical.choose_spec (hy ⟨j, hjl⟩)
        obtain ⟨_, hlen, hcell⟩ := World.cells?_some h1
        refine ⟨cs', d.K_len hk, hk, fun i u hu => ?_⟩
        have hi : i < cs'.length := (List.getElem?_eq_some_iff.1 hu).1
        have := hcell i (by omega)
        rw [Addr.add_add, ← hd.1] at this
        rw [this, hu]
      · obtain ⟨i, rfl⟩ := (List.mem_ofFn ..).1 hyy
        exact (Classical.choose_spec (hy i)).2⟩
def OpensFW {α : Type} (P : Program) (R0 : Nat) (fs : List Field) (off : Nat) (d : Kd α) (φ : α → Prop) : Prop :=
  ∀ {H : Type} (enc : TypeId × Value → H) (w : World) (held : Bool) (n : Nat) (cs : List Value), (∀ f ∈ fs, ∃ x, DataW.trod enc P w 0 (fun _ => true) held n f.type ((cs.drop f.offset).take (P.cellsOf f.type)) = some x ∧ ∀ m ∈ x.1.weights P f.type, m ≤ R0) → ∃ y, d.K w y ((cs.drop off).take d.sz) ∧ φ y
theorem opensFW_one {α : Type} {P : Program} {R0 : Nat} {f : Field} {off : Nat} {d : Kd α} {φ : α → Prop} (ho : f.offset = off) (hd : OpensW P R0 f.type d φ) : OpensFW P R0 [f] off d φ := fun enc w held n cs h => by
  obtain ⟨x, hx, hw⟩ := h f (by simp)
  obtain ⟨y, hk, hφ⟩ := hd.2 enc w held n _ x hx hw
  rw [ho, ← hd.1] at hk
  exact ⟨y, hk, hφ⟩
theorem opensFW_cons {α β : Type} {P : Program} {R0 : Nat} {f : Field} {fs : List Field} {off off' : Nat} {a : Kd α} {b : Kd β} {φ : α → Prop} {ψ : β → Prop} (ho : f.offset = off) (ha : OpensW P R0 f.type a φ) (hs : off + a.sz = off') (hb : OpensFW P R0 fs off' b ψ) : OpensFW P R0 (f :: fs) off (Kd.pair a b) (fun y => φ y.1 ∧ ψ y.2) := fun enc w held n cs h => by
  obtain ⟨x, hx, hw⟩ := h f (by simp)
  obtain ⟨y, hk, hφ⟩ := ha.2 enc w held n _ x hx hw
  rw [ho, ← ha.1] at hk
  obtain ⟨z, hz, hψ⟩ := hb enc w held n cs (fun g hg => h g (by simp [hg]))
  refine ⟨(y, z), ⟨_, _, ?_, hk, hz⟩, hφ, hψ⟩
  show (cs.drop off).take (a.sz + b.sz) = _
  rw [← hs, ← List.drop_drop, List.take_add]
theorem opensW_struct {α : Type} {P : Program} {R0 : Nat} {t : TypeId} {fs : Array Field} {d : Kd α} {φ : α → Prop} (ht : P.underlying t = some (.struct fs)) (hc : d.sz = P.cellsOf t) (hf : OpensFW P R0 fs.toList 0 d φ) : OpensW P R0 t d φ :=
  ⟨hc, fun enc w held fuel cs x h hw => by
    obtain ⟨xs, n, _, rfl, hl, hlen, hx⟩ := DataW.trod_struct ht h
    have hw' : ∀ q ∈ DataW.weightsEach P (fs.toList.map (·.type)) (xs.map (·.1)), q ≤ R0 := fun q hq => hw q (by simpa only [DataW.weights, ht] using hq)
    obtain ⟨y, hk, hφ⟩ := hf enc w held n cs (fun f hf => by
      obtain ⟨i, hi, rfl⟩ := List.mem_iff_getElem.1 hf
      have hi' : i < fs.size := by simpa using hi
      have := hx i fs[i] (by simp [hi'])
      simp only [Array.getElem_toList]
      rw [this, List.getElem?_eq_getElem (by omega)]
      exact ⟨_, rfl, fun m hm => hw' m (DataW.weights_mem_each (j := i) (t := fs[i].type) (d := xs[i].1) (by simp [hi']) (by rw [List.getElem?_map, List.getElem?_eq_getElem (by omega)]; rfl) m hm)⟩)
    rw [List.drop_zero, hc, ← hl, List.take_length] at hk
    exact ⟨y, hk, hφ⟩⟩
/-- A slice that is a parameter. -/
theorem open_paramW {α : Type} {H : Type} {enc : TypeId × Value → H} {P : Program} {R0 : Nat} {w : World} {held : Bool} {t e0 : TypeId} {d : Kd α} {φ : List α → Prop} {a : Option Addr} {len cap : Nat} {y : DataW H} {p : List MemPlace} (ho : OpensW P R0 t (Kd.slice e0 d) φ) (h : DataW.Trod enc P w 0 (fun _ => true) held t (.slice a len cap) y p) (hw : ∀ m ∈ y.weights P t, m ≤ R0) :
    ∃ l : List α, len = l.length ∧ l.length ≤ cap ∧ Kd.C d w a l.length l ∧ φ l := by
  obtain ⟨fuel, hf⟩ := h
  obtain ⟨l, ⟨A, c, hcs, hlc, hC⟩, hφ⟩ := ho.2 enc w held fuel _ _ hf hw
  simp only [Value.cells, List.cons.injEq, and_true] at hcs
  injection hcs with h1 h2 h3
  subst h1 h2 h3
  exact ⟨l, rfl, hlc, hC, hφ⟩
end Go.Proofs.YthpholjelfajiaaDoor.R
