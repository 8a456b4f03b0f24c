/- Rows of slices told by their headers; a scope that is jumped back into. -/
import Derived.Test.YtoehjojipmeagaaDoorScanT
import Derived.ScopeJumps
namespace Go.Proofs.YtoehjojipmeagaaDoor.X
open Go.RowKit Go.Proofs.YtoehjojipmeagaaDoorW.PrintWords Go.Proofs.YtoehjojipmeagaaDoorW.PrintLast Go.Proofs.YtoehjojipmeagaaDoorW.PrintMore Go.Proofs.YtoehjojipmeagaaDoor.G Go.Proofs.YtoehjojipmeagaaDoor.T
set_option linter.unusedVariables false
set_option linter.unusedSimpArgs false

theorem wp_scope_again {P : Program} {a : Act} {w : World} {Q : Exit → Act → World → Prop} {c rest : Code} (l : Nat) (J : Act → World → Prop) (m : Act → World → Nat) (hf : findLabel c l = some (.seq .skip rest))
    (pass : ∀ a w, J a w → rest.wp P (Exit.jump l (fun a' w' => J a' w' ∧ m a' w' < m a w) Q) a w)
    (first : (∀ a w, J a w → rest.wp P (Exit.jump l J Q) a w) → c.wp P (Exit.jump l J Q) a w) : (Code.scope c).wp P Q a w :=
  wp_scope_jumps l J m hf (first fun a w h => wp_mono (pass a w h) fun e a' w' hq => by
    cases e with
    | goto l' => exact ⟨hq.1, hq.2.1⟩
    | normal => exact hq
    | exit id => exact hq
    | ret => exact hq
    | panic ch => exact hq
    | outgrown => exact hq) fun a w h => wp_seq (wp_skip (pass a w h))
abbrev Head := Option Addr × Nat × Nat
def hdv (p : Head) : Value := .slice p.1 p.2.1 p.2.2
def hdr : Kd Head := Kd.scalar hdv (fun _ => rfl)
/-- A header's bytes lie there. -/
def Lies (w : World) (p : Head) (b : List Int) : Prop := p.2.1 = b.length ∧ b.length ≤ p.2.2 ∧ Kd.C (Kd.int .u8) w p.1 b.length b ∧ (0 < b.length → ∀ ad, p.1 = some ad → ∃ cells fr, w.heap[ad.block]? = some (.cells cells 5 fr))
def AllLie (w : World) (hs : List Head) (bs : List (List Int)) : Prop := hs.length = bs.length ∧ ∀ q ∈ hs.zip bs, Lies w q.1 q.2
theorem lt_of_some {w : World} {k : Nat} {o : Obj} (h : w.heap[k]? = some o) : k < w.heap.size := (Array.getElem?_eq_some_iff.1 h).1
theorem Lies.below {w w' : World} {p : Head} {b : List Int} (h : Lies w p b) (hb : Below w.heap.size w w') : Lies w' p b :=
  ⟨h.1, h.2.1, Kd.C_below h.2.2.1 hb, fun h0 ad e => by
    obtain ⟨cells, fr, hc⟩ := h.2.2.2 h0 ad e
    exact ⟨cells, fr, (hb.block _ (lt_of_some hc)).trans hc⟩⟩
theorem AllLie.below {w w' : World} {hs : List Head} {bs : List (List Int)} (h : AllLie w hs bs) (hb : Below w.heap.size w w') : AllLie w' hs bs := ⟨h.1, fun q hq => (h.2 q hq).below hb⟩
theorem C_grown {w w' : World} {A : Option Addr} {n : Nat} {b : List Int} {row : Option Nat} (h : Kd.C (Kd.int .u8) w A n b) (hg : w.grownBy w' row) (hok : 0 < n → ∀ ad, A = some ad → ad.block < w.heap.size ∧ some ad.block ≠ row) : Kd.C (Kd.int .u8) w' A n b := by
  obtain ⟨h1, h2, h3⟩ := h
  refine ⟨h1, h2, fun hp => ?_⟩
  obtain ⟨ad, ha, hc⟩ := h3 hp
  obtain ⟨hlt, hne⟩ := hok hp ad ha
  refine ⟨ad, ha, fun j x hj => ?_⟩
  obtain ⟨cs, hl, hk, hu⟩ := hc j x hj
  refine ⟨cs, hl, hk, fun i u hi => ?_⟩
  rw [← hu i u hi]
  have hbk : (ad.add (j * (Kd.int .u8).sz + i)).block = ad.block := by cases (j * (Kd.int .u8).sz + i) <;> rfl
  exact hg.cell_far _ (by rw [hbk]; exact hlt) (by rw [hbk]; exact hne)
theorem Lies.grown {w w' : World} {p : Head} {b : List Int} {row : Option Nat} (h : Lies w p b) (hg : w.grownBy w' row) (hrow : ∀ g, row = some g → ∃ cells fr e, w.heap[g]? = some (.cells cells e fr) ∧ e ≠ 5) : Lies w' p b := by
  obtain ⟨h1, h2, h3, h4⟩ := h
  have key : 0 < b.length → ∀ ad, p.1 = some ad → ad.block < w.heap.size ∧ some ad.block ≠ row := by
    intro h0 ad e
    obtain ⟨cells, fr, hc⟩ := h4 h0 ad e
    refine ⟨lt_of_some hc, fun he => ?_⟩
    obtain ⟨cells', fr', e', hc', hne⟩ := hrow _ he.symm
    rw [hc] at hc'
    injection hc' with hc'
    injection hc' with _ hc'
    exact hne hc'.symm
  refine ⟨h1, h2, C_grown h3 hg key, fun h0 ad e => ?_⟩
  obtain ⟨cells, fr, hc⟩ := h4 h0 ad e
  obtain ⟨hlt, hne⟩ := key h0 ad e
  exact ⟨cells, fr, (hg.block _ hlt hne).trans hc⟩
theorem AllLie.grown {w w' : World} {hs : List Head} {bs : List (List Int)} {row : Option Nat} (h : AllLie w hs bs) (hg : w.grownBy w' row) (hrow : ∀ g, row = some g → ∃ cells fr e, w.heap[g]? = some (.cells cells e fr) ∧ e ≠ 5) : AllLie w' hs bs := ⟨h.1, fun q hq => (h.2 q hq).grown hg hrow⟩
theorem AllLie.snoc {w : World} {hs : List Head} {bs : List (List Int)} {p : Head} {b : List Int} (h : AllLie w hs bs) (hl : Lies w p b) : AllLie w (hs ++ [p]) (bs ++ [b]) :=
  ⟨by simp [h.1], fun q hq => by
    rw [List.zip_append h.1] at hq
    rcases List.mem_append.1 hq with hq | hq
    · exact h.2 q hq
    · obtain rfl : q = (p, b) := by simpa using hq
      exact hl⟩
/-- A row of headers is a row of slices. -/
theorem C_of_hdr {w : World} {A : Option Addr} {n : Nat} {hs : List Head} {bs : List (List Int)} (h : Kd.C hdr w A n hs) (ha : AllLie w hs bs) : Kd.C (Kd.slice 5 (Kd.int .u8)) w A n bs := by
  obtain ⟨h1, h2, h3⟩ := h
  refine ⟨by rw [← ha.1]; exact h1, h2, fun hp => ?_⟩
  obtain ⟨ad, hA, hc⟩ := h3 hp
  refine ⟨ad, hA, fun j b hj => ?_⟩
  have hjl : j < bs.length := (List.getElem?_eq_some_iff.1 hj).1
  have hjh : j < hs.length := by rw [ha.1]; exact hjl
  obtain ⟨cs, hl, hk, hu⟩ := hc j _ (List.getElem?_eq_getElem hjh)
  have hq : (hs[j], b) ∈ hs.zip bs := by
    have : (hs.zip bs)[j]? = some (hs[j], b) := by rw [List.getElem?_zip_eq_some]; exact ⟨List.getElem?_eq_getElem hjh, hj⟩
    exact List.mem_of_getElem? this
  obtain ⟨l1, l2, l3, _⟩ := ha.2 _ hq
  refine ⟨cs, hl, ?_, hu⟩
  have : cs = [hdv hs[j]] := hk
  exact ⟨hs[j].1, hs[j].2.2, by rw [this]; simp only [hdv]; rw [l1], l2, l3⟩
/-- A header's bytes lie in the memory that was there. -/
def Stay (w : World) (p : Head) (b : List Int) : Prop := p.2.1 = b.length ∧ b.length ≤ p.2.2 ∧ ∀ W, Below w.heap.size w W → Kd.C (Kd.int .u8) W p.1 b.length b
def AllStay (w : World) (hs : List Head) (bs : List (List Int)) : Prop := hs.length = bs.length ∧ ∀ q ∈ hs.zip bs, Stay w q.1 q.2
theorem AllStay.snoc {w : World} {hs : List Head} {bs : List (List Int)} {p : Head} {b : List Int} (h : AllStay w hs bs) (hl : Stay w p b) : AllStay w (hs ++ [p]) (bs ++ [b]) :=
  ⟨by simp [h.1], fun q hq => by
    rw [List.zip_append h.1] at hq
    rcases List.mem_append.1 hq with hq | hq
    · exact h.2 q hq
    · obtain rfl : q = (p, b) := by simpa using hq
      exact hl⟩
theorem C_of_stay {w W : World} {A : Option Addr} {n : Nat} {hs : List Head} {bs : List (List Int)} (h : Kd.C hdr W A n hs) (ha : AllStay w hs bs) (hb : Below w.heap.size w W) : Kd.C (Kd.slice 5 (Kd.int .u8)) W A n bs := by
  obtain ⟨h1, h2, h3⟩ := h
  refine ⟨by rw [← ha.1]; exact h1, h2, fun hp => ?_⟩
  obtain ⟨ad, hA, hc⟩ := h3 hp
  refine ⟨ad, hA, fun j b hj => ?_⟩
  have hjl : j < bs.length := (List.getElem?_eq_some_iff.1 hj).1
  have hjh : j < hs.length := by rw [ha.1]; exact hjl
  obtain ⟨cs, hl, hk, hu⟩ := hc j _ (List.getElem?_eq_getElem hjh)
  have hq : (hs[j], b) ∈ hs.zip bs := by
    have : (hs.zip bs)[j]? = some (hs[j], b) := by rw [List.getElem?_zip_eq_some]; exact ⟨List.getElem?_eq_getElem hjh, hj⟩
    exact List.mem_of_getElem? this
  obtain ⟨l1, l2, l3⟩ := ha.2 _ hq
  refine ⟨cs, hl, ?_, hu⟩
  have : cs = [hdv hs[j]] := hk
  exact ⟨hs[j].1, hs[j].2.2, by rw [this]; simp only [hdv]; rw [l1], l2, l3 W hb⟩
/-- What a row of the call's own says of its block. -/
theorem row_typed {α : Type} {d : Kd α} {e : Nat} {w : World} {base : Nat} {ok : Nat → Prop} {v : Value} {xs : List α} (h : d.R e w base ok v xs) (hne : e ≠ 5) : ∀ g, v.ownBlock = some g → ∃ cells fr e', w.heap[g]? = some (.cells cells e' fr) ∧ e' ≠ 5 := by
  intro g hg
  obtain ⟨inner, ho⟩ := Kd.R_own h
  obtain ⟨cells, hc⟩ := own_typed ho g hg
  exact ⟨cells, _, _, hc, hne⟩
/-- A window of bytes of somebody's own lies there. -/
theorem lies_of_Q {w : World} {base : Nat} {ok : Nat → Prop} {A : Option Addr} {n c : Nat} {b : List Int} (h : Kd.Q (Kd.int .u8) 5 w base ok (.slice A n c) b) : Lies w (A, n, c) b := by
  obtain ⟨hn, hc, hC⟩ := Kd.Q_reads' h
  refine ⟨hn, by rw [← hn]; exact hc, hC, fun h0 ad e => ?_⟩
  obtain ⟨g, o, cap, he, hb, hl, cells, hh⟩ := Kd.Q_form h h0
  injection he with he
  have e' : A = some ad := e
  rw [e'] at he
  injection he with he
  subst he
  exact ⟨cells, _, hh⟩
theorem own_ty {α : Type} {d : Kd α} {e : Nat} {w : World} {base : Nat} {ok : Nat → Prop} {v : Value} {xs : List α} (h : d.R e w base ok v xs) : ∀ g, v.ownBlock = some g → ∃ cells, w.heap[g]? = some (.cells cells e (0, 0)) := fun g hg => by
  obtain ⟨inner, ho⟩ := Kd.R_own h
  exact own_typed ho g hg
theorem R_grown_ty {α : Type} {d : Kd α} {e t : Nat} {w w1 : World} {base : Nat} {v : Value} {xs : List α} {row : Option Nat} (h : d.R e w base (fun _ => True) v xs) (hg : w.grownBy w1 row) (hrow : ∀ g, row = some g → ∃ cells, w.heap[g]? = some (.cells cells t (0, 0))) (ht : ∀ q, q ∈ e :: d.E → q ≠ t) : d.R e w1 base (fun _ => True) v xs := by
  cases row with
  | none => exact Kd.R_grown h hg (fun _ _ => by simp)
  | some g =>
    obtain ⟨cells, hh⟩ := hrow g rfl
    exact Kd.R_mono (Kd.R_grown (Kd.R_types h hh ht) hg (fun k hk e => hk.2 (by injection e))) (fun _ _ => trivial)
/-- What a Scan tells. -/
def ScanPost (w : World) (bs : List (List Int)) (n r : Int) (e : Ending) (w' : World) : Prop := ∃ A c, e = .returned (.tuple #[.slice A bs.length c, .int .i64 n, .int .i64 r]) ∧ bs.length ≤ c ∧ Kd.C (Kd.slice 5 (Kd.int .u8)) w' A bs.length bs ∧ Below w.heap.size w w'
theorem scanPost_of {w w' : World} {v : Value} {hs : List Head} {bs : List (List Int)} {n r : Int} {base : Nat} {ok : Nat → Prop} (h : Kd.R hdr 22 w' base ok v hs) (ha : AllLie w' hs bs) (hb : Below w.heap.size w w') : ScanPost w bs n r (.returned (.tuple #[v, .int .i64 n, .int .i64 r])) w' := by
  obtain ⟨A, c, rfl, hc, hC⟩ := Kd.R_reads h
  refine ⟨A, c, by rw [ha.1], by rw [← ha.1]; exact hc, ?_, hb⟩
  rw [← ha.1]
  exact C_of_hdr hC ha
theorem scanPost_nil {w w' : World} {n r : Int} (hb : Below w.heap.size w w') : ScanPost w [] n r (.returned (.tuple #[.slice none 0 0, .int .i64 n, .int .i64 r])) w' := scanPost_of (Kd.R_nil hdr _ _ 0 (fun _ => True)) ⟨rfl, fun q hq => by simp at hq⟩ hb
theorem scanPost_stay {w w' : World} {v : Value} {hs : List Head} {bs : List (List Int)} {n r : Int} {base : Nat} {ok : Nat → Prop} (h : Kd.R hdr 22 w' base ok v hs) (ha : AllStay w hs bs) (hb : Below w.heap.size w w') : ScanPost w bs n r (.returned (.tuple #[v, .int .i64 n, .int .i64 r])) w' := by
  obtain ⟨A, c, rfl, hc, hC⟩ := Kd.R_reads h
  refine ⟨A, c, by rw [ha.1], by rw [← ha.1]; exact hc, ?_, hb⟩
  rw [← ha.1]
  exact C_of_stay hC ha hb
end Go.Proofs.YtoehjojipmeagaaDoor.X
