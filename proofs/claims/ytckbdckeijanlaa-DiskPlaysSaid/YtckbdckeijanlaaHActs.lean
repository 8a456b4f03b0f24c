/- Acts in memory: five cells each; what a flush and a crash without a list keep. -/
import Derived.Test.YtckbdckeijanlaaHImage
namespace Go.Proofs.Ytckbdckeijanlaa.G
open Go.RowKit Go.Shelf Go.Proofs.YtckbdckeijanlaaW.PrintWords Go.Proofs.YtckbdckeijanlaaW.PrintLast Go.Proofs.YtckbdckeijanlaaW.PrintMore Go.Proofs.Ytckbdckeijanlaa.Dsk
set_option linter.unusedVariables false
set_option linter.unusedSimpArgs false
abbrev Act17 := Int × Int × Int × List Int × List Int
abbrev actK : Kd Act17 := Kd.pair (Kd.int .i64) (Kd.pair (Kd.int .i64) (Kd.pair (Kd.int .i64) (Kd.pair (Kd.slice 5 (Kd.int .u8)) (Kd.slice 3 (Kd.int .i64)))))
theorem add_fld (ad : Addr) (k j : Nat) : ad.add (k + (j + 1)) = ⟨(ad.add k).block, (ad.add k).off + (j + 1), none⟩ := by
  rw [← Addr.add_add]
  simp [Addr.add]
/-- What an act's cells tell in a world. -/
structure ActIn (A : Option Addr) (i : Nat) (x : Act17) (B : Option Addr) (cb : Nat) (K : Option Addr) (ck : Nat) (V : World) : Prop where
  kind : ∀ ad, A = some ad → V.cell? (ad.add (i * 5)) = some (.int .i64 x.1)
  n : ∀ ad, A = some ad → V.cell? ⟨(ad.add (i * 5)).block, (ad.add (i * 5)).off + 1, none⟩ = some (.int .i64 x.2.1)
  at_ : ∀ ad, A = some ad → V.cell? ⟨(ad.add (i * 5)).block, (ad.add (i * 5)).off + 2, none⟩ = some (.int .i64 x.2.2.1)
  bytes : ∀ ad, A = some ad → V.cell? ⟨(ad.add (i * 5)).block, (ad.add (i * 5)).off + 3, none⟩ = some (.slice B x.2.2.2.1.length cb)
  kept : ∀ ad, A = some ad → V.cell? ⟨(ad.add (i * 5)).block, (ad.add (i * 5)).off + 4, none⟩ = some (.slice K x.2.2.2.2.length ck)
  bytesC : Kd.C (Kd.int .u8) V B x.2.2.2.1.length x.2.2.2.1
  keptC : Kd.C (Kd.int .i64) V K x.2.2.2.2.length x.2.2.2.2
  keptLe : x.2.2.2.2.length ≤ ck
theorem cell_lt {w : World} {p : Addr} {v : Value} (h : w.cell? p = some v) : p.block < w.heap.size := by
  rcases Nat.lt_or_ge p.block w.heap.size with hl | hl
  · exact hl
  · rw [World.cell?, Array.getElem?_eq_none hl] at h
    cases h
theorem act_at {w : World} {A : Option Addr} {n : Nat} {xs : List Act17} (h : Kd.C actK w A n xs) (i : Nat) (hi : i < n) : ∃ x B cb K ck, xs[i]? = some x ∧ ∀ V, Below w.heap.size w V → ActIn A i x B cb K ck V := by
  obtain ⟨ad, hA, hc⟩ := h.2.2 (by omega)
  subst hA
  have hl : xs.length = n := h.1
  obtain ⟨x, hx⟩ : ∃ x, xs[i]? = some x := ⟨_, List.getElem?_eq_getElem (by omega)⟩
  obtain ⟨cs, hcs, hk, hu⟩ := hc i x hx
  obtain ⟨c0, d0, rfl, h0, c1, d1, rfl, h1, c2, d2, rfl, h2, c3, c4, rfl, ⟨B, cb, h3, h3l, h3C⟩, ⟨K, ck, h4, h4l, h4C⟩⟩ := hk
  have h0' : c0 = [.int .i64 x.1] := h0
  have h1' : c1 = [.int .i64 x.2.1] := h1
  have h2' : c2 = [.int .i64 x.2.2.1] := h2
  subst h0' h1' h2' h3 h4
  have hs : actK.sz = 5 := rfl
  refine ⟨x, B, cb, K, ck, hx, fun V hV => ?_⟩
  have hcell : ∀ j u, ([Value.int .i64 x.1] ++ ([Value.int .i64 x.2.1] ++ ([Value.int .i64 x.2.2.1] ++ ([Value.slice B x.2.2.2.1.length cb] ++ [Value.slice K x.2.2.2.2.length ck]))))[j]? = some u → V.cell? (ad.add (i * 5 + j)) = some u := fun j u hj => by
    have := hu j u hj
    rw [hs] at this
    exact (Below.cell hV (cell_lt this)).trans this
  refine ⟨fun _ e => ?_, fun _ e => ?_, fun _ e => ?_, fun _ e => ?_, fun _ e => ?_, Kd.C_below h3C hV, Kd.C_below h4C hV, h4l⟩ <;> (injection e with e; subst e)
  · exact hcell 0 _ rfl
  · rw [← add_fld]; exact hcell 1 _ rfl
  · rw [← add_fld]; exact hcell 2 _ rfl
  · rw [← add_fld]; exact hcell 3 _ rfl
  · rw [← add_fld]; exact hcell 4 _ rfl
theorem write_lies (d : Dk) (n : Int) (b : List Int) : (write d n b).1.lies = d.lies ∧ (write d n b).1.waits.length ≤ d.waits.length + 1 ∧ (write d n b).1.steps ≤ d.steps + 1 ∧ (d.left = none → (write d n b).1.left = none) := by
  unfold write
  split
  · exact ⟨rfl, by show d.waits.length ≤ _; omega, by show d.steps ≤ _; omega, id⟩
  · split
    · exact ⟨rfl, by show d.waits.length ≤ _; omega, by show d.steps ≤ _; omega, id⟩
    · split
      · exact ⟨rfl, by show d.waits.length ≤ _; omega, by show d.steps ≤ _; omega, id⟩
      · exact ⟨rfl, by simp [stepped], Nat.le_refl _, fun h => by simp [stepped, h]⟩
theorem flush_lies (d : Dk) : (Dsk.flush d).1.lies.length = d.lies.length ∧ (Dsk.flush d).1.waits.length ≤ d.waits.length ∧ (Dsk.flush d).1.steps ≤ d.steps + 1 ∧ (d.left = none → (Dsk.flush d).1.left = none) := by
  unfold Dsk.flush
  split
  · exact ⟨rfl, by show d.waits.length ≤ _; omega, by show d.steps ≤ _; omega, id⟩
  · exact ⟨settle_len _ _, by simp [stepped], Nat.le_refl _, fun h => by simp [stepped, h]⟩
theorem spoil_lies (d : Dk) (n a b : Int) : (spoil d n a b).1.lies.length = d.lies.length ∧ (spoil d n a b).1.waits = d.waits ∧ (spoil d n a b).1.steps = d.steps ∧ (spoil d n a b).1.left = d.left := by
  unfold spoil
  split
  · exact ⟨rfl, rfl, rfl, rfl⟩
  · exact ⟨List.length_set, rfl, rfl, rfl⟩
theorem flush_up {d : Dk} (h : d.left = none) : Dsk.flush d = (⟨Dsk.settle d.lies d.waits, [], d.steps + 1, none⟩, 0) := by
  unfold Dsk.flush
  rw [show down d = false by unfold down; rw [h]; rfl, if_neg (by simp)]
  unfold stepped
  rw [h]; rfl
theorem crash_quiet {d : Dk} (h : d.waits = []) (ks : List Int) : crash d ks = ⟨d.lies, [], 0, none⟩ := by
  unfold crash
  rw [h]
  cases ks <;> rfl
theorem img_congr {d d' : Dk} (hl : d'.lies = d.lies) (hw : d'.waits = d.waits) : img d' = img d := by
  unfold img imgTo
  have : latest d' = latest d := by funext n; unfold latest; rw [hl, hw]
  rw [this, hl]
/-- A disk that a law's rounds come to. -/
structure Rnd (d : Dk) (n i : Nat) : Prop where
  lies : d.lies.length = n
  left : d.left = none
  steps : d.steps ≤ i
  waits : d.waits.length ≤ i
theorem Rnd.small {d : Dk} {n i : Nat} (h : Rnd d n i) (hn : n < 100) (hi : i ≤ 1000) : Small d := ⟨by have := h.steps; omega, by rw [h.left]; decide, by have := h.waits; omega, by rw [h.lies]; omega⟩
theorem Rnd.write {d : Dk} {n i : Nat} (h : Rnd d n i) (k : Int) (b : List Int) : Rnd (Dsk.write d k b).1 n (i + 1) := by
  obtain ⟨h1, h2, h3, h4⟩ := write_lies d k b
  exact ⟨by rw [h1]; exact h.lies, h4 h.left, by have := h.steps; omega, by have := h.waits; omega⟩
theorem Rnd.flush {d : Dk} {n i : Nat} (h : Rnd d n i) : Rnd (Dsk.flush d).1 n (i + 1) := by
  obtain ⟨h1, h2, h3, h4⟩ := flush_lies d
  exact ⟨by rw [h1]; exact h.lies, h4 h.left, by have := h.steps; omega, by have := h.waits; omega⟩
theorem Rnd.spoil {d : Dk} {n i : Nat} (h : Rnd d n i) (k a b : Int) : Rnd (Dsk.spoil d k a b).1 n (i + 1) := by
  obtain ⟨h1, h2, h3, h4⟩ := spoil_lies d k a b
  exact ⟨by rw [h1]; exact h.lies, by rw [h4]; exact h.left, by rw [h3]; have := h.steps; omega, by rw [h2]; have := h.waits; omega⟩
theorem Rnd.idle {d : Dk} {n i : Nat} (h : Rnd d n i) : Rnd d n (i + 1) := ⟨h.lies, h.left, by have := h.steps; omega, by have := h.waits; omega⟩
end Go.Proofs.Ytckbdckeijanlaa.G
