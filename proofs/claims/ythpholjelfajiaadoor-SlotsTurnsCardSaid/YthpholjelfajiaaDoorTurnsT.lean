/- SlotsTurns, plainly: what the rounds keep. -/
import Derived.Test.YthpholjelfajiaaDoorHSlWk
namespace Go.Proofs.YthpholjelfajiaaDoor.Sl
open Go.RowKit Go.Proofs.YthpholjelfajiaaDoor.G Go.Proofs.YthpholjelfajiaaDoor.Dsk Go.Proofs.YthpholjelfajiaaDoor.C Go.Proofs.YthpholjelfajiaaDoor.X Go.Proofs.YthpholjelfajiaaDoor.T Go.Proofs.YthpholjelfajiaaDoorW.PrintWords Go.Proofs.YthpholjelfajiaaDoorW.PrintLast Go.Proofs.YthpholjelfajiaaDoorW.PrintMore
set_option linter.unusedVariables false
set_option linter.unusedSimpArgs false
theorem lastE_ge (s0 s1 : Slot) : (s0.1 = true → s0.2.1 ≤ lastE s0 s1) ∧ (s1.1 = true → s1.2.1 ≤ lastE s0 s1) := by
  obtain ⟨a0, e0, b0⟩ := s0
  obtain ⟨a1, e1, b1⟩ := s1
  cases a0 <;> cases a1 <;> by_cases h : e0 < e1 <;> simp [which, lastE, h] <;> omega
theorem put_which (s0 s1 : Slot) (k : Nat) (hk : k ≤ 1) (e : Int) (b : List Int) (he : lastE s0 s1 < e) : which (putS k 0 e b s0) (putS k 1 e b s1) = (k : Int) ∧ lastE (putS k 0 e b s0) (putS k 1 e b s1) = e ∧ lastB (putS k 0 e b s0) (putS k 1 e b s1) = b := by
  have hge := lastE_ge s0 s1
  have hw : which (putS k 0 e b s0) (putS k 1 e b s1) = (k : Int) := by
    have h2 : k = 0 ∨ k = 1 := by omega
    rcases h2 with rfl | rfl
    · have hn : ¬ (s1.1 = true ∧ ((true : Bool) = false ∨ e < s1.2.1)) := by
        rintro ⟨q1, q2⟩
        have := hge.2 q1
        rcases q2 with q2 | q2
        · simp at q2
        · omega
      show (if s1.1 = true ∧ ((true : Bool) = false ∨ e < s1.2.1) then (1 : Int) else if (true : Bool) = true then 0 else -1) = _
      rw [if_neg hn, if_pos rfl]
      rfl
    · have hn : s0.1 = false ∨ s0.2.1 < e := by
        cases h : s0.1 with
        | false => exact .inl rfl
        | true => right; have := hge.1 h; omega
      show (if (true : Bool) = true ∧ (s0.1 = false ∨ s0.2.1 < e) then (1 : Int) else if s0.1 = true then 0 else -1) = _
      rw [if_pos ⟨rfl, hn⟩]
      rfl
  refine ⟨hw, ?_, ?_⟩
  · unfold lastE
    rw [hw]
    have h2 : k = 0 ∨ k = 1 := by omega
    rcases h2 with rfl | rfl <;> simp [putS]
  · unfold lastB
    rw [hw]
    have h2 : k = 0 ∨ k = 1 := by omega
    rcases h2 with rfl | rfl <;> simp [putS]
structure TurnI (i : Nat) (E : Nat) (d : Dk) (s0 s1 : Slot) : Prop where
  left : d.left = none
  len : d.lies.length = 12
  waits : d.waits = []
  steps : d.steps ≤ 10 * i
  bytes : ∀ j, j < d.lies.length → Bytes (latest d j)
  r0 : readS d 1 4 0 = s0
  r1 : readS d 1 4 1 = s1
  e : E ≤ 1000 * i
  turn : saveK s0 s1 = i % 2
  last : lastE s0 s1 = (E : Int)
theorem TurnI.start : TurnI 0 0 (new 12) slot0 slot0 :=
  ⟨rfl, by simp [new], rfl, Nat.le_refl _, fun j hj => new_Bytes 12 j (by simpa [new] using hj), new_readS 12 1 4 0 (by decide), new_readS 12 1 4 1 (by decide), Nat.le_refl _, rfl, rfl⟩
theorem TurnI.room {i E : Nat} {d : Dk} {s0 s1 : Slot} (h : TurnI i E d s0 s1) (hi : i ≤ 20) : Room d 10000 := ⟨by have := h.steps; omega, by rw [h.left]; decide, by rw [h.waits]; decide, by rw [h.len]; decide⟩
theorem TurnI.step {i E e : Nat} {d d' : Dk} {s0 s1 : Slot} {l0 : List Int} (h : TurnI i E d s0 s1) (hs : Saved d 1 4 (saveK s0 s1) l0 (e : Int) d') (he : E < e ∧ e ≤ E + 1000) (hi : i ≤ 20) (hl : l0.length ≤ 216) (hb : Bytes l0) :
    TurnI (i + 1) e d' (putS (saveK s0 s1) 0 (e : Int) l0 s0) (putS (saveK s0 s1) 1 (e : Int) l0 s1) ∧ which (putS (saveK s0 s1) 0 (e : Int) l0 s0) (putS (saveK s0 s1) 1 (e : Int) l0 s1) = ((i % 2 : Nat) : Int) ∧ lastB (putS (saveK s0 s1) 0 (e : Int) l0 s0) (putS (saveK s0 s1) 1 (e : Int) l0 s1) = l0 := by
  have hE := h.e
  have hk : saveK s0 s1 ≤ 1 := by unfold saveK; split <;> omega
  have hw := put_which s0 s1 (saveK s0 s1) hk (e : Int) l0 (by rw [h.last]; omega)
  obtain ⟨k, hk'⟩ : ∃ k, saveK s0 s1 = k := ⟨_, rfl⟩
  have ht := h.turn
  rw [hk'] at hs hk hw ht ⊢
  have hlen := h.len
  have hrd := hs.reads (by omega) (by decide) hl
  have hro := fun k' hq => hs.other (k' := k') (by decide) hl hq (by rw [hlen]; decide)
  refine ⟨⟨hs.left, by rw [hs.len, hlen], hs.waits, ?_, hs.bytes hb h.bytes, ?_, ?_, by omega, ?_, hw.2.1⟩, by rw [hw.1, ht], hw.2.2⟩
  · rw [hs.steps]; have := h.steps; omega
  · unfold putS
    by_cases q : k = 0
    · rw [if_pos q]; rw [q] at hrd; exact hrd
    · rw [if_neg q, hro 0 ⟨hk, by omega, fun z => q z.symm⟩]; exact h.r0
  · unfold putS
    by_cases q : k = 1
    · rw [if_pos q]; rw [q] at hrd; exact hrd
    · rw [if_neg q, hro 1 ⟨hk, by omega, fun z => q z.symm⟩]; exact h.r1
  · unfold saveK
    rw [hw.1]
    split <;> omega
end Go.Proofs.YthpholjelfajiaaDoor.Sl
