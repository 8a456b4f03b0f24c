/- Slots, plainly: what a Save leaves on a disk that is not stopped. -/
import Derived.Test.YthpholjelfajiaaDoorSaveT
namespace Go.Proofs.YthpholjelfajiaaDoor.Sl
open Go.RowKit Go.Proofs.YthpholjelfajiaaDoor.G Go.Proofs.YthpholjelfajiaaDoor.Dsk Go.Proofs.YthpholjelfajiaaDoor.C Go.Proofs.YthpholjelfajiaaDoor.X Go.Proofs.YthpholjelfajiaaDoor.T Go.Proofs.YthpholjelfajiaaDoorW.PrintWords Go.Proofs.YthpholjelfajiaaDoorW.PrintLast Go.Proofs.YthpholjelfajiaaDoorW.PrintMore
set_option linter.unusedVariables false
set_option linter.unusedSimpArgs false
theorem chunk_Bytes (l0 : List Int) (t : Int) (k : Nat) (hb : Bytes l0) : Bytes (chunkOf l0 t k) := by
  rw [chunkOf, piece]
  refine Bytes.append (Bytes.append ?_ ?_) ?_
  · intro x hx
    simp only [hd, List.mem_cons, List.not_mem_nil, or_false] at hx
    omega
  · rw [body]
    refine Bytes.append ((hb.drop _).take _) (fun x hx => ?_)
    rw [List.eq_of_mem_replicate hx]
    omega
  · intro x hx
    have hc := crc_range (hd (k : Int) t ++ body l0 k)
    generalize crc (hd (k : Int) t ++ body l0 k) = c at hc hx
    unfold bytes4 at hx
    simp only [List.mem_cons, List.not_mem_nil, or_false] at hx
    omega
theorem down_none {d : Dk} (h : d.left = none) : down d = false := by unfold Dsk.down; rw [h]; rfl
theorem write_none {d : Dk} (h : d.left = none) (n : Nat) (b : List Int) (hn : n < d.lies.length) (hb : b.length = 64) :
    Dsk.write d (n : Int) b = (⟨d.lies, d.waits ++ [(n, b)], d.steps + 1, none⟩, 0) := by
  unfold Dsk.write
  rw [show isS d (n : Int) = true from decide_eq_true (by omega), if_neg (by simp), if_neg (by simp [hb]), down_none h, if_neg (by simp), Int.toNat_natCast]
  unfold stepped
  rw [h]
  rfl
theorem flush_none {d : Dk} (h : d.left = none) : Dsk.flush d = (⟨Dsk.settle d.lies d.waits, [], d.steps + 1, none⟩, 0) := by
  unfold Dsk.flush
  rw [down_none h, if_neg (by simp)]
  unfold stepped
  rw [h]
  rfl
/-- What a Save's writes leave. -/
structure Wrote (d : Dk) (n : Nat) (l : List (List Int)) (x : (Dk × Int) × Nat) : Prop where
  err : x.1.2 = 0
  left : x.1.1.left = none
  lies : x.1.1.lies = d.lies
  steps : x.1.1.steps = d.steps + l.length
  next : x.2 = n + l.length
  lat : ∀ j, latest x.1.1 j = if n ≤ j ∧ j < n + l.length then l.getD (j - n) [] else latest d j
theorem wrs_none : ∀ (l : List (List Int)) (d : Dk) (n : Nat), d.left = none → n + l.length ≤ d.lies.length → (∀ b ∈ l, b.length = 64) → Wrote d n l (wrs ((d, 0), n) l)
  | [], d, n, h, hr, hb => ⟨rfl, h, rfl, rfl, rfl, fun j => by rw [if_neg (by simp)]; rfl⟩
  | b :: r, d, n, h, hr, hb => by
    have h64 := hb b (by simp)
    have hst : st1 ((d, 0), n) b = ((⟨d.lies, d.waits ++ [(n, b)], d.steps + 1, none⟩, 0), n + 1) := by
      unfold st1
      rw [if_pos rfl, write_none h n b (by simp at hr; omega) h64]
    have ih := wrs_none r ⟨d.lies, d.waits ++ [(n, b)], d.steps + 1, none⟩ (n + 1) rfl (by show n + 1 + r.length ≤ d.lies.length; simp at hr; omega) (fun q hq => hb q (by simp [hq]))
    have e : wrs ((d, 0), n) (b :: r) = wrs ((⟨d.lies, d.waits ++ [(n, b)], d.steps + 1, none⟩, 0), n + 1) r := by
      show wrs (st1 ((d, 0), n) b) r = _
      rw [hst]
    rw [e]
    refine ⟨ih.err, ih.left, ih.lies, by rw [ih.steps]; simp; omega, by rw [ih.next]; simp; omega, fun j => ?_⟩
    rw [ih.lat j]
    have hl : latest (⟨d.lies, d.waits ++ [(n, b)], d.steps + 1, none⟩ : Dk) j = if j = n then b else latest d j := by
      unfold latest
      show List.foldl _ _ (d.waits ++ [(n, b)]) = _
      rw [List.foldl_append]
      show (if n = j then b else _) = _
      by_cases q : j = n
      · rw [if_pos q.symm, if_pos q]
      · rw [if_neg (fun z => q z.symm), if_neg q]
    by_cases h1 : n + 1 ≤ j ∧ j < n + 1 + r.length
    · rw [if_pos h1, if_pos (by simp; omega), show j - n = (j - (n + 1)) + 1 by omega]
      rfl
    · rw [if_neg h1, hl]
      by_cases h2 : j = n
      · rw [if_pos h2, if_pos (by simp; omega), h2, Nat.sub_self]
        rfl
      · rw [if_neg h2, if_neg (by simp; omega)]
/-- What a Save leaves on a disk that is not stopped. -/
structure Saved (d : Dk) (fr ch k : Nat) (l0 : List Int) (e : Int) (d' : Dk) : Prop where
  left : d'.left = none
  len : d'.lies.length = d.lies.length
  waits : d'.waits = []
  steps : d'.steps = d.steps + (l0.length + 53) / 54 + 3
  head : latest d' (bg fr ch k) = headB k e l0.length
  body : ∀ i, i < (l0.length + 53) / 54 → latest d' (bg fr ch k + 1 + i) = chunkOf l0 e i
  rest : ∀ j, j < d.lies.length → (j < bg fr ch k ∨ bg fr ch k + (l0.length + 53) / 54 < j) → latest d' j = latest d j
theorem saveD_none (d : Dk) (fr ch k : Nat) (l0 : List Int) (e : Int) (h : d.left = none) (hr : bg fr ch k + ch < d.lies.length) (hl : l0.length ≤ 54 * ch) : (saveD d fr ch k l0 e).2 = 0 ∧ Saved d fr ch k l0 e (saveD d fr ch k l0 e).1 := by
  have hn : (l0.length + 53) / 54 ≤ ch := by omega
  have hw := wrs_none (chunks l0 e) d (bg fr ch k + 1) h (by rw [chunks_length]; omega) (fun b hb => by
    obtain ⟨i, _, rfl⟩ := List.mem_map.1 hb
    exact chunkOf_length l0 e i)
  obtain ⟨x, hx⟩ : ∃ x, wrs ((d, 0), bg fr ch k + 1) (chunks l0 e) = x := ⟨_, rfl⟩
  rw [hx] at hw
  have hf : fl1 x.1 = Dsk.flush x.1.1 := by unfold fl1; rw [if_pos hw.err]
  have hlen : x.1.1.lies.length = d.lies.length := by rw [hw.lies]
  obtain ⟨d1, hd1⟩ : ∃ d1, (Dsk.flush x.1.1).1 = d1 := ⟨_, rfl⟩
  have hfl := flush_none hw.left
  have hd1l : d1.left = none := by rw [← hd1, hfl]
  have hd1n : d1.lies.length = d.lies.length := by rw [← hd1, flush_len, hlen]
  have hd1w : d1.waits = [] := by rw [← hd1, hfl]
  have hd1s : d1.steps = d.steps + (l0.length + 53) / 54 + 1 := by rw [← hd1, hfl]; show x.1.1.steps + 1 = _; rw [hw.steps, chunks_length]
  have hd1v : ∀ j, j < d.lies.length → latest d1 j = if bg fr ch k + 1 ≤ j ∧ j < bg fr ch k + 1 + (l0.length + 53) / 54 then chunkOf l0 e (j - (bg fr ch k + 1)) else latest d j := fun j hj => by
    rw [← hd1, latest_flush (down_none hw.left) j (by rw [hlen]; exact hj), hw.lat j, chunks_length]
    by_cases q : bg fr ch k + 1 ≤ j ∧ j < bg fr ch k + 1 + (l0.length + 53) / 54
    · rw [if_pos q, if_pos q, chunks_get l0 e _ (by omega)]
    · rw [if_neg q, if_neg q]
  have hst : st1 ((d1, 0), bg fr ch k) (headB k e l0.length) = ((⟨d1.lies, d1.waits ++ [(bg fr ch k, headB k e l0.length)], d1.steps + 1, none⟩, 0), bg fr ch k + 1) := by
    unfold st1
    rw [if_pos rfl, write_none hd1l _ _ (by rw [hd1n]; omega) (headB_length _ _ _)]
  obtain ⟨d2, hd2⟩ : ∃ d2 : Dk, (⟨d1.lies, d1.waits ++ [(bg fr ch k, headB k e l0.length)], d1.steps + 1, none⟩ : Dk) = d2 := ⟨_, rfl⟩
  rw [hd2] at hst
  have hd2l : d2.left = none := by rw [← hd2]
  have hsv : saveD d fr ch k l0 e = Dsk.flush d2 := by
    unfold saveD
    rw [hx, hf, show Dsk.flush x.1.1 = (d1, 0) by rw [← hd1, hfl], hst]
    unfold fl1
    rw [if_pos rfl]
  have hfl2 := flush_none hd2l
  have hd2n : d2.lies.length = d.lies.length := by rw [← hd2]; exact hd1n
  have hd2v : ∀ j, latest d2 j = if j = bg fr ch k then headB k e l0.length else latest d1 j := fun j => by
    rw [← hd2]
    unfold latest
    show List.foldl _ _ (d1.waits ++ [(bg fr ch k, headB k e l0.length)]) = _
    rw [List.foldl_append]
    show (if bg fr ch k = j then headB k e l0.length else _) = _
    by_cases q : j = bg fr ch k
    · rw [if_pos q.symm, if_pos q]
    · rw [if_neg (fun z => q z.symm), if_neg q]
  have hlat : ∀ j, j < d.lies.length → latest (Dsk.flush d2).1 j = if j = bg fr ch k then headB k e l0.length else latest d1 j := fun j hj => by
    rw [latest_flush (down_none hd2l) j (by rw [hd2n]; exact hj), hd2v]
  rw [hsv]
  refine ⟨by rw [hfl2], ⟨by rw [hfl2], by rw [flush_len, hd2n], by rw [hfl2], by rw [hfl2]; show d2.steps + 1 = _; rw [← hd2]; show d1.steps + 1 + 1 = _; rw [hd1s], ?_, fun i hi => ?_, fun j hj hq => ?_⟩⟩
  · rw [hlat _ (by omega), if_pos rfl]
  · rw [hlat _ (by omega), if_neg (by omega), hd1v _ (by omega), if_pos (by omega), show bg fr ch k + 1 + i - (bg fr ch k + 1) = i by omega]
  · rw [hlat j hj, if_neg (by omega), hd1v j hj, if_neg (by omega)]
theorem Saved.reads {d : Dk} {fr ch k : Nat} {l0 : List Int} {e : Int} {d' : Dk} (h : Saved d fr ch k l0 e d') (he : 1 ≤ e ∧ e ≤ 2147483647) (hc : ch ≤ 4096) (hl : l0.length ≤ 54 * ch) : readS d' fr ch k = (true, e, l0) := readS_saved d' fr ch k l0 e he hc hl h.head h.body
theorem Saved.other {d : Dk} {fr ch k : Nat} {l0 : List Int} {e : Int} {d' : Dk} (h : Saved d fr ch k l0 e d') (hc : ch ≤ 4096) (hl : l0.length ≤ 54 * ch) (k' : Nat) (hk : k ≤ 1 ∧ k' ≤ 1 ∧ k' ≠ k) (hr : fr + 2 * (1 + ch) ≤ d.lies.length) : readS d' fr ch k' = readS d fr ch k' := by
  refine readS_same d d' fr ch k' (fun j h1 h2 => h.rest j ?_ ?_) hc
  · have : bg fr ch k' ≤ fr + (1 + ch) := by
      unfold bg
      have := Nat.mul_le_mul_right (1 + ch) hk.2.1
      omega
    omega
  · have h3 : (k = 0 ∧ k' = 1) ∨ (k = 1 ∧ k' = 0) := by omega
    rcases h3 with ⟨rfl, rfl⟩ | ⟨rfl, rfl⟩
    · unfold bg at *
      right
      omega
    · unfold bg at *
      left
      omega
theorem Saved.bytes {d : Dk} {fr ch k : Nat} {l0 : List Int} {e : Int} {d' : Dk} (h : Saved d fr ch k l0 e d') (hb : Bytes l0) (hd : ∀ j, j < d.lies.length → Bytes (latest d j)) : ∀ j, j < d'.lies.length → Bytes (latest d' j) := fun j hj => by
  rw [h.len] at hj
  by_cases h1 : j = bg fr ch k
  · rw [h1, h.head]; exact headB_Bytes _ _ _
  · by_cases h2 : bg fr ch k < j ∧ j ≤ bg fr ch k + (l0.length + 53) / 54
    · have := h.body (j - (bg fr ch k + 1)) (by omega)
      rw [show bg fr ch k + 1 + (j - (bg fr ch k + 1)) = j by omega] at this
      rw [this]
      exact chunk_Bytes l0 e _ hb
    · rw [h.rest j hj (by omega)]
      exact hd j hj
end Go.Proofs.YthpholjelfajiaaDoor.Sl
