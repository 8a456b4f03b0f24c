/- Chunks, plainly: what a chunk is at a place, what a list of chunks is together. -/
import Derived.Test.YthpholjelfajiaaDoorChkM
import Derived.Test.YthpholjelfajiaaDoorX2
namespace Go.Proofs.YthpholjelfajiaaDoor.C
open Go.RowKit Go.Proofs.YthpholjelfajiaaDoor.X Go.Proofs.YthpholjelfajiaaDoor.G Go.Proofs.YthpholjelfajiaaDoor.T Go.Proofs.YthpholjelfajiaaDoor.E Go.Proofs.YthpholjelfajiaaDoorW.PrintWords Go.Proofs.YthpholjelfajiaaDoorW.PrintLast Go.Proofs.YthpholjelfajiaaDoorW.PrintMore
set_option linter.unusedVariables false
set_option linter.unusedSimpArgs false

/-- What a chunk is at a place under a tag. -/
def CO (b : List Int) (k t : Int) : List Int × Int := if b.length = 64 then (if (RO b).2 = 0 then (if (RO b).1.take 6 = hd k t then ((RO b).1.drop 6, 0) else ([], 180)) else ([], (RO b).2)) else ([], 20)
theorem RO_len (b : List Int) (h : b.length = 64) (h2 : (RO b).2 = 0) : (RO b).1.length = 60 := by
  by_cases hf : b.drop (b.length - 4) = bytes4 (crc (b.take (b.length - 4)))
  · rw [show RO b = (b.take (b.length - 4), 0) from (if_neg (by omega)).trans (if_pos hf)]
    simp [h]
  · rw [show RO b = ([], 21) from (if_neg (by omega)).trans (if_neg hf)] at h2
    simp at h2
theorem open_CO (b : List Int) (k t : Int) : chunk_open.f b k t = some (CO b k t) := by
  by_cases h : b.length = 64
  · rw [chunk_open.f, if_pos h, CO, if_pos h, sums_Open_RO b (by omega), Option.bind_some]
    by_cases h2 : (RO b).2 = 0
    · rw [if_pos h2, if_pos h2, if_pos (RO_len b h h2)]
    · rw [if_neg h2, if_neg h2]
  · rw [chunk_open.f, if_neg h, CO, if_neg h]
theorem CO_len (b : List Int) (k t : Int) (h : (CO b k t).2 = 0) : (CO b k t).1.length = 54 := by
  unfold CO at h ⊢
  by_cases h1 : b.length = 64
  · rw [if_pos h1] at h ⊢
    by_cases h2 : (RO b).2 = 0
    · rw [if_pos h2] at h ⊢
      by_cases h3 : (RO b).1.take 6 = hd k t
      · rw [if_pos h3, List.length_drop, RO_len b h1 h2]
      · rw [if_neg h3] at h
        simp at h
    · rw [if_neg h2] at h
      exact absurd h h2
  · rw [if_neg h1] at h
    simp at h
/-- What is left for a chunk of so many bytes. -/
def left (size : Int) (out : List Int) : Nat := (min 54 (size - out.length)).toNat
/-- What chunks are together, from place k on. -/
def jn (t size : Int) : Nat → List (List Int) → List Int → List Int × Int
  | _, [], out => (out, 0)
  | k, b :: r, out => if (CO b k t).2 = 0 then (if ∀ c ∈ (CO b k t).1.drop (left size out), c = 0 then jn t size (k + 1) r (out ++ (CO b k t).1.take (left size out)) else ([], 50)) else ([], (CO b k t).2)
theorem drop_cons {α : Type} (l : List α) (d : α) (i : Nat) (h : i < l.length) : l.drop i = l.getD i d :: l.drop (i + 1) := by
  rw [List.drop_eq_getElem_cons h]; simp [h]
theorem rdL2 (l : List (List Int)) (i : Nat) : rd_L2 l (i : Int) = l.getD i [] := by
  rw [rd_L2, Int.toNat_natCast]
theorem join_l1 (t size : Int) (out p : List Int) (lf : Int) (l : List (List Int)) (n : Int) (i : Nat) (y : List Int) (r : List Int × Int) (h0 : 0 ≤ lf) (h1 : lf ≤ p.length) (hy : y.length < 4611686018427387904) (ho : out.length + p.length < 140737488355328) (hi : i < 4611686018427387904) :
    ∀ d j, j + d = y.length → (if ∀ c ∈ y.drop j, c = 0 then Ev (fun k => chunk_Join.l0 k t size (out ++ p.take lf.toNat) l n ((i + 1 : Nat) : Int)) r else r = ([], 50)) → Ev (fun k => chunk_Join.l1 k t size out p lf l n (i : Int) y (y.length : Int) (j : Int)) r := by
  intro d
  induction d with
  | zero =>
    intro j hj h
    rw [if_pos (by rw [List.drop_eq_nil_of_le (by omega)]; simp)] at h
    refine ev_succ ?_
    simp only [chunk_Join.l1]
    simp only [if_neg (show ¬ ((j : Int) < (y.length : Int)) by omega), if_pos h0, if_pos h1, Option.bind_some, if_pos (show out.length + (p.take lf.toNat).length < 140737488355328 by rw [List.length_take]; omega), w64 (show i < 9223372036854775807 by omega)]
    exact h
  | succ d ih =>
    intro j hj h
    refine ev_succ ?_
    simp only [chunk_Join.l1]
    simp only [if_pos (show (j : Int) < (y.length : Int) by omega), if_pos (Int.natCast_nonneg j), w64 (show j < 9223372036854775807 by omega)]
    by_cases hz : rd y (j : Int) = 0
    · simp only [if_pos hz]
      refine ih (j + 1) (by omega) ?_
      rw [drop_rd y j (by omega), hz] at h
      simpa using h
    · simp only [if_neg hz]
      rw [if_neg (fun hc => hz (hc _ (by rw [drop_rd y j (by omega)]; simp)))] at h
      rw [h]
      exact Ev.now _
theorem mn_min (a b : Int) : mn a b = min a b := by unfold mn; split <;> omega
theorem join_l0 (t size : Int) (l : List (List Int)) (hs : 0 ≤ size ∧ size ≤ 221184) (hl : l.length < 4611686018427387904) : ∀ d j out, j + d = l.length → (out.length : Int) ≤ size → Ev (fun k => chunk_Join.l0 k t size out l (l.length : Int) (j : Int)) (jn t size j (l.drop j) out) := by
  intro d
  induction d with
  | zero =>
    intro j out hj ho
    refine ev_succ ?_
    simp only [chunk_Join.l0]
    simp only [if_neg (show ¬ ((j : Int) < (l.length : Int)) by omega)]
    rw [List.drop_eq_nil_of_le (by omega), jn]
    exact Ev.now _
  | succ d ih =>
    intro j out hj ho
    refine ev_succ ?_
    simp only [chunk_Join.l0]
    have e1 : wrap64 (size - (out.length : Int)) = size - out.length := w64' (by omega) (by omega)
    simp only [if_pos (show (j : Int) < (l.length : Int) by omega), if_pos (Int.natCast_nonneg j), rdL2, open_CO, Option.bind_some, mn_min, e1]
    rw [drop_cons l [] j (by omega), jn]
    by_cases h2 : (CO (l.getD j []) (j : Int) t).2 = 0
    · have hp := CO_len _ _ _ h2
      simp only [if_pos h2, if_pos (show (0 : Int) ≤ min 54 (size - out.length) by omega), if_pos (show min 54 (size - (out.length : Int)) ≤ ((CO (l.getD j []) (j : Int) t).1.length : Int) by rw [hp]; omega)]
      refine join_l1 t size out _ _ l _ j _ _ (by omega) (by rw [hp]; omega) (by rw [List.length_drop, hp]; omega) (by rw [hp]; omega) (by omega) _ 0 (Nat.zero_add _) ?_
      rw [List.drop_zero, show (min 54 (size - (out.length : Int))).toNat = left size out from rfl]
      by_cases hz : ∀ c ∈ (CO (l.getD j []) (j : Int) t).1.drop (left size out), c = 0
      · rw [if_pos hz, if_pos hz]
        refine ih (j + 1) _ (by omega) ?_
        rw [List.length_append, List.length_take, hp, left]
        omega
      · rw [if_neg hz, if_neg hz]
    · simp only [if_neg h2]
      exact Ev.now _
/-- How many chunks so many bytes have. -/
def cnt (n : Int) : Int := if n < 1 then 0 else (n - 1) / 54 + 1
theorem count_f (n : Int) (h : n ≤ 9223372036854775807) : chunk_Count.f n = some (cnt n) := by
  unfold chunk_Count.f cnt
  by_cases h1 : n < 1
  · rw [if_pos h1, if_pos h1]
  · rw [if_neg h1, if_neg h1, w64' (i := n - 1) (by omega) (by omega), Int.tdiv_eq_ediv_of_nonneg (by omega), w64' (i := (n - 1) / 54) (by omega) (by omega), w64' (by omega) (by omega)]
/-- What chunks are together, or why they are nothing. -/
def JN (l : List (List Int)) (t size : Int) : List Int × Int := if 1 ≤ t ∧ t ≤ 2147483647 ∧ 0 ≤ size ∧ size ≤ 221184 ∧ (l.length : Int) = cnt size then jn t size 0 l [] else ([], 2)
theorem join_f (l : List (List Int)) (t size : Int) (hl : l.length < 4611686018427387904) : Ev (fun k => chunk_Join.f k l t size) (JN l t size) := by
  have bad : ∀ (x : Bool) (h : x = true), ¬ (1 ≤ t ∧ t ≤ 2147483647 ∧ 0 ≤ size ∧ size ≤ 221184 ∧ (l.length : Int) = cnt size) → Ev (fun k => chunk_Join.j0 k l t size x) (JN l t size) := by
    intro x h hn
    refine ev_succ ?_
    simp only [chunk_Join.j0]
    rw [JN, if_neg hn]
    simp only [if_pos h]
    exact Ev.now _
  simp only [chunk_Join.f]
  by_cases h1 : t < 1
  · simp only [if_pos h1]; exact bad _ rfl (by omega)
  simp only [if_neg h1]
  by_cases h2 : t > 2147483647
  · simp only [if_pos h2]; exact bad _ rfl (by omega)
  simp only [if_neg h2]
  by_cases h3 : size < 0
  · simp only [if_pos h3]; exact bad _ rfl (by omega)
  simp only [if_neg h3]
  by_cases h4 : size > 221184
  · simp only [if_pos h4]; exact bad _ rfl (by omega)
  simp only [if_neg h4, count_f size (by omega), Option.bind_some]
  by_cases h5 : (l.length : Int) = cnt size
  · refine ev_succ ?_
    simp only [chunk_Join.j0]
    rw [JN, if_pos ⟨by omega, by omega, by omega, by omega, h5⟩]
    simp only [show ¬ (((l.length : Int) != cnt size) = true) by simp [h5], if_false]
    exact join_l0 t size l ⟨by omega, by omega⟩ hl l.length 0 [] (Nat.zero_add _) (by simp; omega)
  · exact bad _ (by simpa using h5) (fun h => h5 h.2.2.2.2)
/-! ### chunks of bytes -/
theorem RO_seal (p : List Int) : RO (p ++ bytes4 (crc p)) = (p, 0) := by
  have hl : (p ++ bytes4 (crc p)).length - 4 = p.length := by rw [List.length_append, bytes4_length]; omega
  have e1 : (p ++ bytes4 (crc p)).take p.length = p := List.take_left
  have e2 : (p ++ bytes4 (crc p)).drop p.length = bytes4 (crc p) := List.drop_left
  have h : RO (p ++ bytes4 (crc p)) = ((p ++ bytes4 (crc p)).take ((p ++ bytes4 (crc p)).length - 4), 0) := (if_neg (by rw [List.length_append, bytes4_length]; omega)).trans (if_pos (by rw [hl, e1, e2]))
  rw [h, hl, e1]
theorem hd_length (k t : Int) : (hd k t).length = 6 := rfl
theorem CO_chunk (l0 : List Int) (t t' : Int) (j : Nat) (k : Int) : CO (chunkOf l0 t j) k t' = if hd j t = hd k t' then (body l0 j, 0) else ([], 180) := by
  rw [CO, if_pos (chunkOf_length l0 t j), chunkOf, RO_seal, if_pos rfl]
  simp only
  rw [piece, List.take_left' (hd_length _ _), List.drop_left' (hd_length _ _)]
theorem hd_eq (j k t t' : Int) (hj : 0 ≤ j ∧ j < 65536) (hk : 0 ≤ k ∧ k < 65536) (ht : 0 ≤ t ∧ t < 4294967296) (ht' : 0 ≤ t' ∧ t' < 4294967296) : hd j t = hd k t' ↔ j = k ∧ t = t' := by
  constructor
  · intro h
    simp only [hd, List.cons.injEq, and_true] at h
    omega
  · rintro ⟨rfl, rfl⟩
    rfl
theorem body_take (l0 : List Int) (k : Nat) (n : Nat) (hn : n = min 54 (l0.length - k * 54)) : (body l0 k).take n = (l0.drop (k * 54)).take 54 := by
  rw [body]
  refine List.take_left' ?_
  rw [List.length_take, List.length_drop]
  omega
theorem body_drop (l0 : List Int) (k : Nat) (n : Nat) (hn : n = min 54 (l0.length - k * 54)) : (body l0 k).drop n = List.replicate (54 - min 54 (l0.length - k * 54)) 0 := by
  rw [body]
  refine List.drop_left' ?_
  rw [List.length_take, List.length_drop]
  omega
theorem chunks_length (l0 : List Int) (t : Int) : (chunks l0 t).length = (l0.length + 53) / 54 := by simp [chunks]
theorem chunks_get (l0 : List Int) (t : Int) (k : Nat) (h : k < (l0.length + 53) / 54) : (chunks l0 t).getD k [] = chunkOf l0 t k := by
  simp [chunks, List.getD_eq_getElem?_getD, h]
theorem cnt_len (n : Nat) : cnt (n : Int) = (((n + 53) / 54 : Nat) : Int) := by
  unfold cnt
  split <;> omega
/-- The first m chunks are as they were: what is behind them counts. -/
theorem jn_prefix (l0 : List Int) (t : Int) (size : Int) (l : List (List Int)) (M : Nat) (hM : M ≤ l.length) (hM2 : M ≤ (l0.length + 53) / 54) (hs : ∀ m, m < M → left size (l0.take (m * 54)) = min 54 (l0.length - m * 54)) (hg : ∀ m, m < M → CO (l.getD m []) (m : Int) t = (body l0 m, 0)) :
    ∀ m, m ≤ M → jn t size 0 l [] = jn t size m (l.drop m) (l0.take (m * 54))
  | 0, _ => by simp
  | m + 1, h => by
    rw [jn_prefix l0 t size l M hM hM2 hs hg m (by omega), drop_cons l [] m (by omega), jn, hg m (by omega), if_pos rfl, hs m (by omega)]
    simp only
    rw [body_take l0 m _ rfl, body_drop l0 m _ rfl, if_pos (fun c hc => List.eq_of_mem_replicate hc)]
    congr 1
    rw [Nat.succ_mul, List.take_add]
theorem left_len (l0 : List Int) (m : Nat) (h : m * 54 ≤ l0.length) : left (l0.length : Int) (l0.take (m * 54)) = min 54 (l0.length - m * 54) := by
  rw [left, List.length_take]; omega
/-- All chunks are as they were: they are the bytes. -/
theorem jn_all (l0 : List Int) (t : Int) (l : List (List Int)) (hl : l.length = (l0.length + 53) / 54) (hg : ∀ m, m < l.length → CO (l.getD m []) (m : Int) t = (body l0 m, 0)) : jn t (l0.length : Int) 0 l [] = (l0, 0) := by
  rw [jn_prefix l0 t _ l l.length (Nat.le_refl _) (by omega) (fun m hm => left_len l0 m (by omega)) hg l.length (Nat.le_refl _), List.drop_length, jn, List.take_of_length_le (by omega)]
/-- One is refused: it is. -/
theorem jn_bad (l0 : List Int) (t : Int) (l : List (List Int)) (hl : l.length = (l0.length + 53) / 54) (m : Nat) (hm : m < l.length) (hg : ∀ i, i < m → CO (l.getD i []) (i : Int) t = (body l0 i, 0)) (e : Int) (he : CO (l.getD m []) (m : Int) t = ([], e)) (h0 : e ≠ 0) : jn t (l0.length : Int) 0 l [] = ([], e) := by
  rw [jn_prefix l0 t _ l m (by omega) (by omega) (fun i hi => left_len l0 i (by omega)) hg m (Nat.le_refl _), drop_cons l [] m hm, jn, he, if_neg h0]
theorem JN_all (l0 : List Int) (t : Int) (ht : 1 ≤ t ∧ t ≤ 2147483647) (hl : l0.length ≤ 221184) : JN (chunks l0 t) t (l0.length : Int) = (l0, 0) := by
  rw [JN, if_pos ⟨ht.1, ht.2, by omega, by omega, by rw [chunks_length, cnt_len]⟩]
  refine jn_all l0 t _ (chunks_length _ _) (fun m hm => ?_)
  rw [chunks_length] at hm
  rw [chunks_get l0 t m hm, CO_chunk, if_pos rfl]
/-- Another tag. -/
theorem JN_other (l0 : List Int) (t t' : Int) (ht : 1 ≤ t ∧ t ≤ 2147483647) (ht' : 1 ≤ t' ∧ t' ≤ 2147483647) (hne : t' ≠ t) (hl : l0.length ≤ 221184) (h0 : 0 < l0.length) : JN (chunks l0 t) t' (l0.length : Int) = ([], 180) := by
  rw [JN, if_pos ⟨ht'.1, ht'.2, by omega, by omega, by rw [chunks_length, cnt_len]⟩]
  refine jn_bad l0 t' _ (chunks_length _ _) 0 (by rw [chunks_length]; omega) (fun i hi => absurd hi (by omega)) 180 ?_ (by decide)
  rw [chunks_get l0 t 0 (by omega), CO_chunk, if_neg (fun h => hne ?_)]
  exact ((hd_eq _ _ _ _ (by omega) (by omega) (by omega) (by omega)).1 h).2.symm
end Go.Proofs.YthpholjelfajiaaDoor.C
