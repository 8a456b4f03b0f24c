/- The disk in plain Lean: sectors, writes that wait, steps, and when it goes down. No program, no memory. -/
namespace Go.Proofs.Ytckbdckeijanlaa.Dsk

/-- A disk: its sectors' bytes, what waits, the steps, how many are left. -/
structure Dk where
  lies : List (List Int)
  waits : List (Nat × List Int)
  steps : Nat
  left : Option Nat

def zeros (n : Nat) : List Int := List.replicate n 0
def new (n : Nat) : Dk := ⟨List.replicate n (zeros 64), [], 0, none⟩
def down (d : Dk) : Bool := d.left == some 0
def stepped (d : Dk) : Dk := ⟨d.lies, d.waits, d.steps + 1, d.left.map (· - 1)⟩
/-- What a sector tells: the last write that waits for it, or what lies there. -/
def latest (d : Dk) (n : Nat) : List Int := d.waits.foldl (fun b w => if w.1 = n then w.2 else b) (d.lies.getD n [])
def isS (d : Dk) (n : Int) : Bool := decide (0 ≤ n ∧ n < (d.lies.length : Int))
def read (d : Dk) (n : Int) : List Int × Int := if isS d n = false then ([], 4) else if down d = true then ([], 170) else (latest d n.toNat, 0)
def write (d : Dk) (n : Int) (b : List Int) : Dk × Int := if isS d n = false then (d, 4) else if b.length ≠ 64 then (d, 2) else if down d = true then (d, 170) else (stepped ⟨d.lies, d.waits ++ [(n.toNat, b)], d.steps, d.left⟩, 0)
def settle (l : List (List Int)) (ws : List (Nat × List Int)) : List (List Int) := ws.foldl (fun l w => l.set w.1 w.2) l
def flush (d : Dk) : Dk × Int := if down d = true then (d, 170) else (stepped ⟨settle d.lies d.waits, [], d.steps, d.left⟩, 0)
def stop (d : Dk) (n : Int) : Dk × Int := if n < 0 then (d, 2) else (⟨d.lies, d.waits, d.steps, some n.toNat⟩, 0)
def spoil (d : Dk) (n at_ by_ : Int) : Dk × Int := if isS d n = false ∨ at_ < 0 ∨ 64 ≤ at_ then (d, 4) else (⟨d.lies.set n.toNat ((d.lies.getD n.toNat []).set at_.toNat by_), d.waits, d.steps, d.left⟩, 0)
def clamp (k : Int) : Nat := (max 0 (min k 64)).toNat
/-- A write of which k bytes came. -/
def torn (l : List (List Int)) (w : Nat × List Int) (k : Nat) : List (List Int) := l.set w.1 (w.2.take k ++ (l.getD w.1 []).drop k)
def crashL (l : List (List Int)) : List (Nat × List Int) → List Int → List (List Int)
  | w :: ws, k :: ks => crashL (torn l w (clamp k)) ws ks
  | _, _ => l
def crash (d : Dk) (kept : List Int) : Dk := ⟨crashL d.lies d.waits kept, [], 0, none⟩
/-- What is true of every disk: sectors of 64 bytes, writes to sectors that are there. -/
structure Ok (d : Dk) : Prop where
  some_ : 0 < d.lies.length
  lies : ∀ b ∈ d.lies, b.length = 64
  waits : ∀ w ∈ d.waits, w.1 < d.lies.length ∧ w.2.length = 64
theorem new_ok {n : Nat} (h : 0 < n) : Ok (new n) := ⟨by simpa [new] using h, fun b hb => by simp [new] at hb; rw [hb.2]; simp [zeros], fun w hw => by simp [new] at hw⟩
theorem stepped_ok {d : Dk} (h : Ok d) : Ok (stepped d) := ⟨h.some_, h.lies, h.waits⟩
theorem isS_lt {d : Dk} {n : Int} (h : isS d n = true) : n.toNat < d.lies.length := by have := of_decide_eq_true h; omega
theorem write_ok {d : Dk} (h : Ok d) (n : Int) (b : List Int) : Ok (write d n b).1 := by
  unfold write
  split
  · exact h
  · split
    · exact h
    · split
      · exact h
      · rename_i h1 h2 h3
        refine stepped_ok ⟨h.some_, h.lies, fun w hw => ?_⟩
        rcases List.mem_append.1 hw with hw | hw
        · exact h.waits w hw
        · obtain rfl : w = (n.toNat, b) := by simpa using hw
          exact ⟨isS_lt (d := d) (by simpa using h1), by simpa using h2⟩
theorem set_ok {l : List (List Int)} (h : ∀ b ∈ l, b.length = 64) (i : Nat) {x : List Int} (hx : x.length = 64) : ∀ b ∈ l.set i x, b.length = 64 := fun b hb => by
  rcases List.mem_or_eq_of_mem_set hb with hb | rfl
  · exact h b hb
  · exact hx
theorem settle_len (ws : List (Nat × List Int)) : ∀ l : List (List Int), (settle l ws).length = l.length := by
  induction ws with
  | nil => intro l; rfl
  | cons w ws ih => intro l; show (settle (l.set w.1 w.2) ws).length = _; rw [ih, List.length_set]
theorem settle_ok (ws : List (Nat × List Int)) : ∀ l : List (List Int), (∀ b ∈ l, b.length = 64) → (∀ w ∈ ws, w.2.length = 64) → ∀ b ∈ settle l ws, b.length = 64 := by
  induction ws with
  | nil => intro l h _; exact h
  | cons w ws ih => intro l h hw; exact ih _ (set_ok h _ (hw w (by simp))) (fun q hq => hw q (by simp [hq]))
theorem flush_ok {d : Dk} (h : Ok d) : Ok (flush d).1 := by
  unfold flush
  split
  · exact h
  · refine stepped_ok ⟨by show 0 < (settle _ _).length; rw [settle_len]; exact h.some_, settle_ok _ _ h.lies (fun w hw => (h.waits w hw).2), fun w hw => by simp at hw⟩
theorem stop_ok {d : Dk} (h : Ok d) (n : Int) : Ok (stop d n).1 := by unfold stop; split <;> exact ⟨h.some_, h.lies, h.waits⟩
theorem getD_ok {l : List (List Int)} (h : ∀ b ∈ l, b.length = 64) {i : Nat} (hi : i < l.length) : (l.getD i []).length = 64 := by
  rw [List.getD_eq_getElem?_getD, List.getElem?_eq_getElem hi]
  exact h _ (List.getElem_mem hi)
theorem spoil_ok {d : Dk} (h : Ok d) (n a b : Int) : Ok (spoil d n a b).1 := by
  unfold spoil
  split
  · exact h
  · rename_i h1
    have h2 : isS d n = true := by cases hh : isS d n with | true => rfl | false => exact absurd (.inl hh) h1
    exact ⟨by simpa using h.some_, set_ok h.lies _ (by rw [List.length_set]; exact getD_ok h.lies (isS_lt h2)), fun w hw => by rw [List.length_set]; exact h.waits w hw⟩
theorem clamp_le (k : Int) : clamp k ≤ 64 := by unfold clamp; omega
theorem torn_len (l : List (List Int)) (w : Nat × List Int) (k : Nat) : (torn l w k).length = l.length := List.length_set
theorem torn_ok {l : List (List Int)} (h : ∀ b ∈ l, b.length = 64) (w : Nat × List Int) (hw : w.1 < l.length ∧ w.2.length = 64) {k : Nat} (hk : k ≤ 64) : ∀ b ∈ torn l w k, b.length = 64 := by
  refine set_ok h _ ?_
  rw [List.length_append, List.length_take, List.length_drop, getD_ok h hw.1, hw.2]
  omega
theorem crashL_ok : ∀ (ws : List (Nat × List Int)) (ks : List Int) (l : List (List Int)), (∀ b ∈ l, b.length = 64) → (∀ w ∈ ws, w.1 < l.length ∧ w.2.length = 64) → (crashL l ws ks).length = l.length ∧ ∀ b ∈ crashL l ws ks, b.length = 64
  | [], ks, l, h, _ => ⟨by simp [crashL], by simpa [crashL] using h⟩
  | w :: ws, [], l, h, _ => ⟨by simp [crashL], by simpa [crashL] using h⟩
  | w :: ws, k :: ks, l, h, hw => by
    have hw0 := hw w (by simp)
    have := crashL_ok ws ks (torn l w (clamp k)) (torn_ok h w hw0 (clamp_le k)) (fun q hq => by rw [torn_len]; exact hw q (by simp [hq]))
    simp only [crashL]
    exact ⟨by rw [this.1, torn_len], this.2⟩
theorem crash_ok {d : Dk} (h : Ok d) (kept : List Int) : Ok (crash d kept) := by
  have := crashL_ok d.waits kept d.lies h.lies h.waits
  exact ⟨by show 0 < (crashL _ _ _).length; rw [this.1]; exact h.some_, this.2, fun w hw => by simp [crash] at hw⟩
theorem latest_len {d : Dk} (h : Ok d) {n : Nat} (hn : n < d.lies.length) : (latest d n).length = 64 := by
  unfold latest
  have h1 := getD_ok h.lies hn
  have h2 := h.waits
  generalize d.lies.getD n [] = b at h1
  generalize d.waits = ws at h2
  induction ws generalizing b with
  | nil => exact h1
  | cons w ws ih =>
    simp only [List.foldl_cons]
    refine ih _ ?_ (fun q hq => h2 q (by simp [hq]))
    split
    · exact (h2 w (by simp)).2
    · exact h1
end Go.Proofs.Ytckbdckeijanlaa.Dsk
