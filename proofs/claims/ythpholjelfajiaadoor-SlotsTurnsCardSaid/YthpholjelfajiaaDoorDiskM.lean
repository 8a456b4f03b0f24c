/- The disk in plain Lean: sectors, writes that wait, steps, and when it goes down. No program, no memory. -/
import Derived.Test.YthpholjelfajiaaDoorHGoes
import Derived.Deep.MidRow
import Derived.Test.YthpholjelfajiaaDoorHBig
import Derived.Test.YthpholjelfajiaaDoorChkM
import Derived.RangeFuncWrites
import Derived.RangeFuncNested
import Derived.RangeFuncBound
import Derived.RangeFuncCalls
import Derived.RangeFuncLeaves
import Derived.Shelf.Abstract
import Derived.Shelf.RegionOpen
import Derived.WalkKit
import Derived.OwnWalkIn
import Derived.TacticsInMore
import Derived.LoopNIn
import Derived.LoopIn
import Derived.Test.YthpholjelfajiaaDoorHTame
namespace Go.Proofs.YthpholjelfajiaaDoor.Dsk

/-- A disk: its sectors' bytes, what waits, the steps, how many are left. -/
structure Dk where
  lies : List (List Int)
  waits : List (Nat × List Int)
  steps : Nat
  left : Option Nat

def zeros (n : Nat) : List Int := List.replicate n 0
def new (n : Nat) : Dk := ⟨List.replicate n (zeros 64), [], 0, none⟩
def down (d : Dk) : Bool := d.left == some 0
def stepped (d : Dk) : Dk := ⟨d.lies, d.waits, d.steps + 1, d.left.map (· - 1)⟩
/-- What a sector tells: the last write that waits for it, or what lies there. -/
def latest (d : Dk) (n : Nat) : List Int := d.waits.foldl (fun b w => if w.1 = n then w.2 else b) (d.lies.getD n [])
def isS (d : Dk) (n : Int) : Bool := decide (0 ≤ n ∧ n < (d.lies.length : Int))
def read (d : Dk) (n : Int) : List Int × Int := if isS d n = false then ([], 4) else if down d = true then ([], 170) else (latest d n.toNat, 0)
def write (d : Dk) (n : Int) (b : List Int) : Dk × Int := if isS d n = false then (d, 4) else if b.length ≠ 64 then (d, 2) else if down d = true then (d, 170) else (stepped ⟨d.lies, d.waits ++ [(n.toNat, b)], d.steps, d.left⟩, 0)
def settle (l : List (List Int)) (ws : List (Nat × List Int)) : List (List Int) := ws.foldl (fun l w => l.set w.1 w.2) l
def flush (d : Dk) : Dk × Int := if down d = true then (d, 170) else (stepped ⟨settle d.lies d.waits, [], d.steps, d.left⟩, 0)
def stop (d : Dk) (n : Int) : Dk × Int := if n < 0 then (d, 2) else (⟨d.lies, d.waits, d.steps, some n.toNat⟩, 0)
def spoil (d : Dk) (n at_ by_ : Int) : Dk × Int := if isS d n = false ∨ at_ < 0 ∨ 64 ≤ at_ then (d, 4) else (⟨d.lies.set n.toNat ((d.lies.getD n.toNat []).set at_.toNat by_), d.waits, d.steps, d.left⟩, 0)
def clamp (k : Int) : Nat := (max 0 (min k 64)).toNat
/-- A write of which k bytes came. -/
def torn (l : List (List Int)) (w : Nat × List Int) (k : Nat) : List (List Int) := l.set w.1 (w.2.take k ++ (l.getD w.1 []).drop k)
def crashL (l : List (List Int)) : List (Nat × List Int) → List Int → List (List Int)
  | w :: ws, k :: ks => crashL (torn l w (clamp k)) ws ks
  | _, _ => l
def crash (d : Dk) (kept : List Int) : Dk := ⟨crashL d.lies d.waits kept, [], 0, none⟩
/-- What is true of every disk: sectors of 64 bytes, writes to sectors that are there. -/
structure Ok (d : Dk) : Prop where
  some_ : 0 < d.lies.length
  lies : ∀ b ∈ d.lies, b.length = 64
  waits : ∀ w ∈ d.waits, w.1 < d.lies.length ∧ w.2.length = 64
theorem new_ok {n : Nat} (h : 0 < n) : Ok (new n) := ⟨by simpa [new] using h, fun b hb => by simp [new] at hb; rw [hb.2]; simp [zeros], fun w hw => by simp [new] at hw⟩
theorem stepped_ok {d : Dk} (h : Ok d) : Ok (stepped d) := ⟨h.some_, h.lies, h.waits⟩
theorem isS_lt {d : Dk} {n : Int} (h : isS d n = true) : n.toNat < d.lies.length := by have := of_decide_eq_true h; omega
theorem write_ok {d : Dk} (h : Ok d) (n : Int) (b : List Int) : Ok (write d n b).1 := by
  unfold write
  split
  · exact h
  · split
    · exact h
    · split
      · exact h
      · rename_i h1 h2 h3
        refine stepped_ok ⟨h.some_, h.lies, fun w hw => ?_⟩
        rcases List.mem_append.1 hw with hw | hw
        · exact h.waits w hw
        · obtain rfl : w = (n.toNat, b) := by simpa using hw
          exact ⟨isS_lt (d := d) (by simpa using h1), by simpa using h2⟩
theorem set_ok {l : List (List Int)} (h : ∀ b ∈ l, b.length = 64) (i : Nat) {x : List Int} (hx : x.length = 64) : ∀ b ∈ l.set i x, b.length = 64 := fun b hb => by
  rcases List.mem_or_eq_of_mem_set hb with hb | rfl
  · exact h b hb
  · exact hx
theorem settle_len (ws : List (Nat × List Int)) : ∀ l : List (List Int), (settle l ws).length = l.length := by
  induction ws with
  | nil => intro l; rfl
  | cons w ws ih => intro l; show (settle (l.set w.1 w.2) ws).length = _; rw [ih, List.length_set]
theorem settle_ok (ws : List (Nat × List Int)) : ∀ l : List (List Int), (∀ b ∈ l, b.length = 64) → (∀ w ∈ ws, w.2.length = 64) → ∀ b ∈ settle l ws, b.length = 64 := by
  induction ws with
  | nil => intro l h _; exact h
  | cons w ws ih => intro l h hw; exact ih _ (set_ok h _ (hw w (by simp))) (fun q hq => hw q (by simp [hq]))
theorem flush_ok {d : Dk} (h : Ok d) : Ok (flush d).1 := by
  unfold flush
  split
  · exact h
  · refine stepped_ok ⟨by show 0 < (settle _ _).length; rw [settle_len]; exact h.some_, settle_ok _ _ h.lies (fun w hw => (h.waits w hw).2), fun w hw => by simp at hw⟩
theorem stop_ok {d : Dk} (h : Ok d) (n : Int) : Ok (stop d n).1 := by unfold stop; split <;> exact ⟨h.some_, h.lies, h.waits⟩
theorem getD_ok {l : List (List Int)} (h : ∀ b ∈ l, b.length = 64) {i : Nat} (hi : i < l.length) : (l.getD i []).length = 64 := by
  rw [List.getD_eq_getElem?_getD, List.getElem?_eq_getElem hi]
  exact h _ (List.getElem_mem hi)
theorem spoil_ok {d : Dk} (h : Ok d) (n a b : Int) : Ok (spoil d n a b).1 := by
  unfold spoil
  split
  · exact h
  · rename_i h1
    have h2 : isS d n = true := by cases hh : isS d n with | true => rfl | false => exact absurd (.inl hh) h1
    exact ⟨by simpa using h.some_, set_ok h.lies _ (by rw [List.length_set]; exact getD_ok h.lies (isS_lt h2)), fun w hw => by rw [List.length_set]; exact h.waits w hw⟩
theorem clamp_le (k : Int) : clamp k ≤ 64 := by unfold clamp; omega
theorem torn_len (l : List (List Int)) (w : Nat × List Int) (k : Nat) : (torn l w k).length = l.length := List.length_set
theorem torn_ok {l : List (List Int)} (h : ∀ b ∈ l, b.length = 64) (w : Nat × List Int) (hw : w.1 < l.length ∧ w.2.length = 64) {k : Nat} (hk : k ≤ 64) : ∀ b ∈ torn l w k, b.length = 64 := by
  refine set_ok h _ ?_
  rw [List.length_append, List.length_take, List.length_drop, getD_ok h hw.1, hw.2]
  omega
theorem crashL_ok : ∀ (ws : List (Nat × List Int)) (ks : List Int) (l : List (List Int)), (∀ b ∈ l, b.length = 64) → (∀ w ∈ ws, w.1 < l.length ∧ w.2.length = 64) → (crashL l ws ks).length = l.length ∧ ∀ b ∈ crashL l ws ks, b.length = 64
  | [], ks, l, h, _ => ⟨by simp [crashL], by simpa [crashL] using h⟩
  | w :: ws, [], l, h, _ => ⟨by simp [crashL], by simpa [crashL] using h⟩
  | w :: ws, k :: ks, l, h, hw => by
    have hw0 := hw w (by simp)
    have := crashL_ok ws ks (torn l w (clamp k)) (torn_ok h w hw0 (clamp_le k)) (fun q hq => by rw [torn_len]; exact hw q (by simp [hq]))
    simp only [crashL]
    exact ⟨by rw [this.1, torn_len], this.2⟩
theorem crash_ok {d : Dk} (h : Ok d) (kept : List Int) : Ok (crash d kept) := by
  have := crashL_ok d.waits kept d.lies h.lies h.waits
  exact ⟨by show 0 < (crashL _ _ _).length; rw [this.1]; exact h.some_, this.2, fun w hw => by simp [crash] at hw⟩
theorem latest_len {d : Dk} (h : Ok d) {n : Nat} (hn : n < d.lies.length) : (latest d n).length = 64 := by
  unfold latest
  have h1 := getD_ok h.lies hn
  have h2 := h.waits
  generalize d.lies.getD n [] = b at h1
  generalize d.waits = ws at h2
  induction ws generalizing b with
  | nil => exact h1
  | cons w ws ih =>
    simp only [List.foldl_cons]
    refine ih _ ?_ (fun q hq => h2 q (by simp [hq]))
    split
    · exact (h2 w (by simp)).2
    · exact h1
end Go.Proofs.YthpholjelfajiaaDoor.Dsk
/- What a sector tells behind a write, a flush and a crash of which nothing waits. Plain. -/
namespace Go.Proofs.YthpholjelfajiaaDoor.Dsk
theorem latest_write {d : Dk} (n : Int) (b : List Int) (hS : isS d n = true) (hb : b.length = 64) (hd : down d = false) (j : Nat) : latest (write d n b).1 j = if j = n.toNat then b else latest d j := by
  unfold write
  rw [hS, if_neg (by simp), if_neg (by simp [hb]), hd, if_neg (by simp)]
  unfold latest stepped
  show List.foldl _ _ (d.waits ++ [(n.toNat, b)]) = _
  rw [List.foldl_append]
  show (if n.toNat = j then b else _) = _
  by_cases h : j = n.toNat
  · rw [if_pos h.symm, if_pos h]
  · rw [if_neg (fun e => h e.symm), if_neg h]
theorem latest_settle (j : Nat) : ∀ (ws : List (Nat × List Int)) (l : List (List Int)), j < l.length → (settle l ws).getD j [] = ws.foldl (fun b w => if w.1 = j then w.2 else b) (l.getD j [])
  | [], l, _ => rfl
  | w :: ws, l, h => by
    show (settle (l.set w.1 w.2) ws).getD j [] = List.foldl _ (if w.1 = j then w.2 else l.getD j []) ws
    rw [latest_settle j ws (l.set w.1 w.2) (by rw [List.length_set]; exact h)]
    congr 1
    by_cases e : w.1 = j
    · subst e
      rw [if_pos rfl, List.getD_eq_getElem?_getD, List.getElem?_set_self h]
      rfl
    · rw [if_neg e, List.getD_eq_getElem?_getD, List.getD_eq_getElem?_getD, List.getElem?_set_ne e]
theorem latest_flush {d : Dk} (hd : down d = false) (j : Nat) (h : j < d.lies.length) : latest (flush d).1 j = latest d j := by
  unfold flush
  rw [hd, if_neg (by simp)]
  exact latest_settle j d.waits d.lies h
theorem flush_waits {d : Dk} (hd : down d = false) : (flush d).1.waits = [] := by
  unfold flush
  rw [hd, if_neg (by simp)]
  rfl
theorem flush_len (d : Dk) : (flush d).1.lies.length = d.lies.length := by
  unfold flush
  split
  · rfl
  · exact settle_len _ _
theorem latest_crash {d : Dk} (h : d.waits = []) (ks : List Int) (j : Nat) : latest (crash d ks) j = latest d j := by
  unfold latest crash
  rw [h]
  cases ks <;> rfl
theorem crash_len {d : Dk} (h : Ok d) (ks : List Int) : (crash d ks).lies.length = d.lies.length := (crashL_ok d.waits ks d.lies h.lies h.waits).1
end Go.Proofs.YthpholjelfajiaaDoor.Dsk
/- A disk in memory: its cells, its rows; and what a call leaves of all else. -/
namespace Go.Proofs.YthpholjelfajiaaDoor.G
open Go.RowKit Go.Proofs.YthpholjelfajiaaDoorW.PrintWords Go.Proofs.YthpholjelfajiaaDoorW.PrintLast Go.Proofs.YthpholjelfajiaaDoorW.PrintMore Go.Proofs.YthpholjelfajiaaDoor.Dsk
set_option linter.unusedVariables false
set_option linter.unusedSimpArgs false

/-- A sector's bytes, as cells. -/
def bts (xs : List Int) : List Value := xs.map (Value.int .u8)
theorem bts_length (xs : List Int) : (bts xs).length = xs.length := List.length_map _
theorem bts_one (xs : List Int) : ∀ u ∈ bts xs, u.oneCell' = true := fun u hu => by
  obtain ⟨x, _, rfl⟩ := List.mem_map.1 hu
  rfl
def secK : Kd (List Int) where
  sz := 64
  E := []
  K := fun _ x cs => x.length = 64 ∧ cs = bts x
  M := fun _ _ _ x cs => x.length = 64 ∧ cs = bts x
  K_len := fun h => by rw [h.2, bts_length]; exact h.1
  K_one := fun h u hu => by rw [h.2] at hu; exact bts_one _ u hu
  K_below := fun _ h => h
  K_of_M := fun h => h
  M_mono := fun _ h => h
  M_bound := fun h => h
  M_move := fun _ h => h
  M_lower := fun _ h => h
def wrtK : Kd (Int × List Int) := Kd.pair (Kd.int .i64) secK
theorem wrtK_sz : wrtK.sz = 65 := rfl
def encW (w : Nat × List Int) : Int × List Int := ((w.1 : Int), w.2)
theorem wrtK_cells {W : World} {x : Int × List Int} {cs : List Value} (h : wrtK.K W x cs) : x.2.length = 64 ∧ cs = .int .i64 x.1 :: bts x.2 := by
  obtain ⟨c0, c1, rfl, h0, h1, h2⟩ := h
  have e0 : c0 = [.int .i64 x.1] := h0
  rw [e0, h2]
  exact ⟨h1, rfl⟩
theorem wrtK_M (W : World) (base : Nat) (ok : Nat → Prop) (x : Int × List Int) (hx : x.2.length = 64) : wrtK.M W base ok x (.int .i64 x.1 :: bts x.2) := ⟨[.int .i64 x.1], bts x.2, rfl, rfl, hx, rfl⟩

/-- A disk at block g, its blocks within F: its sectors in a block of their own, what waits in another. -/
structure Mem (F : Nat → Prop) (g gl cl : Nat) (d : Dk) (wv : Value) (W : World) : Prop where
  blk : W.heap[g]? = some (.cells #[.slice (some ⟨gl, 0, none⟩) d.lies.length cl, wv, .int .i64 (d.steps : Int), .bool d.left.isSome, .int .i64 ((d.left.getD 0 : Nat) : Int)] 44 (0, 0))
  fg : F g
  fl : F gl
  ne : gl ≠ g
  lies : secK.R 84 W 0 (fun k => k = gl) (.slice (some ⟨gl, 0, none⟩) d.lies.length cl) d.lies
  waits : wrtK.R 89 W 0 (fun k => F k ∧ k ≠ g ∧ k ≠ gl) wv (d.waits.map encW)
  ok : Ok d
theorem Mem.move {F : Nat → Prop} {g gl cl : Nat} {d : Dk} {wv : Value} {W W' : World} (h : Mem F g gl cl d wv W) (hm : ∀ k, F k → k < W.heap.size → W'.heap[k]? = W.heap[k]?) : Mem F g gl cl d wv W' :=
  ⟨(hm g h.fg (blk_lt h.blk)).trans h.blk, h.fg, h.fl, h.ne, Kd.R_step h.lies (fun k hk => hm k (hk ▸ h.fl)), Kd.R_step h.waits (fun k hk => hm k hk.1), h.ok⟩
theorem Mem.below {F : Nat → Prop} {g gl cl : Nat} {d : Dk} {wv : Value} {W W' : World} (h : Mem F g gl cl d wv W) (hb : Below W.heap.size W W') : Mem F g gl cl d wv W' := h.move fun k _ hk => hb.block k hk
theorem Mem.kp {F G : Nat → Prop} {g gl cl : Nat} {d : Dk} {wv : Value} {W W' : World} (h : Mem F g gl cl d wv W) (hb : Kp G W W') (hd : ∀ k, F k → ¬ G k) : Mem F g gl cl d wv W' := h.move fun k hk hlt => hb.block k hlt (hd k hk)
theorem Mem.mono {F G : Nat → Prop} {g gl cl : Nat} {d : Dk} {wv : Value} {W : World} (h : Mem F g gl cl d wv W) (hG : ∀ k, F k → G k) : Mem G g gl cl d wv W := ⟨h.blk, hG g h.fg, hG gl h.fl, h.ne, h.lies, Kd.R_mono h.waits (fun k hk => ⟨hG k hk.1, hk.2⟩), h.ok⟩
theorem Mem.cells {F : Nat → Prop} {g gl cl : Nat} {d : Dk} {wv : Value} {W : World} (h : Mem F g gl cl d wv W) :
    W.cell? ⟨g, 0, none⟩ = some (.slice (some ⟨gl, 0, none⟩) d.lies.length cl) ∧ W.cell? ⟨g, 1, none⟩ = some wv ∧ W.cell? ⟨g, 2, none⟩ = some (.int .i64 (d.steps : Int)) ∧ W.cell? ⟨g, 3, none⟩ = some (.bool d.left.isSome) ∧ W.cell? ⟨g, 4, none⟩ = some (.int .i64 ((d.left.getD 0 : Nat) : Int)) :=
  ⟨(blk_cell h.blk 0).trans rfl, (blk_cell h.blk 1).trans rfl, (blk_cell h.blk 2).trans rfl, (blk_cell h.blk 3).trans rfl, (blk_cell h.blk 4).trans rfl⟩
theorem Mem.free {F : Nat → Prop} {g gl cl : Nat} {d : Dk} {wv : Value} {W : World} (h : Mem F g gl cl d wv W) (i : Nat) : W.frozen? ⟨g, i, none⟩ = false := blk_frozen h.blk i
/-- Steps and stops: cells 2, 3, 4 alone. -/
theorem Mem.tail {F : Nat → Prop} {g gl cl : Nat} {d d' : Dk} {wv : Value} {W W' : World} (h : Mem F g gl cl d wv W) (hl : d'.lies = d.lies) (hw : d'.waits = d.waits)
    (hb : W'.heap[g]? = some (.cells #[.slice (some ⟨gl, 0, none⟩) d.lies.length cl, wv, .int .i64 (d'.steps : Int), .bool d'.left.isSome, .int .i64 ((d'.left.getD 0 : Nat) : Int)] 44 (0, 0)))
    (hm : ∀ k, k ≠ g → k < W.heap.size → W'.heap[k]? = W.heap[k]?) : Mem F g gl cl d' wv W' :=
  ⟨by rw [hl]; exact hb, h.fg, h.fl, h.ne, by rw [hl]; exact Kd.R_step h.lies (fun k hk => hm k (hk ▸ h.ne)), by rw [hw]; exact Kd.R_step h.waits (fun k hk => hm k hk.2.1), ⟨by rw [hl]; exact h.ok.some_, by rw [hl]; exact h.ok.lies, by rw [hl, hw]; exact h.ok.waits⟩⟩
/-- A sector's bytes lie in line. -/
theorem sec_at {W : World} {ad : Addr} {n : Nat} {xs : List (List Int)} (h : secK.C W (some ad) n xs) (j : Nat) (hj : j < n) (x : List Int) (hx : xs[j]? = some x) : x.length = 64 ∧ ∀ i u, (bts x)[i]? = some u → W.cell? (ad.add (j * 64 + i)) = some u := by
  obtain ⟨ad', e, hc⟩ := h.2.2 (by omega)
  injection e with e
  subst e
  obtain ⟨cs, hl, hk, hu⟩ := hc j x hx
  obtain ⟨h1, h2⟩ := hk
  subst h2
  exact ⟨h1, hu⟩
theorem sec_range {W : World} {gl : Nat} {n : Nat} {xs : List (List Int)} (h : secK.C W (some ⟨gl, 0, none⟩) n xs) (j : Nat) (hj : j < n) (x : List Int) (hx : xs[j]? = some x) : x.length = 64 ∧ W.rangeAt gl (j * 64) (bts x) := by
  obtain ⟨h1, h2⟩ := sec_at h j hj x hx
  refine ⟨h1, fun i u hu => ?_⟩
  have := h2 i u hu
  rw [Addr.add_mid, Nat.zero_add] at this
  exact this
theorem wrt_range {W : World} {gl : Nat} {n : Nat} {xs : List (Int × List Int)} (h : wrtK.C W (some ⟨gl, 0, none⟩) n xs) (j : Nat) (hj : j < n) (x : Int × List Int) (hx : xs[j]? = some x) : x.2.length = 64 ∧ W.rangeAt gl (j * 65) (.int .i64 x.1 :: bts x.2) := by
  obtain ⟨ad', e, hc⟩ := h.2.2 (by omega)
  injection e with e
  subst e
  obtain ⟨cs, hl, hk, hu⟩ := hc j x hx
  obtain ⟨h1, h2⟩ := wrtK_cells hk
  subst h2
  refine ⟨h1, fun i u hu' => ?_⟩
  have := hu i u hu'
  rw [Addr.add_mid, Nat.zero_add] at this
  exact this
/-- What a call on a disk leaves. -/
def MemPost (F : Nat → Prop) (g : Nat) (d : Dk) (W : World) (r : Ending) (e : Ending) (w' : World) : Prop := e = r ∧ ∃ gl cl wv F', Mem F' g gl cl d wv w' ∧ (∀ k, F' k → F k ∨ W.heap.size ≤ k) ∧ Kp F W w'
end Go.Proofs.YthpholjelfajiaaDoor.G
/- The disk's small functions: Sectors, wrong, down, step. By hand. -/
namespace Go.Proofs.YthpholjelfajiaaDoor.G
open Go.RowKit Go.Proofs.YthpholjelfajiaaDoorW.PrintWords Go.Proofs.YthpholjelfajiaaDoorW.PrintLast Go.Proofs.YthpholjelfajiaaDoorW.PrintMore Go.Proofs.YthpholjelfajiaaDoor.Dsk
set_option linter.unusedVariables false
set_option linter.unusedSimpArgs false
set_option maxHeartbeats 4000000 in
set_option maxRecDepth 100000 in
theorem Sectors_calls (F : Nat → Prop) (g gl cl : Nat) (d : Dk) (wv : Value) (W : World) (h : Mem F g gl cl d wv W) :
    Calls Tryd.prog 32 #[.pointer (some ⟨g, 0, none⟩)] W fun e w' => e = .returned (.int .i64 (d.lies.length : Int)) ∧ w' = W := by
  obtain ⟨hc0, _⟩ := h.cells
  clear h
  go_enter Tryd.func32, Tryd.ntmps32
  go_wp2
  go_ret
  exact ⟨rfl, rfl⟩
set_option maxHeartbeats 4000000 in
set_option maxRecDepth 100000 in
theorem down_calls (F : Nat → Prop) (g gl cl : Nat) (d : Dk) (wv : Value) (W : World) (h : Mem F g gl cl d wv W) :
    Calls Tryd.prog 36 #[.pointer (some ⟨g, 0, none⟩)] W fun e w' => e = .returned (.bool (down d)) ∧ w' = W := by
  obtain ⟨_, _, _, hc3, hc4⟩ := h.cells
  clear h
  have he : down d = (d.left.isSome && (((d.left.getD 0 : Nat) : Int) == 0)) := by
    unfold down
    cases d.left with
    | none => rfl
    | some n =>
      show ((some n : Option Nat) == some 0) = ((n : Int) == 0)
      rw [Bool.eq_iff_iff]
      simp
  rw [he]
  clear he
  go_enter Tryd.func36, Tryd.ntmps36
  go_wp2
  · rename_i hs
    go_ret
    exact ⟨by rw [hs]; rfl, rfl⟩
  · rename_i hs
    have hs' : d.left.isSome = false := by simpa using hs
    go_ret
    exact ⟨by rw [hs']; rfl, rfl⟩
set_option maxHeartbeats 4000000 in
set_option maxRecDepth 100000 in
theorem Steps_calls (F : Nat → Prop) (g gl cl : Nat) (d : Dk) (wv : Value) (W : World) (h : Mem F g gl cl d wv W) :
    Calls Tryd.prog 34 #[.pointer (some ⟨g, 0, none⟩)] W fun e w' => e = .returned (.int .i64 (d.steps : Int)) ∧ w' = W := by
  obtain ⟨_, _, hc2, _⟩ := h.cells
  clear h
  go_enter Tryd.func34, Tryd.ntmps34
  go_wp2
  go_ret
  exact ⟨rfl, rfl⟩
set_option maxHeartbeats 4000000 in
set_option maxRecDepth 100000 in
theorem wrong_calls (F : Nat → Prop) (g gl cl : Nat) (d : Dk) (wv : Value) (n : Int) (W : World) (h : Mem F g gl cl d wv W) :
    Calls Tryd.prog 35 #[.pointer (some ⟨g, 0, none⟩), .int .i64 n] W fun e w' => e = .returned (.int .i64 (if isS d n = false then 4 else 0)) ∧ w' = W := by
  have hpos := h.ok.some_
  obtain ⟨hc0, _⟩ := h.cells
  have b0 : ((d.lies.length : Int) == 0) = false := by
    rw [Bool.eq_false_iff]
    intro q
    rw [beq_iff_eq] at q
    omega
  have hS := Sectors_calls F g gl cl d wv W h
  have b0' : ((d.lies.length : Int) = 0) = False := eq_false (by omega)
  have hP := Aside0.mk hpos
  clear h hS
  by_cases hn : n < 0
  · have hI : isS d n = false := decide_eq_false (by omega)
    have p1 : (n < 0) = True := eq_true hn
    rw [hI]
    clear hI hpos
    go_enter Tryd.func35, Tryd.ntmps35
    go_wp2
    all_goals first | (exfalso; omega) | (go_ret; exact ⟨rfl, rfl⟩)
  · by_cases hm : (d.lies.length : Int) ≤ n
    · have hI : isS d n = false := decide_eq_false (by omega)
      rw [hI]
      clear hI hpos
      go_enter Tryd.func35, Tryd.ntmps35
      go_wp2
      all_goals first | (exfalso; omega) | (go_ret; exact ⟨rfl, rfl⟩)
    · have hI : isS d n = true := decide_eq_true (by omega)
      rw [hI]
      clear hI hpos
      go_enter Tryd.func35, Tryd.ntmps35
      go_wp2
      all_goals first | (exfalso; omega) | (go_ret; exact ⟨rfl, rfl⟩)
set_option maxHeartbeats 4000000 in
set_option maxRecDepth 100000 in
theorem step_calls (F : Nat → Prop) (g gl cl : Nat) (d : Dk) (wv : Value) (W : World) (h : Mem F g gl cl d wv W) (hs : d.steps < 4611686018427387904) (hd : down d = false) (hn : (d.left.getD 0 : Nat) < 9223372036854775808) :
    Calls Tryd.prog 48 #[.pointer (some ⟨g, 0, none⟩)] W fun e w' => e = .returned (.tuple #[]) ∧ Mem F g gl cl (stepped d) wv w' ∧ Kp (fun k => k = g) W w' := by
  obtain ⟨_, _, hc2, hc3, hc4⟩ := h.cells
  have z2 := h.free 2
  have z4 := h.free 4
  have HM := Aside0.mk h
  have HD := Aside0.mk hd
  have r1 : wrap64 ((d.steps : Int) + 1) = (d.steps : Int) + 1 := by unfold wrap64; omega
  have r2 : wrap64 (((d.left.getD 0 : Nat) : Int) - 1) = ((d.left.getD 0 : Nat) : Int) - 1 := by unfold wrap64; omega
  clear h hd
  go_enter Tryd.func48, Tryd.ntmps48
  go_wp2
  · rename_i hl
    go_end0
    obtain ⟨n, hn'⟩ := Option.isSome_iff_exists.1 hl
    have hnp : 0 < n := by
      have := HD.out
      unfold down at this
      rw [hn'] at this
      rcases Nat.eq_zero_or_pos n with e | e
      · subst e; exact absurd this (by decide)
      · exact e
    have e2 : (((stepped d).left.getD 0 : Nat) : Int) = ((d.left.getD 0 : Nat) : Int) - 1 := by
      show (((d.left.map (· - 1)).getD 0 : Nat) : Int) = _
      rw [hn']
      show ((n - 1 : Nat) : Int) = (n : Int) - 1
      omega
    have e3 : (stepped d).left.isSome = d.left.isSome := by
      show (d.left.map (· - 1)).isSome = _
      rw [hn']; rfl
    refine ⟨rfl, HM.out.tail rfl rfl ?_ ?_, ((Kp.refl (fun k => k = g) W).set (p := ⟨g, 2, none⟩) (Or.inl rfl) _).set (p := ⟨g, 4, none⟩) (Or.inl rfl) _⟩
    · rw [e2, e3]
      exact blk_put (blk_put HM.out.blk 2 _ rfl) 4 _ rfl
    · intro k hk _
      rw [Below.heap_setCell _ _ _ k hk, Below.heap_setCell _ _ _ k hk]
  · rename_i hl
    have hl' : d.left.isSome = false := by simpa using hl
    go_end0
    have e1 : d.left = none := by
      cases h : d.left with
      | none => rfl
      | some n => rw [h] at hl'; cases hl'
    have e2 : (stepped d).left = d.left := by
      show d.left.map (· - 1) = _
      rw [e1]; rfl
    refine ⟨rfl, HM.out.tail rfl rfl ?_ ?_, (Kp.refl (fun k => k = g) W).set (p := ⟨g, 2, none⟩) (Or.inl rfl) _⟩
    · rw [e2]
      exact blk_put HM.out.blk 2 _ rfl
    · intro k hk _
      rw [Below.heap_setCell _ _ _ k hk]
end Go.Proofs.YthpholjelfajiaaDoor.G
/- The disk: Stop, New. By hand. -/
namespace Go.Proofs.YthpholjelfajiaaDoor.G
open Go.RowKit Go.Proofs.YthpholjelfajiaaDoorW.PrintWords Go.Proofs.YthpholjelfajiaaDoorW.PrintLast Go.Proofs.YthpholjelfajiaaDoorW.PrintMore Go.Proofs.YthpholjelfajiaaDoor.Dsk
set_option linter.unusedVariables false
set_option linter.unusedSimpArgs false
set_option maxHeartbeats 4000000 in
set_option maxRecDepth 100000 in
theorem Stop_calls (F : Nat → Prop) (g gl cl : Nat) (d : Dk) (wv : Value) (n : Int) (W : World) (h : Mem F g gl cl d wv W) (hn63 : n < 9223372036854775808) :
    Calls Tryd.prog 18 #[.pointer (some ⟨g, 0, none⟩), .int .i64 n] W fun e w' => e = .returned (.int .i64 (stop d n).2) ∧ Mem F g gl cl (stop d n).1 wv w' ∧ Kp (fun k => k = g) W w' := by
  obtain ⟨hc0, _, _, hc3, hc4⟩ := h.cells
  have hpos := h.ok.some_
  have z3 := h.free 3
  have z4 := h.free 4
  have b0 : ((d.lies.length : Int) == 0) = false := by
    rw [Bool.eq_false_iff]
    intro q
    rw [beq_iff_eq] at q
    omega
  have b0' : ((d.lies.length : Int) = 0) = False := eq_false (by omega)
  have HM := Aside0.mk h
  clear h hpos
  by_cases hn : n < 0
  · have e : stop d n = (d, 2) := by unfold stop; rw [if_pos hn]
    rw [e]
    clear e
    go_enter Tryd.func18, Tryd.ntmps18
    go_wp2
    all_goals first | (exfalso; omega) | (go_ret; exact ⟨rfl, HM.out, Kp.refl _ _⟩)
  · have e : stop d n = (⟨d.lies, d.waits, d.steps, some n.toNat⟩, 0) := by unfold stop; rw [if_neg hn]
    rw [e]
    clear e
    go_enter Tryd.func18, Tryd.ntmps18
    go_wp2
    all_goals first | (exfalso; omega) | go_ret
    refine ⟨rfl, HM.out.tail rfl rfl ?_ ?_, ((Kp.refl (fun k => k = g) W).set (p := ⟨g, 3, none⟩) (Or.inl rfl) _).set (p := ⟨g, 4, none⟩) (Or.inl rfl) _⟩
    · have e2 : (((some n.toNat : Option Nat).getD 0 : Nat) : Int) = n := Int.toNat_of_nonneg (by omega)
      show _ = some (Obj.cells #[_, _, _, .bool (some n.toNat : Option Nat).isSome, .int .i64 (((some n.toNat : Option Nat).getD 0 : Nat) : Int)] _ _)
      rw [e2]
      exact blk_put (blk_put HM.out.blk 3 _ rfl) 4 _ rfl
    · intro k hk _
      rw [Below.heap_setCell _ _ _ k hk, Below.heap_setCell _ _ _ k hk]
end Go.Proofs.YthpholjelfajiaaDoor.G
/- The disk: Write, what it refuses. By hand. -/
namespace Go.Proofs.YthpholjelfajiaaDoor.G
open Go.RowKit Go.Proofs.YthpholjelfajiaaDoorW.PrintWords Go.Proofs.YthpholjelfajiaaDoorW.PrintLast Go.Proofs.YthpholjelfajiaaDoorW.PrintMore Go.Proofs.YthpholjelfajiaaDoor.Dsk
set_option linter.unusedVariables false
set_option linter.unusedSimpArgs false
set_option maxHeartbeats 8000000 in
set_option maxRecDepth 100000 in
theorem Write_bad (F : Nat → Prop) (g gl cl : Nat) (d : Dk) (wv : Value) (n : Int) (bv : Value) (W : World) (h : Mem F g gl cl d wv W) (hS : isS d n = false) :
    Calls Tryd.prog 28 #[.pointer (some ⟨g, 0, none⟩), .int .i64 n, bv] W fun e w' => e = .returned (.int .i64 4) ∧ w' = W := by
  have HW := Aside0.mk (wrong_calls F g gl cl d wv n W h)
  rw [hS] at HW
  clear h
  go_enter Tryd.func28, Tryd.ntmps28
  go_wp2_with (first | (go_at_call 35; refine HW.out.mono ?_; rintro e w5 ⟨rfl, rfl⟩))
  all_goals first | (go_ret; exact ⟨rfl, rfl⟩) | skip
set_option maxHeartbeats 8000000 in
set_option maxRecDepth 100000 in
theorem Write_len (F : Nat → Prop) (g gl cl : Nat) (d : Dk) (wv : Value) (n : Int) (ob : Option Addr) (m cm : Nat) (W : World) (h : Mem F g gl cl d wv W) (hS : isS d n = true) (hm : m ≠ 64) :
    Calls Tryd.prog 28 #[.pointer (some ⟨g, 0, none⟩), .int .i64 n, .slice ob m cm] W fun e w' => e = .returned (.int .i64 2) ∧ w' = W := by
  have HW := Aside0.mk (wrong_calls F g gl cl d wv n W h)
  rw [hS] at HW
  have b1 : ((m : Int) == 64) = false := by
    rw [Bool.eq_false_iff]; intro q; rw [beq_iff_eq] at q; omega
  have b2 : ((m : Int) = 64) = False := eq_false (by omega)
  clear h
  go_enter Tryd.func28, Tryd.ntmps28
  go_wp2_with (first | (go_at_call 35; refine HW.out.mono ?_; rintro e w5 ⟨rfl, rfl⟩))
  all_goals first | (exfalso; omega) | (go_ret; exact ⟨rfl, rfl⟩) | skip
set_option maxHeartbeats 8000000 in
set_option maxRecDepth 100000 in
theorem Write_down (F : Nat → Prop) (g gl cl : Nat) (d : Dk) (wv : Value) (n : Int) (ob : Option Addr) (cm : Nat) (W : World) (h : Mem F g gl cl d wv W) (hS : isS d n = true) (hd : down d = true) :
    Calls Tryd.prog 28 #[.pointer (some ⟨g, 0, none⟩), .int .i64 n, .slice ob 64 cm] W fun e w' => e = .returned (.int .i64 170) ∧ w' = W := by
  have HW := Aside0.mk (wrong_calls F g gl cl d wv n W h)
  rw [hS] at HW
  have HD := Aside0.mk (down_calls F g gl cl d wv W h)
  rw [hd] at HD
  clear h
  go_enter Tryd.func28, Tryd.ntmps28
  go_wp2_with (first | (go_at_call 35; refine HW.out.mono ?_; rintro e w5 ⟨rfl, rfl⟩) | (go_at_call 36; refine HD.out.mono ?_; rintro e w6 ⟨rfl, rfl⟩))
  all_goals first | (exfalso; omega) | (go_ret; exact ⟨rfl, rfl⟩) | skip
end Go.Proofs.YthpholjelfajiaaDoor.G
/- The disk: Write, what it takes. By hand. -/
namespace Go.Proofs.YthpholjelfajiaaDoor.G
open Go.RowKit Go.Proofs.YthpholjelfajiaaDoorW.PrintWords Go.Proofs.YthpholjelfajiaaDoorW.PrintLast Go.Proofs.YthpholjelfajiaaDoorW.PrintMore Go.Proofs.YthpholjelfajiaaDoor.Dsk
set_option linter.unusedVariables false
set_option linter.unusedSimpArgs false
def zeroW : Value := .agg ((Value.int .i64 0 :: List.replicate 64 (.int .u8 0)).toArray)
theorem infoW : (Tryd.prog.info? 89).map (fun i => (i.zero, i.size, i.bytes)) = some (some zeroW, 65, 72) := by kernel_rfl
theorem infoS : (Tryd.prog.info? 84).map (fun i => (i.zero, i.size, i.bytes)) = some (some (.agg (List.replicate 64 (Value.int .u8 0)).toArray), 64, 64) := by kernel_rfl
theorem zeroW_size : zeroW.cells.size = 65 := rfl
theorem sizeS : (Tryd.prog.info? 84).map (·.size) = some 64 := by kernel_rfl
theorem sizeW : (Tryd.prog.info? 89).map (·.size) = some 65 := by kernel_rfl
theorem builtW : Tryd.prog.built 89 = fun parts => Instr.fill (#[(0, 1), (1, 64)][·]?) zeroW.cells parts := by
  have h : ∀ parts, Tryd.prog.built 89 parts = Instr.fill (#[(0, 1), (1, 64)][·]?) zeroW.cells parts := fun parts => by kernel_rfl
  exact funext h
theorem build_write (n : Int) (xs : List Int) (hx : xs.length = 64) (W : World) : (Instr.build 89 #[(0, .int .i64 n), (1, .agg (bts xs).toArray)]).run Tryd.prog W = .ok (.agg (Value.int .i64 n :: bts xs).toArray) W := by
  refine run_build W _ _ _ ?_
  rw [builtW]
  show Instr.fill _ _ [(0, Value.int .i64 n), (1, .agg (bts xs).toArray)] = _
  have hb : (bts xs).length = 64 := (bts_length xs).trans hx
  rw [fill_one _ _ 0 0 1 _ _ rfl rfl (by decide), fill_one _ _ 1 1 64 _ _ rfl (by simp [Value.cells, hb]) (by simp [Value.cells]; decide), Instr.fill]
  congr 1
  apply Array.ext'
  have e : (zeroW.cells.toList.take 0 ++ (Value.int .i64 n).cells.toList ++ zeroW.cells.toList.drop (0 + 1)) = Value.int .i64 n :: List.replicate 64 (.int .u8 0) := rfl
  simp only [e]
  show List.take 1 (Value.int .i64 n :: List.replicate 64 (.int .u8 0)) ++ bts xs ++ List.drop (1 + 64) (Value.int .i64 n :: List.replicate 64 (.int .u8 0)) = _
  simp
/-- A sector's bytes that lie in line, as a value. -/
theorem load_bts (W : World) (pb : Addr) (xs : List Int) (hx : xs.length = 64) (h : ∀ i u, (bts xs)[i]? = some u → W.cell? (pb.add i) = some u) : (Instr.loadAt 84 (.pointer (some pb))).run Tryd.prog W = .ok (.agg (bts xs).toArray) W := by
  have hl : (loadCells pb (bts xs).length).run Tryd.prog W = .ok (bts xs).toArray W := run_loadCells_list (P := Tryd.prog) W pb (bts xs) h
  have hagg : (isAgg 84).run Tryd.prog W = .ok true W := by
    unfold isAgg
    rw [Sem.run_bind, run_underlying Tryd.underlying84 W]
    rfl
  have hs := sizeS
  cases hq : Tryd.prog.info? 84 with
  | none => simp [hq] at hs
  | some i =>
    have hs : i.size = (bts xs).length := by rw [bts_length, hx]; simpa [hq] using hs
    simp only [Instr.loadAt, Instr.sureAddr, Sem.run_bind, Sem.run_pure, Result.andThen_ok]
    simp [loadVar, Sem.run_bind, hagg, sizeOf, typeInfo, hq, hs, hl]
theorem arr_at (V : World) (pb : Addr) (cm : Nat) : (Instr.arrayAt 84 (.slice (some pb) 64 cm)).run Tryd.prog V = .ok (.pointer (some pb)) V := by
  unfold Instr.arrayAt
  rw [Sem.run_bind, run_underlying Tryd.underlying84 V]
  rfl
set_option maxHeartbeats 8000000 in
set_option maxRecDepth 100000 in
theorem Write_ok (F : Nat → Prop) (g gl cl : Nat) (d : Dk) (wv : Value) (n : Int) (pb : Addr) (xs : List Int) (cm : Nat) (W : World) (h : Mem F g gl cl d wv W) (hS : isS d n = true) (hd : down d = false) (hx : xs.length = 64) (hb : ∀ i u, (bts xs)[i]? = some u → W.cell? (pb.add i) = some u)
    (hst : d.steps < 4611686018427387904) (hln : d.left.getD 0 < 9223372036854775808) (hwl : d.waits.length < 1000000000) :
    Calls Tryd.prog 28 #[.pointer (some ⟨g, 0, none⟩), .int .i64 n, .slice (some pb) 64 cm] W (MemPost F g (write d n xs).1 W (.returned (.int .i64 0))) := by
  have HW := Aside0.mk (wrong_calls F g gl cl d wv n W h)
  rw [hS] at HW
  have HD := Aside0.mk (down_calls F g gl cl d wv W h)
  rw [hd] at HD
  have hF : ∀ V, Below W.heap.size W V → V.cell? ⟨g, 1, none⟩ = some wv ∧ (Instr.loadAt 84 (.pointer (some pb))).run Tryd.prog V = .ok (.agg (bts xs).toArray) V := fun V hV =>
    ⟨(h.below hV).cells.2.1, load_bts V pb xs hx (fun i u hu => pw_cell_below hV (hb i u hu))⟩
  have HF := Aside0.mk hF
  have HM := Aside0.mk h
  have hgl : gl < W.heap.size := Kd.R_lt h.lies gl rfl
  have HFR := Aside0.mk (fun k (hk : W.drew.heap.size ≤ k) => show (F k ∨ W.heap.size ≤ k) ∧ k ≠ g ∧ k ≠ gl from ⟨.inr hk, fun e => by have := blk_lt h.blk; have : W.heap.size ≤ k := hk; omega, fun e => by have : W.heap.size ≤ k := hk; omega⟩)
  have HWV := Aside0.mk (show wrtK.R 89 W.drew 0 (fun k => (F k ∨ W.heap.size ≤ k) ∧ k ≠ g ∧ k ≠ gl) wv (d.waits.map encW) from Kd.R_drew (Kd.R_mono h.waits (fun k hk => ⟨.inl hk.1, hk.2⟩)))
  have HLN := Aside0.mk (show ((d.waits.map encW).length + 1) * 72 ≤ 140737488355328 by rw [List.length_map]; omega)
  have HX := Aside0.mk hx
  have HS := Aside0.mk (And.intro hS hd)
  have HN := Aside0.mk (And.intro hst (And.intro hln hwl))
  have harr : ∀ V : World, (Instr.arrayAt 84 (.slice (some pb) 64 cm)).run Tryd.prog V = .ok (.pointer (some pb)) V := fun V => arr_at V pb cm
  clear h hS hd hx hb hF hst hln hwl hgl
  go_enter Tryd.func28, Tryd.ntmps28
  go_upto_region 8 with (first | (go_at_call 35; refine HW.out.mono ?_; rintro e w5 ⟨rfl, hw5⟩; obtain rfl := hw5.symm) | (go_at_call 36; refine HD.out.mono ?_; rintro e w6 ⟨rfl, hw6⟩; obtain rfl := hw6.symm))
  refine start_ (n := 15) (S := fun w' => w'.cell? ⟨g, 1, none⟩ = some wv ∧ (Instr.loadAt 84 (.pointer (some pb))).run Tryd.prog w' = .ok (.agg (bts xs).toArray) w') (ds := [11, 14]) #[false, false, false, false, false, false, false, false, false, false, false, false, false, false, false] (by kernel_rfl) rfl rfl ⟨(HF.out _ (below_drew1 (Below.refl _ _))).1, (HF.out _ (below_drew1 (Below.refl _ _))).2⟩ (fun hHeld => ?_)
  refine pure_ (i := 0) (N := some 22) (v := ?_) (a' := ?_) #[true, false, false, false, false, false, false, false, false, false, false, false, false, false, false] rfl rfl (by kernel_rfl) (fun _ _ _ h => h) (Or.inl ⟨by rfl, ?_⟩) ?_ ?_
  rotate_left
  · intro w'
    go_simp
    with_reducible rfl
  rotate_left
  · simp only [Act.put, List.setIfInBounds_toArray, List.set_cons_zero, List.set_cons_succ, i64_w, i32_w]
    rfl
  refine pure_ (i := 1) (N := some 23) (v := ?_) (a' := ?_) #[true, true, false, false, false, false, false, false, false, false, false, false, false, false, false] rfl rfl (by kernel_rfl) (fun _ _ _ h => h) (Or.inl ⟨by rfl, ?_⟩) ?_ ?_
  rotate_left
  · intro w'
    go_simp
    with_reducible rfl
  rotate_left
  · simp only [Act.put, List.setIfInBounds_toArray, List.set_cons_zero, List.set_cons_succ, i64_w, i32_w]
    rfl
  refine pure_ (i := 2) (N := some 24) (v := ?_) (a' := ?_) #[true, true, true, false, false, false, false, false, false, false, false, false, false, false, false] rfl rfl (by kernel_rfl) (fun _ _ _ h => h) (Or.inl ⟨by rfl, ?_⟩) ?_ ?_
  rotate_left
  · intro w'
    go_simp
    with_reducible rfl
  rotate_left
  · simp only [Act.put, List.setIfInBounds_toArray, List.set_cons_zero, List.set_cons_succ, i64_w, i32_w]
    rfl
  refine pure_ (i := 3) (N := some 25) (v := ?_) (a' := ?_) #[true, true, true, true, false, false, false, false, false, false, false, false, false, false, false] rfl rfl (by kernel_rfl) (fun _ _ _ h => h) (Or.inl ⟨by rfl, ?_⟩) ?_ ?_
  rotate_left
  · intro w'
    go_simp
    with_reducible rfl
  rotate_left
  · simp only [Act.put, List.setIfInBounds_toArray, List.set_cons_zero, List.set_cons_succ, i64_w, i32_w]
    rfl
  refine pure_ (i := 5) (N := some 27) (v := ?_) (a' := ?_) #[true, true, true, true, false, true, false, false, false, false, false, false, false, false, false] rfl rfl (by kernel_rfl) (fun _ _ _ h => h) (Or.inl ⟨by rfl, ?_⟩) ?_ ?_
  rotate_left
  · intro w'
    go_simp
    with_reducible rfl
  rotate_left
  · simp only [Act.put, List.setIfInBounds_toArray, List.set_cons_zero, List.set_cons_succ, i64_w, i32_w]
    rfl
  refine pure_ (i := 6) (N := some 28) (v := ?_) (a' := ?_) #[true, true, true, true, false, true, true, false, false, false, false, false, false, false, false] rfl rfl (by kernel_rfl) (fun _ _ _ h => h) (Or.inl ⟨by rfl, ?_⟩) ?_ ?_
  rotate_left
  · intro w'
    go_simp
    with_reducible rfl
  rotate_left
  · simp only [Act.put, List.setIfInBounds_toArray, List.set_cons_zero, List.set_cons_succ, i64_w, i32_w]
    rfl
  refine pure_ (i := 7) (N := some 29) (v := ?_) (a' := ?_) #[true, true, true, true, false, true, true, true, false, false, false, false, false, false, false] rfl rfl (by kernel_rfl) (fun _ _ _ h => h) (Or.inl ⟨by rfl, ?_⟩) ?_ ?_
  rotate_left
  · intro w'
    go_simp
    with_reducible rfl
  rotate_left
  · simp only [Act.put, List.setIfInBounds_toArray, List.set_cons_zero, List.set_cons_succ, i64_w, i32_w]
    rfl
  refine take_ (i := 4) (N := some 26) (v := ?_) (a' := ?_) #[true, true, true, true, true, true, true, true, false, false, false, false, false, false, false] rfl rfl (by kernel_rfl) (fun _ _ _ h => h) (Or.inl ⟨by rfl, ?_⟩) hHeld ?_ ?_
  rotate_left
  · rintro w' ⟨s0, s1⟩
    go_simp
    with_reducible rfl
  rotate_left
  · simp only [Act.put, List.setIfInBounds_toArray, List.set_cons_zero, List.set_cons_succ, i64_w, i32_w]
    rfl
  refine one_ (i := 8) (N := some 30) #[true, true, true, true, true, true, true, true, true, false, false, false, false, false, false] rfl rfl (by kernel_rfl) (by decide) (fun K hK => ?_)
  refine value_ (by rfl) rfl (exec_load 84 _ (.pointer (some pb)) _ rfl (by rfl) hHeld.2) ?_
  refine hK.out _ _ ⟨hHeld.1, hHeld.2⟩ (fun hHeld => ?_)
  clear hK K
  refine norm_ (a' := ?_) ?_ ?_
  rotate_left
  · show Act.put _ (some 30) _ = _
    simp only [Act.put, List.setIfInBounds_toArray, List.set_cons_zero, List.set_cons_succ, i64_w, i32_w]
    rfl
  refine one_ (i := 9) (N := some 31) #[true, true, true, true, true, true, true, true, true, true, false, false, false, false, false] rfl rfl (by kernel_rfl) (by decide) (fun K hK => ?_)
  refine value_ (by rfl) rfl (exec_build2 89 0 1 _ _ (.int .i64 n) (.agg (bts xs).toArray) _ rfl (by rfl) (by rfl) (build_write n xs HX.out _)) ?_
  refine hK.out _ _ ⟨hHeld.1, hHeld.2⟩ (fun hHeld => ?_)
  clear hK K
  refine norm_ (a' := ?_) ?_ ?_
  rotate_left
  · show Act.put _ (some 31) _ = _
    simp only [Act.put, List.setIfInBounds_toArray, List.set_cons_zero, List.set_cons_succ, i64_w, i32_w]
    rfl
  refine one_ (i := 10) (N := some 32) #[true, true, true, true, true, true, true, true, true, true, true, false, false, false, false] rfl rfl (by kernel_rfl) (by decide) (fun K hK => ?_)
  refine value_ (by rfl) rfl (exec_buildSlice1 42 1 0 _ (.agg (Value.int .i64 n :: bts xs).toArray) _ rfl (by rfl) (buildSlice_one 42 89 65 72 zeroW _ Tryd.underlying42 infoW (by omega) (by omega) zeroW_size (by simp [Value.cells, bts_length, HX.out]) _)) ?_
  refine hK.out _ _ ⟨(HF.out _ (below_alloc (below_drew1 (Below.refl _ _)) _)).1, (HF.out _ (below_alloc (below_drew1 (Below.refl _ _)) _)).2⟩ (fun hHeld => ?_)
  clear hK K
  refine norm_ (a' := ?_) ?_ ?_
  rotate_left
  · show Act.put _ (some 32) _ = _
    simp only [Act.put, List.setIfInBounds_toArray, List.set_cons_zero, List.set_cons_succ, i64_w, i32_w]
    rfl
  refine last_ (i := 11) (N := some 33) #[true, true, true, true, true, true, true, true, true, true, true, true, false, false, false] rfl rfl (by kernel_rfl) (by decide) (fun K hK => ?_)
  refine Kd.R_append_step wrtK (w0 := W) (W := W.drew) 0 (by rfl) (.tmp 26) (.tmp 32) 42 89 zeroW 72 rfl Tryd.underlying42 infoW zeroW_size (by decide) (by omega) wv (d.waits.map encW) (n, xs) (Value.int .i64 n :: bts xs) (fun k => (F k ∨ W.heap.size ≤ k) ∧ k ≠ g ∧ k ≠ gl) (fun _ => False) rfl rfl (wrtK_M _ _ _ (n, xs) HX.out) (fun _ hk => hk.elim) HFR.out HWV.out (below_drew1 (Below.refl _ _)) (Nat.zero_le _) HLN.out ?_
  intro v7 w7 ho7 hb7 hg7 hat7
  obtain ⟨A7, c7, rfl⟩ := Kd.R_slice ho7
  generalize hl7 : (d.waits.map encW ++ [(n, xs)]).length = L7 at *
  have hkp7 : Kp F W w7 := ⟨hg7.os, hg7.tape, hg7.output, hg7.size, fun k hk hn => hg7.block k hk (fun e => hn ((HM.out.waits.1 k e.symm).1))⟩
  have hc7 : w7.cell? ⟨g, 1, none⟩ = some wv ∧ w7.frozen? ⟨g, 1, none⟩ = false := by
    have h1 : w7.heap[g]? = W.heap[g]? := hg7.block g (blk_lt HM.out.blk) (fun e => (HM.out.waits.1 g e.symm).2.1 rfl)
    have h2 := h1.trans HM.out.blk
    exact ⟨(blk_cell h2 1).trans rfl, blk_frozen h2 1⟩
  have HO7 := Aside0.mk (And.intro ho7 (And.intro hb7 (And.intro hg7 hkp7)))
  have HL7 := Aside0.mk hl7
  obtain ⟨hd7, hz7⟩ := hc7
  clear ho7 hb7 hg7 hkp7 hat7 hl7
  refine hK.out _ _ ?_
  clear hK K
  refine norm_ (a' := ?_) ?_ ?_
  rotate_left
  · show Act.put _ (some 33) _ = _
    simp only [Act.put, List.setIfInBounds_toArray, List.set_cons_zero, List.set_cons_succ, i64_w, i32_w]
    rfl
  refine pure_ (i := 12) (N := some 34) (v := ?_) (a' := ?_) #[true, true, true, true, true, true, true, true, true, true, true, true, true, false, false] rfl rfl (by kernel_rfl) (fun _ _ _ h => h) (Or.inl ⟨by rfl, ?_⟩) ?_ ?_
  rotate_left
  · intro w'
    go_simp
    with_reducible rfl
  rotate_left
  · simp only [Act.put, List.setIfInBounds_toArray, List.set_cons_zero, List.set_cons_succ, i64_w, i32_w]
    rfl
  refine pure_ (i := 13) (N := some 35) (v := ?_) (a' := ?_) #[true, true, true, true, true, true, true, true, true, true, true, true, true, true, false] rfl rfl (by kernel_rfl) (fun _ _ _ h => h) (Or.inl ⟨by rfl, ?_⟩) ?_ ?_
  rotate_left
  · intro w'
    go_simp
    with_reducible rfl
  rotate_left
  · simp only [Act.put, List.setIfInBounds_toArray, List.set_cons_zero, List.set_cons_succ, i64_w, i32_w]
    rfl
  refine last_ (i := 14) (N := none) #[true, true, true, true, true, true, true, true, true, true, true, true, true, true, true] rfl rfl (by kernel_rfl) (by decide) (fun K hK => ?_)
  refine skip_ (w1 := ?_) (by rfl) rfl ?_ ?_
  rotate_left
  · go_simp
    rfl
  refine hK.out _ _ ?_
  clear hK K
  refine done_ (by kernel_rfl) ?_
  have hh7 : ∀ k, k = g ∨ k = gl → w7.heap[k]? = W.heap[k]? := fun k hk => HO7.out.2.2.1.block k (by rcases hk with rfl | rfl; exact blk_lt HM.out.blk; exact Kd.R_lt HM.out.lies _ rfl) (fun e => by
    have := HM.out.waits.1 k e.symm
    rcases hk with rfl | rfl
    · exact this.2.1 rfl
    · exact this.2.2 rfl)
  have hM8 : Mem (fun k => F k ∨ W.heap.size ≤ k) g gl cl ⟨d.lies, d.waits ++ [(n.toNat, xs)], d.steps, d.left⟩ (.slice A7 L7 c7) (w7.setCell ⟨g, 1, none⟩ (.slice A7 L7 c7)) := by
    have hn0 : ((n.toNat : Nat) : Int) = n := Int.toNat_of_nonneg (of_decide_eq_true HS.out.1).1
    refine ⟨blk_put ((hh7 g (.inl rfl)).trans HM.out.blk) 1 _ rfl, .inl HM.out.fg, .inl HM.out.fl, HM.out.ne, Kd.R_step HM.out.lies (fun k hk _ => ?_), ?_, ?_⟩
    · exact (Below.heap_setCell _ _ _ k (by rw [hk]; exact HM.out.ne)).trans (hh7 k (.inr hk))
    · have h9 := Kd.R_far HO7.out.1 (p := ⟨g, 1, none⟩) (fun k hk => hk.2.1) (.slice A7 L7 c7)
      have e : (d.waits ++ [(n.toNat, xs)]).map encW = d.waits.map encW ++ [(n, xs)] := by
        rw [List.map_append, List.map_singleton, encW, hn0]
      show Kd.R _ _ _ _ _ _ ((d.waits ++ [(n.toNat, xs)]).map encW)
      rw [e]
      exact h9
    · refine ⟨HM.out.ok.some_, HM.out.ok.lies, fun w hw => ?_⟩
      rcases List.mem_append.1 hw with hw | hw
      · exact HM.out.ok.waits w hw
      · obtain rfl : w = (n.toNat, xs) := by simpa using hw
        exact ⟨isS_lt (d := d) HS.out.1, HX.out⟩
  have hkp8 : Kp F W (w7.setCell ⟨g, 1, none⟩ (.slice A7 L7 c7)) := HO7.out.2.2.2.set (p := ⟨g, 1, none⟩) (.inl HM.out.fg) _
  have hwr : (write d n xs).1 = stepped ⟨d.lies, d.waits ++ [(n.toNat, xs)], d.steps, d.left⟩ := by
    unfold write
    rw [HS.out.1, if_neg (by simp), if_neg (by rw [HX.out]; simp), HS.out.2, if_neg (by simp)]
  have HWR := Aside0.mk hwr
  have HStep := Aside0.mk (step_calls _ g gl cl _ _ _ hM8 HN.out.1 HS.out.2 HN.out.2.1)
  have HK8 := Aside0.mk hkp8
  have HFG := Aside0.mk HM.out.fg
  clear hM8 hh7 hkp8 hd7 hz7 HO7 HL7 hwr harr HW HD
  generalize (w7.setCell ⟨g, 1, none⟩ (.slice A7 L7 c7)) = W8 at *
  go_wp2_with (first | (go_at_call 48; refine HStep.out.mono ?_; rintro e w9 ⟨rfl, hM9, hk9⟩))
  go_ret
  exact ⟨rfl, gl, cl, _, _, by rw [HWR.out]; exact hM9, fun k hk => hk, HK8.out.trans hk9 (fun q _ hq => by rw [hq]; exact HFG.out)⟩
end Go.Proofs.YthpholjelfajiaaDoor.G
/- The disk: New, Spoil. By hand. -/
namespace Go.Proofs.YthpholjelfajiaaDoor.G
open Go.RowKit Go.Proofs.YthpholjelfajiaaDoorW.PrintWords Go.Proofs.YthpholjelfajiaaDoorW.PrintLast Go.Proofs.YthpholjelfajiaaDoorW.PrintMore Go.Proofs.YthpholjelfajiaaDoor.Dsk
set_option linter.unusedVariables false
set_option linter.unusedSimpArgs false
/-- A disk somewhere within F. -/
def Dm (F : Nat → Prop) (g : Nat) (d : Dk) (W : World) : Prop := ∃ gl cl wv, Mem F g gl cl d wv W
def NewPost (n : Nat) (W : World) (e : Ending) (w' : World) : Prop := ∃ g, e = .returned (.tuple #[.pointer (some ⟨g, 0, none⟩), .int .i64 0]) ∧ Dm (fun k => W.heap.size ≤ k) g (new n) w' ∧ Below W.heap.size W w'
set_option maxHeartbeats 8000000 in
set_option maxRecDepth 100000 in
theorem New_bad (n : Int) (W : World) (h : n < 1 ∨ 4096 < n) : Calls Tryd.prog 20 #[.int .i64 n] W fun e w' => e = .returned (.tuple #[.pointer none, .int .i64 2]) ∧ w' = W := by
  by_cases h1 : n < 1
  · clear h
    go_enter Tryd.func20, Tryd.ntmps20
    go_wp2
    go_ret2
    exact ⟨rfl, rfl⟩
  · have h2 : 4096 < n := by omega
    clear h
    go_enter Tryd.func20, Tryd.ntmps20
    go_wp2
    go_ret2
    exact ⟨rfl, rfl⟩
theorem bts_zeros : (Value.agg (List.replicate 64 (Value.int .u8 0)).toArray).cells.toList = bts (zeros 64) := by
  show List.replicate 64 (Value.int .u8 0) = _
  simp [bts, zeros]
set_option maxHeartbeats 8000000 in
set_option maxRecDepth 100000 in
theorem New_ok (n : Int) (W : World) (h1 : 1 ≤ n) (h2 : n ≤ 4096) : Calls Tryd.prog 20 #[.int .i64 n] W (NewPost n.toNat W) := by
  have f1 : decide (n < 1) = false := decide_eq_false (by omega)
  have f2 : decide (4096 < n) = false := decide_eq_false (by omega)
  have HN := Aside0.mk (And.intro h1 h2)
  have HB := Aside0.mk (Below.refl W.heap.size W)
  clear h1 h2
  go_enter Tryd.func20, Tryd.ntmps20
  go_wp2_with (first | ((with_reducible refine gate_ (.makeSlice 41 (.tmp 10) (.tmp 10)) rfl ?_); refine Kd.R_make secK (w0 := W) W.heap.size 84 rfl (N := 11) rfl 41 (.tmp 10) (.tmp 10) rfl n rfl rfl Tryd.underlying41 _ 64 infoS rfl (by decide) (by decide) (zeros 64) (ok := fun k => W.heap.size ≤ k) (okp := fun _ => False) ⟨rfl, bts_zeros⟩ (fun _ hk => hk.elim) (Nat.le_refl _) (by have := HN.out; omega) (by have := HN.out; omega) HB.out (Nat.le_refl _) ?_; intro v1 w1 ho1 hb1 hg1 hat1; refine of_halt ?_))
  unfold Halt
  have hpos : 0 < (List.replicate n.toNat (zeros 64)).length := by have := HN.out; simp; omega
  obtain ⟨gl, cl, rfl, hgl, hgl2, _⟩ := Kd.R_form ho1 hpos
  have hlen : (List.replicate n.toNat (zeros 64)).length = n.toNat := by simp
  have HO := Aside0.mk ho1
  have HB1 := Aside0.mk hb1
  have HGL := Aside0.mk (And.intro hgl hgl2)
  have HP := Aside0.mk hpos
  have HLL := Aside0.mk hlen
  generalize hL : (List.replicate n.toNat (zeros 64)).length = L at *
  have HL := Aside0.mk hL
  clear ho1 hb1 hg1 hat1 hgl hgl2 hpos hlen hL f1 f2
  go_wp2
  go_ret2
  have hLn := HLL.out
  refine ⟨w1.heap.size, rfl, ⟨gl, cl, .slice none 0 0, ?_⟩, below_alloc HB1.out _⟩
  have hl2 : (new n.toNat).lies.length = L := by simpa [new] using hLn.symm
  refine ⟨?_, HB1.out.size, HGL.out.1, by have := HGL.out.2; omega, ?_, Kd.R_nil _ _ _ _ _, new_ok (by have := HN.out; omega)⟩
  · rw [hl2]
    exact blk_new w1 _
  · rw [hl2]
    have h3 := Kd.R_tight rfl (Kd.R_lower (Kd.R_alloc HO.out (.cells #[.slice (some ⟨gl, 0, none⟩) L cl, .slice none 0 0, .int .i64 0, .bool false, .int .i64 0] 44)) (Nat.zero_le _))
    exact Kd.R_mono h3 (fun k hk => by simpa [Value.ownBlock] using hk)
set_option maxHeartbeats 8000000 in
set_option maxRecDepth 100000 in
theorem Spoil_bad (F : Nat → Prop) (g gl cl : Nat) (d : Dk) (wv : Value) (n at_ y : Int) (W : World) (h : Mem F g gl cl d wv W) (hS : isS d n = false ∨ at_ < 0 ∨ 64 ≤ at_) :
    Calls Tryd.prog 17 #[.pointer (some ⟨g, 0, none⟩), .int .i64 n, .int .i64 at_, .int .u8 y] W fun e w' => e = .returned (.int .i64 4) ∧ w' = W := by
  have HW := Aside0.mk (wrong_calls F g gl cl d wv n W h)
  clear h
  cases hI : isS d n with
  | false =>
    rw [hI] at HW
    clear hS hI
    go_enter Tryd.func17, Tryd.ntmps17
    go_wp2_with (first | (go_at_call 35; refine HW.out.mono ?_; rintro e w5 ⟨rfl, rfl⟩))
    all_goals first | (go_ret; exact ⟨rfl, rfl⟩) | skip
  | true =>
    rw [hI] at HW hS
    by_cases h1 : at_ < 0
    · clear hS hI
      go_enter Tryd.func17, Tryd.ntmps17
      go_wp2_with (first | (go_at_call 35; refine HW.out.mono ?_; rintro e w5 ⟨rfl, rfl⟩))
      all_goals first | (exfalso; omega) | (go_ret; exact ⟨rfl, rfl⟩) | skip
    · have h2 : 64 ≤ at_ := by
        rcases hS with h | h | h
        · cases h
        · exact absurd h h1
        · exact h
      clear hS hI
      go_enter Tryd.func17, Tryd.ntmps17
      go_wp2_with (first | (go_at_call 35; refine HW.out.mono ?_; rintro e w5 ⟨rfl, rfl⟩))
      all_goals first | (exfalso; omega) | (go_ret; exact ⟨rfl, rfl⟩) | skip
theorem bts_set (x : List Int) (j : Nat) (y : Int) (hj : j < x.length) : (bts x).take j ++ [Value.int .u8 y] ++ (bts x).drop (j + 1) = bts (x.set j y) := by
  rw [bts, bts, List.map_set, List.set_eq_take_append_cons_drop, if_pos (by simpa using hj)]
  simp
theorem Mem.putByte {F : Nat → Prop} {g gl cl : Nat} {d : Dk} {wv : Value} {W : World} (h : Mem F g gl cl d wv W) (i j : Nat) (y : Int) (hi : i < d.lies.length) (hj : j < 64) :
    Mem F g gl cl ⟨d.lies.set i ((d.lies.getD i []).set j y), d.waits, d.steps, d.left⟩ wv (W.setCell ⟨gl, i * 64 + j, none⟩ (.int .u8 y)) := by
  obtain ⟨c, hcl, hcM, hcc, hcf⟩ := Kd.R_elem h.lies [] (i : Int) (by omega) (by omega)
  rw [Int.toNat_natCast] at hcM hcc
  obtain ⟨hx, rfl⟩ := hcM
  have hseg := Kd.R_seg (okp := fun _ => False) h.lies (i : Int) (by omega) (by omega) hcl (by rw [Int.toNat_natCast]; exact hcc) (seg := [.int .u8 y]) (j := j) (by show j + 1 ≤ 64; omega) (x' := (d.lies.getD i []).set j y) (by
    show _ ∧ _
    refine ⟨by rw [List.length_set]; exact hx, ?_⟩
    exact bts_set _ j y (by rw [hx]; exact hj)) (fun _ hk => hk.elim)
  rw [Int.toNat_natCast] at hseg
  have e : W.setCells gl (i * secK.sz + j) [.int .u8 y] = W.setCell ⟨gl, i * 64 + j, none⟩ (.int .u8 y) := rfl
  rw [e] at hseg
  refine ⟨?_, h.fg, h.fl, h.ne, ?_, Kd.R_far h.waits (fun k hk => hk.2.2) _, ⟨?_, ?_, ?_⟩⟩
  · show _ = some (Obj.cells #[.slice (some ⟨gl, 0, none⟩) (d.lies.set i _).length cl, _, _, _, _] _ _)
    rw [List.length_set]
    exact blk_far h.blk (fun e => h.ne e.symm) _
  · show secK.R _ _ _ _ (.slice _ (d.lies.set i _).length cl) _
    rw [List.length_set]
    exact hseg.1
  · show 0 < (d.lies.set i _).length
    rw [List.length_set]; exact h.ok.some_
  · exact set_ok h.ok.lies i (by rw [List.length_set]; exact hx)
  · intro w hw
    show w.1 < (d.lies.set i _).length ∧ _
    rw [List.length_set]
    exact h.ok.waits w hw
set_option maxHeartbeats 8000000 in
set_option maxRecDepth 100000 in
theorem Spoil_ok (F : Nat → Prop) (g gl cl : Nat) (d : Dk) (wv : Value) (n at_ y : Int) (W : World) (h : Mem F g gl cl d wv W) (hS : isS d n = true) (h1 : 0 ≤ at_) (h2 : at_ < 64) :
    Calls Tryd.prog 17 #[.pointer (some ⟨g, 0, none⟩), .int .i64 n, .int .i64 at_, .int .u8 y] W fun e w' => e = .returned (.int .i64 0) ∧ Mem F g gl cl (spoil d n at_ y).1 wv w' ∧ Kp (fun k => k = gl) W w' := by
  have HW := Aside0.mk (wrong_calls F g gl cl d wv n W h)
  rw [hS] at HW
  obtain ⟨hc0, _⟩ := h.cells
  have hn := of_decide_eq_true hS
  obtain ⟨i, rfl⟩ := Int.eq_ofNat_of_zero_le hn.1
  obtain ⟨j, rfl⟩ := Int.eq_ofNat_of_zero_le h1
  have hi : i < d.lies.length := by omega
  have hj : j < 64 := by omega
  obtain ⟨c, hcl, hcM, hcc, hcf⟩ := Kd.R_elem h.lies [] (i : Int) (by omega) (by omega)
  rw [Int.toNat_natCast] at hcM hcc
  obtain ⟨hx, rfl⟩ := hcM
  obtain ⟨cv, hcell⟩ : ∃ cv, W.cell? ⟨gl, i * 64 + j, none⟩ = some cv := ⟨_, hcc j _ (List.getElem?_eq_getElem (by rw [bts_length, hx]; exact hj))⟩
  have hfz : W.frozen? ⟨gl, i * 64 + j, none⟩ = false := hcf j
  have f1 : ((i : Int) < (d.lies.length : Int)) = True := eq_true (by omega)
  have f2 : (i < d.lies.length) = True := eq_true hi
  have f3 : ((j : Int) < 64) = True := eq_true (by omega)
  have f4 : decide ((j : Int) < 0) = false := decide_eq_false (by omega)
  have f5 : decide (64 ≤ (j : Int)) = false := decide_eq_false (by omega)
  have HM := Aside0.mk (h.putByte i j y hi hj)
  have HI := Aside0.mk (And.intro hS (And.intro hi hj))
  clear h hS hn h1 h2 hcc hcf hcl hx hi
  generalize hL : d.lies.length = L at *
  have HL := Aside0.mk hL
  clear hL hj
  go_enter Tryd.func17, Tryd.ntmps17
  go_wp2_with (first | (go_at_call 35; refine HW.out.mono ?_; rintro e w5 ⟨rfl, hw5⟩; obtain rfl := hw5.symm))

  go_ret
  have e : (spoil d (i : Int) (j : Int) y).1 = ⟨d.lies.set i ((d.lies.getD i []).set j y), d.waits, d.steps, d.left⟩ := by
    unfold spoil
    rw [HI.out.1, if_neg (by have := HI.out.2.2; simp; omega)]
    simp
  rw [e]
  exact ⟨rfl, HM.out, (Kp.refl (fun k => k = gl) W).set (p := ⟨gl, i * 64 + j, none⟩) (.inl rfl) _⟩
end Go.Proofs.YthpholjelfajiaaDoor.G
/- The disk: all, what it hands to a loop. By hand. -/
namespace Go.Proofs.YthpholjelfajiaaDoor.G
open Go.RowKit Go.Shelf Go.Proofs.YthpholjelfajiaaDoorW.PrintWords Go.Proofs.YthpholjelfajiaaDoorW.PrintLast Go.Proofs.YthpholjelfajiaaDoorW.PrintMore Go.Proofs.YthpholjelfajiaaDoor.Dsk
set_option linter.unusedVariables false
set_option linter.unusedSimpArgs false
attribute [local go_sem] Oper.semAt_some
set_option maxHeartbeats 4000000 in
theorem all_calls (g : Nat) (w : World) : Calls Tryd.prog 37 #[.pointer (some ⟨g, 0, none⟩)] w fun e w' => e = .returned (.func (.func 52) #[] #[.pointer (some ⟨w.heap.size, 0, none⟩)]) ∧ w' = w.alloc (.cells #[.pointer (some ⟨g, 0, none⟩)] 27) := by
  go_enter Tryd.func37, Tryd.ntmps37
  go_wp2
  go_ret
  exact ⟨rfl, rfl⟩
/-- A write, as a value; its cells. -/
def wcells (w : Nat × List Int) : List Value := .int .i64 (w.1 : Int) :: bts w.2
abbrev encWt (ws : List (Nat × List Int)) (x : Fin ws.length) : Array Value := #[.int .i64 ((x : Nat) : Int), .agg (wcells ws[x.val]).toArray]
def allW (ws : List (Nat × List Int)) : List (Fin ws.length) := List.ofFn (fun k => k)
theorem take_ofFn {α : Type} {n : Nat} (f : Fin n → α) (k : Nat) (h : k < n) : (List.ofFn f).take (k + 1) = (List.ofFn f).take k ++ [f ⟨k, h⟩] := by
  rw [List.take_succ_eq_append_getElem (by simpa using h)]
  simp
theorem take_ofFn_all {α : Type} {n : Nat} (f : Fin n → α) : (List.ofFn f).take n = List.ofFn f := List.take_of_length_le (by simp)
theorem wcells_length (w : Nat × List Int) (h : w.2.length = 64) : (wcells w).length = 65 := by simp [wcells, bts_length, h]
theorem wcells_one (w : Nat × List Int) : ∀ u ∈ wcells w, u.oneCell' = true := fun u hu => by
  rcases List.mem_cons.1 hu with rfl | hu
  · rfl
  · exact bts_one _ u hu
/-- A write that lies in line is loaded whole. -/
theorem load_wrt (V : World) (b o : Nat) (w : Nat × List Int) (hx : w.2.length = 64) (h : V.rangeAt b o (wcells w)) : (Instr.loadAt 89 (.pointer (some ⟨b, o, none⟩))).run Tryd.prog V = .ok (.agg (wcells w).toArray) V :=
  run_loadAt_mid V b o 89 (wcells w) _ h Tryd.underlying89 rfl (by rw [wcells_length w hx]; exact sizeW)
theorem zero_W (V : World) : (zeroValue 89).run Tryd.prog V = .ok zeroW V := (zero_of_info (v := zeroW) (n := 65) (by
  have := infoW
  cases hq : Tryd.prog.info? 89 with
  | none => simp [hq] at this
  | some i => simp [hq] at this; simp [this.1, this.2.1])).1 V
theorem zero_S (V : World) : (zeroValue 84).run Tryd.prog V = .ok (.agg (List.replicate 64 (Value.int .u8 0)).toArray) V := (zero_of_info (v := .agg (List.replicate 64 (Value.int .u8 0)).toArray) (n := 64) (by
  have := infoS
  cases hq : Tryd.prog.info? 84 with
  | none => simp [hq] at this
  | some i => simp [hq] at this; simp [this.1, this.2.1])).1 V
theorem range_new (W : World) (cs : List Value) (t : TypeId) : (W.alloc (.cells cs.toArray t)).rangeAt W.heap.size 0 cs := fun j v hv => by
  rw [cell_of_row _ _ _ cs.toArray t (0, 0) (heap_alloc_last W _), Nat.zero_add]
  simpa using hv
theorem store_wrt (W : World) (w : Nat × List Int) (hx : w.2.length = 64) : (Instr.storeAt 89 (.pointer (some ⟨W.heap.size, 0, none⟩)) (.agg (wcells w).toArray)).run Tryd.prog (W.alloc (.cells zeroW.cells 89)) = .ok () (W.alloc (.cells (wcells w).toArray 89)) :=
  run_storeAt_new W _ _ _ (by rw [List.size_toArray, wcells_length w hx]; exact sizeW) (by rw [zeroW_size, List.size_toArray, wcells_length w hx]) (all_oneCell_toArray (wcells_one w))
set_option maxRecDepth 100000 in
set_option maxHeartbeats 8000000 in
theorem all1_in (F : Fence) (n : Nat) (h8 : F.fn 52) (hro : F.round = none) (hn : 1 ≤ n) (l Bs g c : Nat) (A : Option Addr) (ws : List (Nat × List Int)) (w0 : World) (hlen : ws.length < 17592186044416)
    (hR : wrtK.R 89 w0 0 (fun k => some k = (Value.slice A ws.length c).ownBlock) (.slice A ws.length c) (ws.map encW)) (hbs : w0.cell? ⟨Bs, 0, none⟩ = some (.pointer (some ⟨g, 0, none⟩))) (hwv : w0.cell? ⟨g, 1, none⟩ = some (.slice A ws.length c))
    (Kk : World → World → Prop) (hKk : ∀ X Y, w0.heap.size ≤ X.heap.size → Kk X Y → X.heap.size ≤ Y.heap.size ∧ ∀ k, some k = (Value.slice A ws.length c).ownBlock → Y.heap[k]? = X.heap[k]?)
    (J Jx : List (Fin ws.length) → World → Prop) (W : World) (hW : Below w0.heap.size w0 W) (hJ : AbidesFrom W.heap.size J)
    (hY : ∀ pre x W1, J pre W1 → pre.length < ws.length → YieldAt F (n - 1) Tryd.prog l (encWt ws x) W1 fun e W' =>
      (e = .returned (.bool true) ∧ J (pre ++ [x]) W' ∧ Kk W1 W') ∨ (e = .returned (.bool false) ∧ Jx (pre ++ [x]) W'))
    (h0 : J [] W) :
    CallsIn F n Tryd.prog 52 #[.func (.yield l) #[] #[], .pointer (some ⟨Bs, 0, none⟩)] W fun e W' => (∃ v, e = .returned v) ∧
      ((∃ ys, ys = allW ws ∧ J ys W') ∨ (∃ pre, True ∧ Jx pre W')) := by
  have c1 := (hW.cell (p := ⟨Bs, 0, none⟩) (World.block_lt_of_cell? w0 _ hbs)).trans hbs
  have c2 := (hW.cell (p := ⟨g, 1, none⟩) (World.block_lt_of_cell? w0 _ hwv)).trans hwv
  have HR := Aside0.mk (Kd.R_step hR (fun k _ hlt => hW.block k hlt))
  have HSZ := Aside0.mk hW.size
  have HL := Aside0.mk hlen
  have HK := Aside0.mk hKk
  have HJ := Aside0.mk hJ
  have HZ := Aside0.mk zero_W
  clear hR hW hbs hwv hlen hKk hJ
  refine callsIn_of_wp Tryd.func52 rfl h8 ?_ hro
  simp only [Tryd.ntmps52, List.size_toArray, List.length_cons, List.length_nil, Nat.reduceAdd, Nat.reduceSub, Array.replicate_succ, Array.replicate_zero, List.push_toArray, List.append_toArray, List.nil_append, List.cons_append]
  gi_wp2
  clear c1 c2
  gi_loopw [10] (fun i wr => ∃ k : Nat, Aside0 (k ≤ ws.length) ∧ i = .int .i64 k ∧ J ((allW ws).take k) wr ∧ Aside0 (w0.heap.size ≤ wr.heap.size ∧ W.heap.size ≤ wr.heap.size) ∧ Aside0 (wrtK.R 89 wr 0 (fun k => some k = (Value.slice A ws.length c).ownBlock) (.slice A ws.length c) (ws.map encW)))
    (fun i _ => ws.length - (intOf i).toNat)
  case atStart => exact ⟨0, ⟨Nat.zero_le _⟩, rfl, by simpa using h0, ⟨HSZ.out, Nat.le_refl _⟩, HR⟩
  case round =>
    obtain ⟨k, HKL, rfl, hJs, HS, HRr0⟩ := hrel
    by_cases hlt : k < ws.length
    · obtain ⟨gw, hA⟩ : ∃ gw, A = some ⟨gw, 0, none⟩ := by
        obtain ⟨gw, cp, e, _⟩ := Kd.R_form HRr0.out (by simpa using (show 0 < ws.length by omega))
        injection e with e1 _ _
        exact ⟨gw, e1⟩
      subst hA
      obtain ⟨hx, hrg⟩ := wrt_range (gl := gw) (n := (ws.map encW).length) (xs := ws.map encW) (Kd.R_reads' HRr0.out).2.2 k (by simpa using hlt) (encW ws[k]) (by simp [hlt])
      have hload : (Instr.loadAt 89 (.pointer (some ⟨gw, k * 65, none⟩))).run Tryd.prog wr = .ok (.agg (wcells ws[k]).toArray) wr := load_wrt wr gw (k * 65) ws[k] hx hrg
      have hload2 := load_wrt (wr.alloc (.cells (wcells ws[k]).toArray 89)) wr.heap.size 0 ws[k] hx (range_new wr _ _)
      have hJ2 : J ((allW ws).take k) (wr.alloc (.cells (wcells ws[k]).toArray 89)) := HJ.out _ wr _ none hJs (World.grownBy_alloc wr _ none) (fun r e => by cases e)
      obtain ⟨fn, tmps, assign, body, hy, hRr⟩ := hY _ (⟨k, hlt⟩ : Fin ws.length) _ hJ2 (by simp [allW]; omega)
      (try dsimp only [encWt] at hy); (try dsimp only [encWt] at hRr)
      have hst := store_wrt wr ws[k] hx
      have hi : (k : Int) < (ws.length : Int) := by omega
      have HLT := Aside0.mk hlt
      have HX := Aside0.mk (And.intro hx hrg)
      have HLD := Aside0.mk (And.intro hload (And.intro hload2 hst))
      clear hx hrg hload hload2 hst hJ2 hJs
      generalize hz : ws[k] = z at *
      have HZZ := Aside0.mk hz
      clear hz
      gi_wp2_with (first
        | ((with_reducible refine gateIn_ (.load 89 (.tmp 13)) rfl ?_); refine wpListIn_exec rfl rfl (exec_load 89 _ (.pointer (some ⟨gw, k * 65, none⟩)) _ rfl rfl HLD.out.1) ?_)
        | ((with_reducible refine gateIn_ (.alloc 89) rfl ?_); refine wpListIn_exec rfl rfl (exec_alloc 89 zeroW rfl (HZ.out _)) ?_)
        | ((with_reducible refine gateIn_ (.store 89 (.tmp 4) (.tmp 14)) rfl ?_); refine wpListIn_exec_skip rfl rfl rfl (exec_store 89 _ _ (.pointer (some ⟨wr.heap.size, 0, none⟩)) (.agg (wcells z).toArray) rfl rfl rfl HLD.out.2.2) ?_)
        | ((with_reducible refine gateIn_ (.load 89 (.tmp 4)) rfl ?_); refine wpListIn_exec rfl rfl (exec_load 89 _ (.pointer (some ⟨wr.heap.size, 0, none⟩)) _ rfl rfl HLD.out.2.1) ?_))
      refine hRr.mono ?_
      rintro e W3 (⟨rfl, hJ3, hk3⟩ | ⟨rfl, hJx3⟩)
      · have hk4 := HK.out _ _ (by have := HS.out.1; simp; omega) hk3
        have HR3 := Aside0.mk (Kd.R_step (Kd.R_alloc HRr0.out (.cells (wcells z).toArray 89)) (fun q hq _ => hk4.2 q hq))
        have HS3 := Aside0.mk (show w0.heap.size ≤ W3.heap.size ∧ W.heap.size ≤ W3.heap.size from by have := HS.out; have := hk4.1; simp at this; omega)
        clear hk3 hk4
        gi_wp2
        go_roundw
        case rel => exact ⟨k + 1, ⟨by have := HLT.out; omega⟩, by rw [show wrap64 ((k : Int) + 1) = ((k + 1 : Nat) : Int) from by have := HLT.out; have := HL.out; unfold wrap64; omega], by rw [allW, take_ofFn _ k HLT.out]; exact hJ3, HS3, HR3⟩
        case measure => rw [show wrap64 ((k : Int) + 1) = ((k + 1 : Nat) : Int) from by have := HLT.out; have := HL.out; unfold wrap64; omega]; simp only [intOf, Int.toNat_natCast]; have := HLT.out; omega
      · gi_wp2
        refine bodyPost_ret (results_none rfl _ _ _) rfl ?_
        exact ⟨⟨_, rfl⟩, .inr ⟨_, trivial, hJx3⟩⟩
    · obtain rfl : k = ws.length := by have := HKL.out; omega
      gi_wp2
      go_end0
      exact ⟨⟨_, rfl⟩, .inl ⟨_, rfl, by rw [allW, take_ofFn_all] at hJs; exact hJs⟩⟩
theorem all_stops (F : Fence) (n : Nat) (h8 : F.fn 52) (hro : F.round = none) (hn : 1 ≤ n) (Bs g c : Nat) (A : Option Addr) (ws : List (Nat × List Int)) (w0 : World) (hlen : ws.length < 17592186044416)
    (hR : wrtK.R 89 w0 0 (fun k => some k = (Value.slice A ws.length c).ownBlock) (.slice A ws.length c) (ws.map encW)) (hbs : w0.cell? ⟨Bs, 0, none⟩ = some (.pointer (some ⟨g, 0, none⟩))) (hwv : w0.cell? ⟨g, 1, none⟩ = some (.slice A ws.length c))
    (Kk : World → World → Prop) (hKk : ∀ X Y, w0.heap.size ≤ X.heap.size → Kk X Y → X.heap.size ≤ Y.heap.size ∧ ∀ k, some k = (Value.slice A ws.length c).ownBlock → Y.heap[k]? = X.heap[k]?) :
    SeqStopsK F n Tryd.prog 52 #[.pointer (some ⟨Bs, 0, none⟩)] (fun x : Fin ws.length => encWt ws x) Kk (fun ys => ys = allW ws) (fun _ => True) ws.length w0 := fun l J Jx W hW hJ _ hY h0 =>
  all1_in F n h8 hro hn l Bs g c A ws w0 hlen hR hbs hwv Kk hKk J Jx W hW hJ hY h0
end Go.Proofs.YthpholjelfajiaaDoor.G
/- The disk: Flush. By hand. -/
namespace Go.Proofs.YthpholjelfajiaaDoor.G
open Go.RowKit Go.Shelf Go.Proofs.YthpholjelfajiaaDoorW.PrintWords Go.Proofs.YthpholjelfajiaaDoorW.PrintLast Go.Proofs.YthpholjelfajiaaDoorW.PrintMore Go.Proofs.YthpholjelfajiaaDoor.Dsk
set_option linter.unusedVariables false
set_option linter.unusedSimpArgs false
attribute [local go_sem] Oper.semAt_some
theorem Mem.bound {F : Nat → Prop} {g gl cl : Nat} {d : Dk} {wv : Value} {W : World} (h : Mem F g gl cl d wv W) : Mem (fun k => F k ∧ k < W.heap.size) g gl cl d wv W :=
  ⟨h.blk, ⟨h.fg, blk_lt h.blk⟩, ⟨h.fl, Kd.R_lt h.lies gl rfl⟩, h.ne, h.lies, Kd.R_mono (Kd.R_bound h.waits) (fun k hk => ⟨⟨hk.1.1, hk.2.2.1⟩, hk.1.2⟩), h.ok⟩
theorem allW_map (ws : List (Nat × List Int)) : (allW ws).map (fun k => ws[k.val]) = ws := by
  apply List.ext_getElem
  · simp [allW]
  · intro i h1 h2
    simp [allW]
theorem Mem.there {F : Nat → Prop} {g gl cl : Nat} {d : Dk} {wv : Value} {W : World} (h : Mem F g gl cl d wv W) {i : Nat} (hi : i < d.lies.length) : W.there gl (i * 64) 64 := fun j hj => by
  obtain ⟨c, hcl, hcM, hcc, hcf⟩ := Kd.R_elem h.lies [] (i : Int) (by omega) (by omega)
  rw [Int.toNat_natCast] at hcc hcf
  exact ⟨by have := hcc j _ (List.getElem?_eq_getElem (by rw [hcl]; exact hj)); rw [show i * 64 + j = i * secK.sz + j from rfl, this]; rfl, hcf j⟩
theorem Mem.putSec {F : Nat → Prop} {g gl cl : Nat} {d : Dk} {wv : Value} {W : World} (h : Mem F g gl cl d wv W) (i : Nat) (b : List Int) (hi : i < d.lies.length) (hb : b.length = 64) :
    Mem F g gl cl ⟨d.lies.set i b, d.waits, d.steps, d.left⟩ wv (W.setCells gl (i * 64) (bts b)) ∧ Kp (fun k => k = gl) W (W.setCells gl (i * 64) (bts b)) := by
  obtain ⟨c, hcl, hcM, hcc, hcf⟩ := Kd.R_elem h.lies [] (i : Int) (by omega) (by omega)
  rw [Int.toNat_natCast] at hcM hcc
  have hseg := Kd.R_seg (okp := fun _ => False) h.lies (i : Int) (by omega) (by omega) hcl (by rw [Int.toNat_natCast]; exact hcc) (seg := bts b) (j := 0) (by show 0 + _ ≤ 64; rw [bts_length, hb]; omega) (x' := b) (by
    show _ ∧ _
    refine ⟨hb, ?_⟩
    rw [List.take_zero, List.nil_append, Nat.zero_add, List.drop_eq_nil_of_le (by rw [hcl, bts_length, hb]; exact Nat.le_refl _), List.append_nil]) (fun _ hk => hk.elim)
  rw [Int.toNat_natCast, Nat.add_zero] at hseg
  have e : i * secK.sz = i * 64 := rfl
  rw [e] at hseg
  have hkp : Kp (fun k => k = gl) W (W.setCells gl (i * 64) (bts b)) := Kp.of_grown hseg.2 (fun q hq => by injection hq with hq; exact hq.symm)
  refine ⟨⟨?_, h.fg, h.fl, h.ne, ?_, Kp.R hkp h.waits (fun k hk => hk.2.2), ⟨?_, ?_, ?_⟩⟩, hkp⟩
  · show _ = some (Obj.cells #[.slice (some ⟨gl, 0, none⟩) (d.lies.set i _).length cl, _, _, _, _] _ _)
    rw [List.length_set]
    exact hkp.blk h.blk (fun e => h.ne e.symm)
  · show secK.R _ _ _ _ (.slice _ (d.lies.set i _).length cl) _
    rw [List.length_set]
    exact hseg.1
  · show 0 < (d.lies.set i _).length
    rw [List.length_set]; exact h.ok.some_
  · exact set_ok h.ok.lies i hb
  · intro w hw
    show w.1 < (d.lies.set i _).length ∧ _
    rw [List.length_set]
    exact h.ok.waits w hw
theorem Mem.clear {F : Nat → Prop} {g gl cl : Nat} {d : Dk} {wv : Value} {W : World} (h : Mem F g gl cl d wv W) : Mem F g gl cl ⟨d.lies, [], d.steps, d.left⟩ (.slice none 0 0) (W.setCell ⟨g, 1, none⟩ (.slice none 0 0)) :=
  ⟨blk_put h.blk 1 _ rfl, h.fg, h.fl, h.ne, Kd.R_far h.lies (fun k hk => by rw [hk]; exact h.ne) _, Kd.R_nil _ _ _ _ _, ⟨h.ok.some_, h.ok.lies, fun w hw => by cases hw⟩⟩
/-- What is true at the head of a round: so many writes are written down. -/
structure FlI (F : Nat → Prop) (g gl cl : Nat) (d : Dk) (wv : Value) (W : World) (pre : List (Fin d.waits.length)) (V : World) : Prop where
  mem : Mem F g gl cl ⟨Dsk.settle d.lies (pre.map fun k => d.waits[k.val]), d.waits, d.steps, d.left⟩ wv V
  box : V.heap[W.heap.size]? = some (.cells #[.pointer (some ⟨g, 0, none⟩)] 27 (0, 0))
  kp : Kp (fun k => k = gl ∨ W.heap.size ≤ k) W V
  sz : W.heap.size + 2 ≤ V.heap.size
theorem FlI.own {F : Nat → Prop} {g gl cl : Nat} {d : Dk} {wv : Value} {W : World} (hF : ∀ k, F k → k < W.heap.size) (B : Nat) (hB : W.heap.size < B) : OwnFrom B (FlI F g gl cl d wv W) := by
  intro s A V row hs hg hr
  have hne : ∀ k, k < B → some k ≠ row := fun k hk e => by have := (hr k e.symm).1; omega
  exact ⟨hs.mem.move (fun k hk hlt => hg.block k hlt (hne k (by have := hF k hk; omega))), blk_grown hs.box hg (hne _ hB), hs.kp.trans (Kp.of_grown (F := fun k => B ≤ k) hg (fun q hq => (hr q hq).1)) (fun q _ hq => .inr (by omega)), Nat.le_trans hs.sz hg.size⟩
theorem settle_snoc (l : List (List Int)) (ws : List (Nat × List Int)) (w : Nat × List Int) : Dsk.settle l (ws ++ [w]) = (Dsk.settle l ws).set w.1 w.2 := by simp [Dsk.settle]
set_option maxHeartbeats 8000000 in
set_option maxRecDepth 100000 in
theorem Flush_down (F : Nat → Prop) (g gl cl : Nat) (d : Dk) (wv : Value) (W : World) (h : Mem F g gl cl d wv W) (hd : down d = true) :
    Calls Tryd.prog 30 #[.pointer (some ⟨g, 0, none⟩)] W fun e w' => e = .returned (.int .i64 170) ∧ Below W.heap.size W w' := by
  have HM := Aside0.mk (fun V (hb : Below W.heap.size W V) => h.below hb)
  have HS := Aside0.mk (fun V (hb : Below W.heap.size W V) => Sectors_calls F g gl cl d wv V (h.below hb))
  have HD := Aside0.mk (fun V (hb : Below W.heap.size W V) => down_calls F g gl cl d wv V (h.below hb))
  rw [hd] at HD
  have b0 : ((d.lies.length : Int) == 0) = false := by
    have := h.ok.some_
    rw [Bool.eq_false_iff]
    intro q
    rw [beq_iff_eq] at q
    omega
  have b0' : ((d.lies.length : Int) = 0) = False := eq_false (by have := h.ok.some_; omega)
  have HB := Aside0.mk (below_alloc (Below.refl W.heap.size W) (.cells #[.pointer (some ⟨g, 0, none⟩)] 27))
  clear h hd
  go_enter Tryd.func30, Tryd.ntmps30
  go_wp2_with (first | (go_at_call 32; refine (HS.out _ HB.out).mono ?_; rintro e w5 ⟨rfl, rfl⟩) | (go_at_call 36; refine (HD.out _ HB.out).mono ?_; rintro e w5 ⟨rfl, rfl⟩))
  all_goals first | (exfalso; omega) | (go_ret; exact ⟨rfl, HB.out⟩) | skip
set_option maxHeartbeats 16000000 in
set_option maxRecDepth 100000 in
theorem Flush_ok (F : Nat → Prop) (g gl cl : Nat) (d : Dk) (wv : Value) (W : World) (h0 : Mem F g gl cl d wv W) (hd : down d = false) (hst : d.steps < 4611686018427387904) (hln : d.left.getD 0 < 9223372036854775808) (hwl : d.waits.length < 17592186044416) :
    Calls Tryd.prog 30 #[.pointer (some ⟨g, 0, none⟩)] W (MemPost F g (flush d).1 W (.returned (.int .i64 0))) := by
  have h := h0.bound
  have hFlt : ∀ k, (F k ∧ k < W.heap.size) → k < W.heap.size := fun k hk => hk.2
  have hF1 : ∀ k, (F k ∧ k < W.heap.size) → F k := fun k hk => hk.1
  generalize hFF : (fun k => F k ∧ k < W.heap.size) = F1 at h
  have HF1 := Aside0.mk (show ∀ k, F1 k → F k ∧ k < W.heap.size from fun k hk => by rw [← hFF] at hk; exact hk)
  clear hFF hFlt hF1 h0
  have HM := Aside0.mk h
  have HS := Aside0.mk (fun V (hb : Below W.heap.size W V) => Sectors_calls F1 g gl cl d wv V (h.below hb))
  have HD := Aside0.mk (fun V (hb : Below W.heap.size W V) => down_calls F1 g gl cl d wv V (h.below hb))
  rw [hd] at HD
  have b0 : ((d.lies.length : Int) == 0) = false := by
    have := h.ok.some_
    rw [Bool.eq_false_iff]
    intro q
    rw [beq_iff_eq] at q
    omega
  have b0' : ((d.lies.length : Int) = 0) = False := eq_false (by have := h.ok.some_; omega)
  have HB := Aside0.mk (below_alloc (Below.refl W.heap.size W) (.cells #[.pointer (some ⟨g, 0, none⟩)] 27))
  have HN := Aside0.mk (And.intro hst (And.intro hln (And.intro hwl hd)))
  have eg : ∀ args w, (callFunc 52 args).run Tryd.prog w = .ok (.enter 52 args) w := fun args w => by first | rfl | simp [callFunc]
  have HE := Aside0.mk eg
  clear h hd hst hln hwl eg
  refine (callsIn_wide (n := 6)).1 ?_
  refine callsIn_of_wp_marks Tryd.func30 rfl trivial ?_ rfl
  simp only [Tryd.ntmps30, List.size_toArray, List.length_cons, List.length_nil, Nat.reduceAdd, Nat.reduceSub, Array.replicate_succ, Array.replicate_zero, List.push_toArray, List.append_toArray, List.nil_append, List.cons_append]
  refine wpIn_wide.2 ?_
  go_wp2_with (first | (go_at_call 32; refine (HS.out _ HB.out).mono ?_; rintro e w5 ⟨rfl, hw5⟩; obtain rfl := hw5.symm) | (go_at_call 36; refine (HD.out _ HB.out).mono ?_; rintro e w6 ⟨rfl, hw6⟩; obtain rfl := hw6.symm) | (go_at_call 37; refine (all_calls g _).mono ?_; rintro e w7 ⟨rfl, hw7⟩; obtain rfl := hw7.symm))
  refine (wpIn_wide (n := 6)).1 ?_
  obtain ⟨W0, hW0⟩ : ∃ W0, ((W.alloc (.cells #[.pointer (some ⟨g, 0, none⟩)] 27)).alloc (.cells #[.pointer (some ⟨g, 0, none⟩)] 27)) = W0 := ⟨_, rfl⟩
  have hsz : W0.heap.size = W.heap.size + 2 := by rw [← hW0]; simp
  have hB0 : Below W.heap.size W W0 := by rw [← hW0]; exact below_alloc (below_alloc (Below.refl _ _) _) _
  have hI0 : FlI F1 g gl cl d wv W [] W0 := by
    refine ⟨HM.out.below hB0, ?_, Kp.of_below hB0, by omega⟩
    rw [← hW0]
    exact blk_alloc (blk_new _ _) _
  have hbox0 : W0.cell? ⟨W.heap.size + 1, 0, none⟩ = some (.pointer (some ⟨g, 0, none⟩)) := by
    rw [← hW0]
    have := blk_new (W.alloc (.cells #[.pointer (some ⟨g, 0, none⟩)] 27)) (.cells #[.pointer (some ⟨g, 0, none⟩)] 27)
    rw [World.size_alloc] at this
    exact (blk_cell this 0).trans rfl
  have hwv0 := hI0.mem.cells.2.1
  have hR0 := Kd.R_tight rfl hI0.mem.waits
  have hown0 : ∀ k, some k = wv.ownBlock → k ≠ gl ∧ k < W.heap.size := fun k hk => ⟨(HM.out.waits.1 k hk.symm).2.2, Kd.R_lt HM.out.waits k hk.symm⟩
  obtain ⟨A, c, hwe⟩ := Kd.R_slice hR0
  rw [List.length_map] at hwe
  subst hwe
  rw [hW0]
  have hHI := Aside0.mk hI0
  have HSZ := Aside0.mk hsz
  have HZW := Aside0.mk zero_W
  have HOWN := Aside0.mk hown0
  clear hB0 hW0
  refine wpIn_rangeFunc_ownH (by rfl) (by omega) (gf := 52) (lb := #[.pointer (some ⟨W.heap.size + 1, 0, none⟩)]) rfl trivial HE.out
    (all_stops Fence.wide 5 trivial rfl (by omega) (W.heap.size + 1) g c A d.waits W0 HN.out.2.2.1 hR0 hbox0 hwv0 (Kp (fun k => k = gl ∨ W.heap.size ≤ k)) (fun X Y hX hk => ⟨hk.size, fun k hk' => hk.block k (by have := HOWN.out k hk'; omega) (by have := HOWN.out k hk'; omega)⟩))
    (fun h k => h.trans k (fun _ _ hq => hq)) (fun V l o o' hl hV _ _ => Kp.of_grown (grownBy_putObj' V l o') (fun q hq => by injection hq with hq; subst hq; right; omega)) (Below.refl _ _) (fun _ => rfl)
    (FlI F1 g gl cl d (.slice A d.waits.length c) W) (fun _ _ _ => False) (FlI.own (fun k hk => (HF1.out k hk).2) _ (by omega)) (fun _ _ _ _ _ hs _ _ => hs) hI0
    (fun x a' V => ∃ b, a' = { tmps := #[.pointer (some ⟨g, 0, none⟩), .pointer (some ⟨W.heap.size, 0, none⟩), .int .i64 0, undef, .pointer (some ⟨b, 0, none⟩), .bool false, .pointer (some ⟨g, 0, none⟩), .int .i64 d.lies.length, .bool false, .bool false, .pointer (some ⟨g, 0, none⟩), .bool false, .pointer (some ⟨g, 0, none⟩),
      .func (.func 52) #[] #[.pointer (some ⟨W.heap.size + 1, 0, none⟩)], .int .i64 ((x.val : Nat) : Int), .agg (wcells d.waits[x.val]).toArray, undef, undef, undef, undef, undef, undef, undef, undef, undef, undef, undef, undef, undef, undef], defers := [] } ∧ V.heap[b]? = some (.cells (wcells d.waits[x.val]).toArray 89 (0, 0)) ∧ W0.heap.size ≤ b)
    ?hAx ?assign ?body ?done ?stop
  case hAx =>
    rintro x a' _ V V' row ⟨b, e, hb, hbB⟩ hg hr
    exact ⟨b, e, blk_grown hb hg (fun he => by
      obtain ⟨_, o, ho, hc⟩ := hr b he.symm
      rw [hb] at ho
      injection ho with ho
      subst ho
      cases hc), hbB⟩
  case assign =>
    intro l pre x V K hI hK
    have hxl : (d.waits[x.val]).2.length = 64 := (HM.out.ok.waits _ (List.getElem_mem x.isLt)).2
    have HST := Aside0.mk (store_wrt V (d.waits[x.val]) hxl)
    clear hxl
    simp only [encWt, List.zip_toArray, List.zip_cons_cons, List.zip_nil_right, List.foldl_toArray, List.foldl_cons, List.foldl_nil, List.setIfInBounds_toArray, List.set_cons_succ, List.set_cons_zero]
    refine wpIn_region_lit ?_
    refine wpListIn_exec rfl rfl (exec_alloc 89 zeroW rfl (HZW.out _)) ?_
    refine wpListIn_exec_skip rfl rfl rfl (exec_store 89 _ _ (.pointer (some ⟨V.heap.size, 0, none⟩)) (.agg (wcells d.waits[x.val]).toArray) rfl rfl rfl HST.out) ?_
    have hb1 := below_alloc (Below.refl V.heap.size V) (.cells (wcells d.waits[x.val]).toArray 89)
    have hg1 := World.grownBy_alloc V (.cells (wcells d.waits[x.val]).toArray 89) none
    exact hK _ _ (KeepsFrom.of_grownBy hg1 (fun j e => by cases e)) (Kp.of_below hb1) (FlI.own (fun k hk => (HF1.out k hk).2) (W.heap.size + 1) (by omega) pre V _ none hI hg1 (fun r e => by cases e)) ⟨V.heap.size, rfl, blk_new V _, by have := hI.sz; have := HSZ.out; omega⟩
  case body =>
    rintro l pre x a' V hl hr hI ⟨b, rfl, hb, hbB⟩ hpl
    have hw := HM.out.ok.waits _ (List.getElem_mem x.isLt)
    obtain ⟨wi, wb, hwe⟩ : ∃ wi wb, d.waits[x.val] = (wi, wb) := ⟨_, _, rfl⟩
    rw [hwe] at hw hb
    have hlen : (Dsk.settle d.lies (pre.map fun k => d.waits[k.val])).length = d.lies.length := settle_len _ _
    have hc1 : V.cell? ⟨W.heap.size, 0, none⟩ = some (.pointer (some ⟨g, 0, none⟩)) := (blk_cell hI.box 0).trans rfl
    have hc2 : V.cell? ⟨g, 0, none⟩ = some (.slice (some ⟨gl, 0, none⟩) d.lies.length cl) := by have := hI.mem.cells.1; rw [show (Dk.lies ⟨Dsk.settle d.lies (pre.map fun k => d.waits[k.val]), d.waits, d.steps, d.left⟩).length = d.lies.length from hlen] at this; exact this
    have hc3 : V.cell? ⟨b, 0, none⟩ = some (.int .i64 (wi : Int)) := (blk_cell hb 0).trans rfl
    have hc4 : (Instr.loadAt 84 (.pointer (some ⟨b, 1, none⟩))).run Tryd.prog V.drew = .ok (.agg (bts wb).toArray) V.drew := load_bts _ _ wb hw.2 (fun i u hu => by
      rw [Addr.add_mid]
      show V.cell? ⟨b, 1 + i, none⟩ = _
      rw [blk_cell hb (1 + i), Nat.add_comm]
      simpa [wcells] using hu)
    have f1 : ((wi : Int) < (d.lies.length : Int)) = True := eq_true (by have := hw.1; omega)
    have f2 : (wi < d.lies.length) = True := eq_true hw.1
    have hth : V.drew.there gl (wi * 64) (bts wb).toArray.size := by
      rw [List.size_toArray, bts_length, hw.2]
      have := hI.mem.there (i := wi) (by show wi < (Dsk.settle _ _).length; rw [hlen]; exact hw.1)
      exact this
    have hput := (hI.mem.below (below_drew (Below.refl _ _))).putSec wi wb (by show wi < (Dsk.settle _ _).length; rw [hlen]; exact hw.1) hw.2
    have HP := Aside0.mk hput
    have HT := Aside0.mk hth
    have HW := Aside0.mk (And.intro hw hwe)
    have HI := Aside0.mk hI
    have HGL := Aside0.mk (show gl < W0.heap.size from by have := Kd.R_lt HM.out.lies gl rfl; have := HSZ.out; omega)
    clear hput hth hw hI hb hbB hlen hwe
    gi_wp2
    refine startIn_ (m := 10) (S := fun w' => w'.cell? ⟨W.heap.size, 0, none⟩ = some (.pointer (some ⟨g, 0, none⟩)) ∧ w'.cell? ⟨g, 0, none⟩ = some (.slice (some ⟨gl, 0, none⟩) d.lies.length cl) ∧ w'.cell? ⟨b, 0, none⟩ = some (.int .i64 (wi : Int)) ∧ (Instr.loadAt 84 (.pointer (some ⟨b, 1, none⟩))).run Tryd.prog w' = .ok (.agg (bts wb).toArray) w') (ds := [9]) #[false, false, false, false, false, false, false, false, false, false] (by kernel_rfl) (by rintro ⟨_, _, hh⟩; exact hh) (by rfl) rfl rfl ⟨hc1, hc2, hc3, hc4⟩ (fun hHeld => ?_)
    refine pure_ (i := 4) (N := some 20) (v := ?_) (a' := ?_) #[false, false, false, false, true, false, false, false, false, false] rfl rfl (by kernel_rfl) (fun _ _ _ h => h) (Or.inl ⟨by rfl, ?_⟩) ?_ ?_
    rotate_left
    · intro w'
      go_simp
      with_reducible rfl
    rotate_left
    · simp only [Act.put, List.setIfInBounds_toArray, List.set_cons_zero, List.set_cons_succ, i64_w, i32_w]
      rfl
    refine pure_ (i := 6) (N := some 22) (v := ?_) (a' := ?_) #[false, false, false, false, true, false, true, false, false, false] rfl rfl (by kernel_rfl) (fun _ _ _ h => h) (Or.inl ⟨by rfl, ?_⟩) ?_ ?_
    rotate_left
    · intro w'
      go_simp
      with_reducible rfl
    rotate_left
    · simp only [Act.put, List.setIfInBounds_toArray, List.set_cons_zero, List.set_cons_succ, i64_w, i32_w]
      rfl
    refine take_ (i := 0) (N := some 16) (v := ?_) (a' := ?_) #[true, false, false, false, true, false, true, false, false, false] rfl rfl (by kernel_rfl) (fun _ _ _ h => h) (Or.inl ⟨by rfl, ?_⟩) hHeld ?_ ?_
    rotate_left
    · rintro w' ⟨s0, s1, s2, s3⟩
      go_simp
      with_reducible rfl
    rotate_left
    · simp only [Act.put, List.setIfInBounds_toArray, List.set_cons_zero, List.set_cons_succ, i64_w, i32_w]
      rfl
    refine pure_ (i := 1) (N := some 17) (v := ?_) (a' := ?_) #[true, true, false, false, true, false, true, false, false, false] rfl rfl (by kernel_rfl) (fun _ _ _ h => h) (Or.inl ⟨by rfl, ?_⟩) ?_ ?_
    rotate_left
    · intro w'
      go_simp
      with_reducible rfl
    rotate_left
    · simp only [Act.put, List.setIfInBounds_toArray, List.set_cons_zero, List.set_cons_succ, i64_w, i32_w]
      rfl
    refine pure_ (i := 2) (N := some 18) (v := ?_) (a' := ?_) #[true, true, true, false, true, false, true, false, false, false] rfl rfl (by kernel_rfl) (fun _ _ _ h => h) (Or.inl ⟨by rfl, ?_⟩) ?_ ?_
    rotate_left
    · intro w'
      go_simp
      with_reducible rfl
    rotate_left
    · simp only [Act.put, List.setIfInBounds_toArray, List.set_cons_zero, List.set_cons_succ, i64_w, i32_w]
      rfl
    refine take_ (i := 3) (N := some 19) (v := ?_) (a' := ?_) #[true, true, true, true, true, false, true, false, false, false] rfl rfl (by kernel_rfl) (fun _ _ _ h => h) (Or.inl ⟨by rfl, ?_⟩) hHeld ?_ ?_
    rotate_left
    · rintro w' ⟨s0, s1, s2, s3⟩
      go_simp
      with_reducible rfl
    rotate_left
    · simp only [Act.put, List.setIfInBounds_toArray, List.set_cons_zero, List.set_cons_succ, i64_w, i32_w]
      rfl
    refine take_ (i := 5) (N := some 21) (v := ?_) (a' := ?_) #[true, true, true, true, true, true, true, false, false, false] rfl rfl (by kernel_rfl) (fun _ _ _ h => h) (Or.inl ⟨by rfl, ?_⟩) hHeld ?_ ?_
    rotate_left
    · rintro w' ⟨s0, s1, s2, s3⟩
      go_simp
      with_reducible rfl
    rotate_left
    · simp only [Act.put, List.setIfInBounds_toArray, List.set_cons_zero, List.set_cons_succ, i64_w, i32_w]
      rfl
    refine one_ (i := 7) (N := some 23) #[true, true, true, true, true, true, true, true, false, false] rfl rfl (by kernel_rfl) (by decide) (fun K hK => ?_)
    refine value_ (by rfl) rfl (exec_load 84 _ (.pointer (some ⟨b, 1, none⟩)) _ rfl (by rfl) hHeld.2.2.2) ?_
    refine hK.out _ _ ⟨hHeld.1, hHeld.2.1, hHeld.2.2.1, hHeld.2.2.2⟩ (fun hHeld => ?_)
    clear hK K
    refine norm_ (a' := ?_) ?_ ?_
    rotate_left
    · show Act.put _ (some 23) _ = _
      simp only [Act.put, List.setIfInBounds_toArray, List.set_cons_zero, List.set_cons_succ, i64_w, i32_w]
      rfl
    refine pure_ (i := 8) (N := some 24) (v := ?_) (a' := ?_) #[true, true, true, true, true, true, true, true, true, false] rfl rfl (by kernel_rfl) (fun _ _ _ h => h) (Or.inl ⟨by rfl, ?_⟩) ?_ ?_
    rotate_left
    · intro w'
      go_simp
      with_reducible rfl
    rotate_left
    · simp only [Act.put, List.setIfInBounds_toArray, List.set_cons_zero, List.set_cons_succ, i64_w, i32_w]
      rfl
    refine last_ (i := 9) (N := none) #[true, true, true, true, true, true, true, true, true, true] rfl rfl (by kernel_rfl) (by decide) (fun K hK => ?_)
    refine skip_ (by rfl) rfl (exec_store 84 _ _ (.pointer (some ⟨gl, wi * 64, none⟩)) (.agg (bts wb).toArray) rfl (by rfl) (by rfl) (run_storeAt_mid _ gl (wi * 64) 84 (bts wb).toArray HT.out (by rw [List.size_toArray, bts_length, HW.out.1.2]; exact sizeS) (all_oneCell_toArray (bts_one wb)))) ?_
    refine hK.out _ _ ?_
    clear hK K
    refine done_ (by kernel_rfl) ?_
    have hk := HP.out.2
    have hg : V.drew.grownBy (V.drew.setCells gl (wi * 64) (bts wb)) (some gl) := ⟨hk.os, hk.tape, hk.output, hk.size, fun k hlt hne => hk.block k hlt (fun e => hne (by rw [e]))⟩
    refine ⟨?_, ?_, ?_⟩
    · exact (KeepsFrom.of_grownBy (row := none) (show V.grownBy V.drew none from ⟨rfl, rfl, rfl, Nat.le_refl _, fun _ _ _ => rfl⟩) (fun j e => by cases e)).trans (KeepsFrom.of_grownBy hg (fun j e => by cases e; exact HGL.out))
    · exact (Kp.of_below (below_drew (Below.refl _ _))).trans hk (fun q _ hq => .inl hq)
    · refine ⟨?_, ?_, ?_, ?_⟩
      · rw [List.map_append, List.map_singleton, settle_snoc, HW.out.2]
        exact HP.out.1
      · exact hk.blk (k := W.heap.size) HI.out.box (fun e => by have := Kd.R_lt HM.out.lies gl rfl; omega)
      · exact HI.out.kp.trans ((Kp.of_below (F := fun k => k = gl) (below_drew (Below.refl _ _))).trans hk (fun q _ hq => hq)) (fun q _ hq => .inl hq)
      · have h1 := HI.out.sz
        have h2 := hk.size
        exact Nat.le_trans h1 h2
  case done =>
    rintro D ys V hD rfl hI hK
    have hM := hI.mem
    rw [allW_map] at hM
    have hc1 : V.cell? ⟨W.heap.size, 0, none⟩ = some (.pointer (some ⟨g, 0, none⟩)) := (blk_cell hI.box 0).trans rfl
    have hc2 := hM.cells.2.1
    have hz2 := hM.free 1
    have hgW := blk_lt HM.out.blk
    have hstep := step_calls F1 g gl cl _ _ _ hM.clear HN.out.1 HN.out.2.2.2 HN.out.2.1
    have HStep := Aside0.mk hstep
    have HI := Aside0.mk hI
    have HMM := Aside0.mk hM
    have HD := Aside0.mk (show V.heap[D]? = some (.deferred (some [])) ∧ D ≠ g ∧ W0.heap.size ≤ D ∧ W.heap.size < D from ⟨hK, by have := HSZ.out; omega, hD, by have := HSZ.out; omega⟩)
    clear hI hM hK hD hstep
    go_wp2_with (first | (go_at_call 48; refine HStep.out.mono ?_; rintro e w9 ⟨rfl, hM9, hk9⟩))
    have hK1 : (V.setCell ⟨g, 1, none⟩ (.slice none 0 0)).heap[D]? = some (.deferred (some [])) := (Below.heap_setCell _ _ _ D HD.out.2.1).trans HD.out.1
    have hK9 := (hk9.block D (blk_lt hK1) (fun e => HD.out.2.1 e)).trans hK1
    have hkpV : Kp F W V := HI.out.kp.mono (fun q hq h => by
      rcases h with h | h
      · rw [h]; exact (HF1.out gl HM.out.fl).1
      · omega)
    have hkp9 : Kp F W w9 := hkpV.trans (((Kp.refl (fun k => k = g) V).set (p := ⟨g, 1, none⟩) (.inl rfl) (.slice none 0 0)).trans hk9 (fun q _ hq => hq)) (fun q _ hq => by rw [hq]; exact (HF1.out g HM.out.fg).1)
    have hfl : (flush d).1 = stepped ⟨Dsk.settle d.lies d.waits, [], d.steps, d.left⟩ := by
      unfold flush
      rw [HN.out.2.2.2, if_neg (by simp)]
    have hput := grownBy_putObj' w9 D (.deferred none)
    refine ⟨by simp, .inl ⟨_, _, rfl, run_takeDeferred hK9, ?_⟩⟩
    refine ⟨_, results_tmp rfl _ _ _, rfl, gl, cl, .slice none 0 0, F1, ?_, fun k hk => .inl (HF1.out k hk).1, ?_⟩
    · rw [hfl]
      exact hM9.move (fun k hk hlt => hput.block k hlt (fun e => by injection e with e; have := (HF1.out k hk).2; have := HD.out.2.2.2; omega))
    · exact hkp9.trans (Kp.of_grown (F := fun k => k = D) hput (fun q hq => by injection hq with hq; exact hq.symm)) (fun q hq h => by have := HD.out.2.2.2; omega)
  case stop =>
    rintro D c pre V _ _ h _
    exact h.elim
end Go.Proofs.YthpholjelfajiaaDoor.G
/- The disk: Read. By hand. -/
namespace Go.Proofs.YthpholjelfajiaaDoor.G
open Go.RowKit Go.Shelf Go.Proofs.YthpholjelfajiaaDoorW.PrintWords Go.Proofs.YthpholjelfajiaaDoorW.PrintLast Go.Proofs.YthpholjelfajiaaDoorW.PrintMore Go.Proofs.YthpholjelfajiaaDoor.Dsk
set_option linter.unusedVariables false
set_option linter.unusedSimpArgs false
attribute [local go_sem] Oper.semAt_some
set_option maxHeartbeats 8000000 in
set_option maxRecDepth 100000 in
theorem Read_bad (F : Nat → Prop) (g gl cl : Nat) (d : Dk) (wv : Value) (n : Int) (W : World) (h : Mem F g gl cl d wv W) (hS : isS d n = false) :
    Calls Tryd.prog 16 #[.pointer (some ⟨g, 0, none⟩), .int .i64 n] W fun e w' => e = .returned (.tuple #[.slice none 0 0, .int .i64 4]) ∧ Below W.heap.size W w' := by
  have HB := Aside0.mk (below_alloc (Below.refl W.heap.size W) (.cells #[.int .i64 n] 3))
  have HW := Aside0.mk (wrong_calls F g gl cl d wv n _ (h.below HB.out))
  rw [hS] at HW
  clear h
  go_enter Tryd.func16, Tryd.ntmps16
  go_wp2_with (first | (go_at_call 35; refine HW.out.mono ?_; rintro e w5 ⟨rfl, rfl⟩))
  all_goals first | (go_ret2; exact ⟨rfl, HB.out⟩) | skip
set_option maxHeartbeats 8000000 in
set_option maxRecDepth 100000 in
theorem Read_down (F : Nat → Prop) (g gl cl : Nat) (d : Dk) (wv : Value) (n : Int) (W : World) (h : Mem F g gl cl d wv W) (hS : isS d n = true) (hd : down d = true) :
    Calls Tryd.prog 16 #[.pointer (some ⟨g, 0, none⟩), .int .i64 n] W fun e w' => e = .returned (.tuple #[.slice none 0 0, .int .i64 170]) ∧ Below W.heap.size W w' := by
  have HB := Aside0.mk (below_alloc (Below.refl W.heap.size W) (.cells #[.int .i64 n] 3))
  have HW := Aside0.mk (wrong_calls F g gl cl d wv n _ (h.below HB.out))
  rw [hS] at HW
  have HD := Aside0.mk (down_calls F g gl cl d wv _ (h.below HB.out))
  rw [hd] at HD
  clear h
  go_enter Tryd.func16, Tryd.ntmps16
  go_wp2_with (first | (go_at_call 35; refine HW.out.mono ?_; rintro e w5 ⟨rfl, rfl⟩) | (go_at_call 36; refine HD.out.mono ?_; rintro e w5 ⟨rfl, rfl⟩))
  all_goals first | (go_ret2; exact ⟨rfl, HB.out⟩) | skip
/-- What a sector tells when so many writes are looked through. -/
def told (d : Dk) (n : Nat) (ws : List (Nat × List Int)) : List Int := ws.foldl (fun b w => if w.1 = n then w.2 else b) (d.lies.getD n [])
theorem told_snoc (d : Dk) (n : Nat) (ws : List (Nat × List Int)) (w : Nat × List Int) : told d n (ws ++ [w]) = if w.1 = n then w.2 else told d n ws := by simp [told]
theorem told_len {d : Dk} (h : Ok d) {n : Nat} (hn : n < d.lies.length) (pre : List (Fin d.waits.length)) : (told d n (pre.map fun k => d.waits[k.val])).length = 64 := by
  have key : ∀ (ws : List (Nat × List Int)) (b : List Int), b.length = 64 → (∀ w ∈ ws, w.2.length = 64) → (ws.foldl (fun b w => if w.1 = n then w.2 else b) b).length = 64 := by
    intro ws
    induction ws with
    | nil => intro b hb _; exact hb
    | cons w ws ih =>
      intro b hb hw
      rw [List.foldl_cons]
      refine ih _ ?_ (fun q hq => hw q (by simp [hq]))
      split
      · exact hw w (by simp)
      · exact hb
  refine key _ _ (getD_ok h.lies hn) (fun w hw => ?_)
  obtain ⟨k, _, rfl⟩ := List.mem_map.1 hw
  exact (h.waits _ (List.getElem_mem k.isLt)).2
def zeroS : Value := .agg (List.replicate 64 (Value.int .u8 0)).toArray
theorem store_sec (V : World) (b : Nat) (old : Array Value) (t : TypeId) (xs : List Int) (h : V.heap[b]? = some (.cells old t (0, 0))) (ho : old.size = 64) (hx : xs.length = 64) : (Instr.storeAt 84 (.pointer (some ⟨b, 0, none⟩)) (.agg (bts xs).toArray)).run Tryd.prog V = .ok () (V.setRow b (bts xs).toArray) := by
  have hs : (bts xs).toArray.size = 64 := by rw [List.size_toArray, bts_length, hx]
  have := run_storeVar_row (P := Tryd.prog) V b t 84 old (bts xs).toArray h (by rw [hs]; exact sizeS) (by rw [ho, hs]) (all_oneCell_toArray (bts_one xs))
  simp only [Instr.storeAt, Instr.sureAddr, Sem.run_bind, Sem.run_pure, Result.andThen_ok, this]
theorem Kp.setRow {F : Nat → Prop} {w w1 : World} (h : Kp F w w1) {b : Nat} (hb : F b ∨ w.heap.size ≤ b) (c : Array Value) : Kp F w (w1.setRow b c) :=
  ⟨h.os, h.tape, h.output, by rw [setRow_size]; exact h.size, fun k hk hn => (setRow_other w1 b k c (fun e => by
    subst e
    rcases hb with hb | hb
    · exact hn hb
    · omega)).trans (h.block k hk hn)⟩
structure RdI (d : Dk) (n : Nat) (W : World) (b7 : Nat) (pre : List (Fin d.waits.length)) (V : World) : Prop where
  box : V.heap[W.heap.size]? = some (.cells #[.int .i64 (n : Int)] 3 (0, 0))
  at_ : V.heap[b7]? = some (.cells (bts (told d n (pre.map fun k => d.waits[k.val]))).toArray 84 (0, 0))
  kp : Kp (fun k => W.heap.size ≤ k) W V
  sz : b7 + 2 ≤ V.heap.size
theorem RdI.own {d : Dk} {n : Nat} {W : World} {b7 : Nat} (hb : W.heap.size < b7) (B : Nat) (hB : b7 < B) : OwnFrom B (RdI d n W b7) := by
  intro s A V row hs hg hr
  have hne : ∀ k, k < B → some k ≠ row := fun k hk e => by have := (hr k e.symm).1; omega
  exact ⟨blk_grown hs.box hg (hne _ (by omega)), blk_grown hs.at_ hg (hne _ hB), hs.kp.trans (Kp.of_grown (F := fun k => B ≤ k) hg (fun q hq => (hr q hq).1)) (fun q _ hq => by show _ ≤ _; omega), Nat.le_trans hs.sz hg.size⟩
def RdPost (xs : List Int) (W : World) (e : Ending) (w' : World) : Prop := ∃ v, e = .returned (.tuple #[v, .int .i64 0]) ∧ Kd.R (Kd.int .u8) 5 w' W.heap.size (fun _ => True) v xs ∧ Below W.heap.size W w'
set_option maxHeartbeats 16000000 in
set_option maxRecDepth 100000 in
theorem Read_ok (F : Nat → Prop) (g gl cl : Nat) (d : Dk) (wv : Value) (n : Nat) (W : World) (h : Mem F g gl cl d wv W) (hn : n < d.lies.length) (hd : down d = false) (hwl : d.waits.length < 17592186044416) :
    Calls Tryd.prog 16 #[.pointer (some ⟨g, 0, none⟩), .int .i64 (n : Int)] W (RdPost (latest d n) W) := by
  have HB := Aside0.mk (below_alloc (Below.refl W.heap.size W) (.cells #[.int .i64 (n : Int)] 3))
  have HW := Aside0.mk (wrong_calls F g gl cl d wv n _ (h.below HB.out))
  rw [show isS d (n : Int) = true from decide_eq_true (by omega)] at HW
  have HD := Aside0.mk (down_calls F g gl cl d wv _ (h.below HB.out))
  rw [hd] at HD
  have HM := Aside0.mk h
  have hx : (d.lies.getD n []).length = 64 := getD_ok h.ok.lies hn
  have hF : ∀ V, Below W.heap.size W V → V.cell? ⟨g, 0, none⟩ = some (.slice (some ⟨gl, 0, none⟩) d.lies.length cl) ∧ (Instr.loadAt 84 (.pointer (some ⟨gl, n * 64, none⟩))).run Tryd.prog V = .ok (.agg (bts (d.lies.getD n [])).toArray) V := fun V hV => by
    have hm := h.below hV
    refine ⟨hm.cells.1, ?_⟩
    obtain ⟨c, hcl, hcM, hcc, hcf⟩ := Kd.R_elem hm.lies [] (n : Int) (by omega) (by omega)
    rw [Int.toNat_natCast] at hcM hcc
    obtain ⟨_, rfl⟩ := hcM
    exact load_bts V _ _ hx (fun i u hu => by rw [Addr.add_mid]; exact hcc i u hu)
  have f1 : ((n : Int) < (d.lies.length : Int)) = True := eq_true (by omega)
  have f2 : (n < d.lies.length) = True := eq_true hn
  have hbox : (W.alloc (.cells #[.int .i64 (n : Int)] 3)).heap[W.heap.size]? = some (.cells #[.int .i64 (n : Int)] 3 (0, 0)) := blk_new W (.cells #[.int .i64 (n : Int)] 3)
  have HSZ1 := Aside0.mk (World.size_alloc W (.cells #[.int .i64 (n : Int)] 3))
  have HBX := Aside0.mk hbox
  obtain ⟨x0, hx0⟩ : ∃ x0, d.lies.getD n [] = x0 := ⟨_, rfl⟩
  rw [hx0] at hx hF
  have HX := Aside0.mk hx
  have HX0 := Aside0.mk hx0
  have HF := Aside0.mk hF
  have HN := Aside0.mk (And.intro hwl hn)
  have eg : ∀ args w, (callFunc 52 args).run Tryd.prog w = .ok (.enter 52 args) w := fun args w => by first | rfl | simp [callFunc]
  have HE := Aside0.mk eg
  clear h hd hwl eg hF hbox hx hn hx0
  refine (callsIn_wide (n := 6)).1 ?_
  refine callsIn_of_wp_marks Tryd.func16 rfl trivial ?_ rfl
  simp only [Tryd.ntmps16, List.size_toArray, List.length_cons, List.length_nil, Nat.reduceAdd, Nat.reduceSub, Array.replicate_succ, Array.replicate_zero, List.push_toArray, List.append_toArray, List.nil_append, List.cons_append]
  refine wpIn_wide.2 ?_
  go_upto_region 6 with (first | (go_at_call 35; refine HW.out.mono ?_; rintro e w5 ⟨rfl, hw5⟩; obtain rfl := hw5.symm) | (go_at_call 36; refine HD.out.mono ?_; rintro e w6 ⟨rfl, hw6⟩; obtain rfl := hw6.symm))
  generalize hW1 : W.alloc (.cells #[.int .i64 (n : Int)] 3) = W1 at *
  clear hW1
  refine wp_normal ?_
  refine start_ (n := 9) (S := fun w' => w'.cell? ⟨g, 0, none⟩ = some (.slice (some ⟨gl, 0, none⟩) d.lies.length cl) ∧ w'.cell? ⟨W.heap.size, 0, none⟩ = some (.int .i64 (n : Int)) ∧ (Instr.loadAt 84 (.pointer (some ⟨gl, n * 64, none⟩))).run Tryd.prog w' = .ok (.agg (bts x0).toArray) w') (ds := [8]) #[false, false, false, false, false, false, false, false, false] (by kernel_rfl) rfl rfl ⟨(HF.out _ (below_drew HB.out)).1, (blk_cell HBX.out 0).trans rfl, (HF.out _ (below_drew HB.out)).2⟩ (fun hHeld => ?_)
  refine pure_ (i := 0) (N := some 18) (v := ?_) (a' := ?_) #[true, false, false, false, false, false, false, false, false] rfl rfl (by kernel_rfl) (fun _ _ _ h => h) (Or.inl ⟨by rfl, ?_⟩) ?_ ?_
  rotate_left
  · intro w'
    go_simp
    with_reducible rfl
  rotate_left
  · simp only [Act.put, List.setIfInBounds_toArray, List.set_cons_zero, List.set_cons_succ, i64_w, i32_w]
    rfl
  refine pure_ (i := 1) (N := some 19) (v := ?_) (a' := ?_) #[true, true, false, false, false, false, false, false, false] rfl rfl (by kernel_rfl) (fun _ _ _ h => h) (Or.inl ⟨by rfl, ?_⟩) ?_ ?_
  rotate_left
  · intro w'
    go_simp
    with_reducible rfl
  rotate_left
  · simp only [Act.put, List.setIfInBounds_toArray, List.set_cons_zero, List.set_cons_succ, i64_w, i32_w]
    rfl
  refine pure_ (i := 2) (N := some 20) (v := ?_) (a' := ?_) #[true, true, true, false, false, false, false, false, false] rfl rfl (by kernel_rfl) (fun _ _ _ h => h) (Or.inl ⟨by rfl, ?_⟩) ?_ ?_
  rotate_left
  · intro w'
    go_simp
    with_reducible rfl
  rotate_left
  · simp only [Act.put, List.setIfInBounds_toArray, List.set_cons_zero, List.set_cons_succ, i64_w, i32_w]
    rfl
  refine take_ (i := 3) (N := some 21) (v := ?_) (a' := ?_) #[true, true, true, true, false, false, false, false, false] rfl rfl (by kernel_rfl) (fun _ _ _ h => h) (Or.inl ⟨by rfl, ?_⟩) hHeld ?_ ?_
  rotate_left
  · rintro w' ⟨s0, s1, s2⟩
    go_simp
    with_reducible rfl
  rotate_left
  · simp only [Act.put, List.setIfInBounds_toArray, List.set_cons_zero, List.set_cons_succ, i64_w, i32_w]
    rfl
  refine take_ (i := 4) (N := some 22) (v := ?_) (a' := ?_) #[true, true, true, true, true, false, false, false, false] rfl rfl (by kernel_rfl) (fun _ _ _ h => h) (Or.inl ⟨by rfl, ?_⟩) hHeld ?_ ?_
  rotate_left
  · rintro w' ⟨s0, s1, s2⟩
    go_simp
    with_reducible rfl
  rotate_left
  · simp only [Act.put, List.setIfInBounds_toArray, List.set_cons_zero, List.set_cons_succ, i64_w, i32_w]
    rfl
  refine pure_ (i := 5) (N := some 23) (v := ?_) (a' := ?_) #[true, true, true, true, true, true, false, false, false] rfl rfl (by kernel_rfl) (fun _ _ _ h => h) (Or.inl ⟨by rfl, ?_⟩) ?_ ?_
  rotate_left
  · intro w'
    go_simp
    with_reducible rfl
  rotate_left
  · simp only [Act.put, List.setIfInBounds_toArray, List.set_cons_zero, List.set_cons_succ, i64_w, i32_w]
    rfl
  refine take_ (i := 6) (N := some 24) (v := ?_) (a' := ?_) #[true, true, true, true, true, true, true, false, false] rfl rfl (by kernel_rfl) (fun _ _ _ h => h) (Or.inl ⟨by rfl, ?_⟩) hHeld ?_ ?_
  rotate_left
  · rintro w' ⟨s0, s1, s2⟩
    refine Eq.trans (exec_load 84 _ (.pointer (some ⟨gl, n * 64, none⟩)) (.agg (bts x0).toArray) rfl (by rfl) s2) ?_
    with_reducible rfl
  rotate_left
  · simp only [Act.put, List.setIfInBounds_toArray, List.set_cons_zero, List.set_cons_succ, i64_w, i32_w]
    rfl
  refine one_ (i := 7) (N := some 7) #[true, true, true, true, true, true, true, true, false] rfl rfl (by kernel_rfl) (by decide) (fun K hK => ?_)
  refine value_ (by rfl) rfl (exec_alloc 84 zeroS rfl (zero_S _)) ?_
  refine hK.out _ _ ⟨(HF.out _ (below_alloc (below_drew HB.out) _)).1, (blk_cell (blk_alloc (w := W1.drew) HBX.out _) 0).trans rfl, (HF.out _ (below_alloc (below_drew HB.out) _)).2⟩ (fun hHeld => ?_)
  clear hK K
  refine norm_ (a' := ?_) ?_ ?_
  rotate_left
  · show Act.put _ (some 7) _ = _
    simp only [Act.put, List.setIfInBounds_toArray, List.set_cons_zero, List.set_cons_succ, i64_w, i32_w]
    rfl
  refine last_ (i := 8) (N := none) #[true, true, true, true, true, true, true, true, true] rfl rfl (by kernel_rfl) (by decide) (fun K hK => ?_)
  refine skip_ (by rfl) rfl (exec_store 84 _ _ (.pointer (some ⟨W1.drew.heap.size, 0, none⟩)) (.agg (bts x0).toArray) rfl (by rfl) (by rfl) (store_sec _ _ zeroS.cells 84 _ (blk_new _ _) rfl HX.out)) ?_
  refine hK.out _ _ ?_
  clear hK K
  refine done_ (by kernel_rfl) ?_
  have hat2 : ((W1.drew.alloc (.cells zeroS.cells 84)).setRow W1.drew.heap.size (bts x0).toArray).heap[W1.heap.size]? = some (.cells (bts x0).toArray 84 (0, 0)) := setRow_heap _ _ _ _ _ _ (blk_new W1.drew _)
  have hbx2 : ((W1.drew.alloc (.cells zeroS.cells 84)).setRow W1.drew.heap.size (bts x0).toArray).heap[W.heap.size]? = some (.cells #[.int .i64 (n : Int)] 3 (0, 0)) := (setRow_other _ _ _ _ (by show W.heap.size ≠ W1.heap.size; have := HSZ1.out; omega)).trans (blk_alloc (w := W1.drew) HBX.out _)
  have hkp2 : Kp (fun k => W.heap.size ≤ k) W ((W1.drew.alloc (.cells zeroS.cells 84)).setRow W1.drew.heap.size (bts x0).toArray) := (Kp.of_below (below_alloc (below_drew HB.out) _)).setRow (.inl (by show W.heap.size ≤ W1.heap.size; have := HSZ1.out; omega)) _
  have hsz2 : ((W1.drew.alloc (.cells zeroS.cells 84)).setRow W1.drew.heap.size (bts x0).toArray).heap.size = W.heap.size + 2 := by rw [setRow_size, World.size_alloc]; show W1.heap.size + 1 = _; have := HSZ1.out; omega
  have e7 : W1.drew.heap.size = W.heap.size + 1 := HSZ1.out
  have e7' : W1.heap.size = W.heap.size + 1 := HSZ1.out
  rw [e7] at hat2 hbx2 hkp2 hsz2 ⊢
  rw [e7'] at hat2
  clear e7 e7' HF HW HD HB HBX HSZ1
  generalize ((W1.drew.alloc (.cells zeroS.cells 84)).setRow (W.heap.size + 1) (bts x0).toArray) = W2 at *
  have HW2 := Aside0.mk (And.intro hat2 (And.intro hbx2 (And.intro hkp2 hsz2)))
  clear hat2 hbx2 hkp2 hsz2
  refine normal_of ?_
  go_wp2_with (first | (go_at_call 37; refine (all_calls g _).mono ?_; rintro e w7 ⟨rfl, hw7⟩; obtain rfl := hw7.symm))
  refine (wpIn_wide (n := 6)).1 ?_
  obtain ⟨W0, hW0⟩ : ∃ W0, (W2.alloc (.cells #[.pointer (some ⟨g, 0, none⟩)] 27)) = W0 := ⟨_, rfl⟩
  have hs2 : W2.heap.size = W.heap.size + 2 := HW2.out.2.2.2
  have hsz : W0.heap.size = W.heap.size + 3 := by rw [← hW0]; simp; omega
  have hk2 : Kp (fun k => W.heap.size ≤ k) W W0 := by rw [← hW0]; exact HW2.out.2.2.1.trans (Kp.of_below (F := fun _ => False) (below_alloc (Below.refl _ _) _)) (fun q _ hq => hq.elim)
  have hB0 : Below W.heap.size W W0 := hk2.below (Nat.le_refl _) (fun k hk h => by omega)
  have hI0 : RdI d n W (W.heap.size + 1) [] W0 := by
    rw [← hW0]
    refine ⟨blk_alloc HW2.out.2.1 _, ?_, by rw [hW0]; exact hk2, by rw [hW0, hsz]; omega⟩
    rw [show told d n (([] : List (Fin d.waits.length)).map fun k => d.waits[k.val]) = x0 from HX0.out]
    exact blk_alloc HW2.out.1 _
  have hbox0 : W0.cell? ⟨W2.heap.size, 0, none⟩ = some (.pointer (some ⟨g, 0, none⟩)) := by
    rw [← hW0]
    exact (blk_cell (blk_new W2 _) 0).trans rfl
  have hM0 := HM.out.below hB0
  have hwv0 := hM0.cells.2.1
  have hR0 := Kd.R_tight rfl hM0.waits
  have hown0 : ∀ k, some k = wv.ownBlock → k < W.heap.size := fun k hk => Kd.R_lt HM.out.waits k hk.symm
  obtain ⟨A, c, hwe⟩ := Kd.R_slice hR0
  rw [List.length_map] at hwe
  subst hwe
  rw [hW0]
  have HSZ := Aside0.mk (And.intro hsz hs2)
  have HZW := Aside0.mk zero_W
  have HOWN := Aside0.mk hown0
  clear hB0 hW0 hHeld
  refine wpIn_rangeFunc_ownH (by rfl) (by omega) (gf := 52) (lb := #[.pointer (some ⟨W2.heap.size, 0, none⟩)]) rfl trivial HE.out
    (all_stops Fence.wide 5 trivial rfl (by omega) W2.heap.size g c A d.waits W0 HN.out.1 hR0 hbox0 hwv0 (Kp (fun k => W.heap.size ≤ k)) (fun X Y hX hk => ⟨hk.size, fun k hk' => hk.block k (by have := HOWN.out k hk'; omega) (by have := HOWN.out k hk'; omega)⟩))
    (fun h k => h.trans k (fun _ _ hq => hq)) (fun V l o o' hl hV _ _ => Kp.of_grown (grownBy_putObj' V l o') (fun q hq => by injection hq with hq; subst hq; show _ ≤ _; omega)) (Below.refl _ _) (fun _ => rfl)
    (RdI d n W (W.heap.size + 1)) (fun _ _ _ => False) (RdI.own (by omega) _ (by omega)) (fun _ _ _ _ _ hs _ _ => hs) hI0
    (fun x a' V => ∃ b, a' = { tmps := #[.pointer (some ⟨g, 0, none⟩), .int .i64 (n : Int), undef, .pointer (some ⟨W.heap.size, 0, none⟩), .slice none 0 0, .int .i64 0, .int .i64 0, .pointer (some ⟨W.heap.size + 1, 0, none⟩), undef, .pointer (some ⟨b, 0, none⟩), .pointer (some ⟨g, 0, none⟩), .int .i64 (n : Int), .int .i64 0, .int .i64 0, .bool false, undef, .pointer (some ⟨g, 0, none⟩), .bool false, .pointer (some ⟨g, 0, none⟩), .pointer (some ⟨g, 0, none⟩), .pointer (some ⟨g, 0, none⟩), .slice (some ⟨gl, 0, none⟩) d.lies.length cl, .int .i64 (n : Int), .pointer (some ⟨gl, n * 64, none⟩), .agg (bts x0).toArray, .pointer (some ⟨g, 0, none⟩),
      .func (.func 52) #[] #[.pointer (some ⟨W2.heap.size, 0, none⟩)], .int .i64 ((x.val : Nat) : Int), .agg (wcells d.waits[x.val]).toArray, undef, undef, undef, undef, undef, undef, undef, undef, undef], defers := [] } ∧ V.heap[b]? = some (.cells (wcells d.waits[x.val]).toArray 89 (0, 0)) ∧ W0.heap.size ≤ b)
    ?hAx ?assign ?body ?done ?stop
  case hAx =>
    rintro x a' _ V V' row ⟨b, e, hb, hbB⟩ hg hr
    exact ⟨b, e, blk_grown hb hg (fun he => by
      obtain ⟨_, o, ho, hc⟩ := hr b he.symm
      rw [hb] at ho
      injection ho with ho
      subst ho
      cases hc), hbB⟩
  case assign =>
    intro l pre x V K hI hK
    have hxl : (d.waits[x.val]).2.length = 64 := (HM.out.ok.waits _ (List.getElem_mem x.isLt)).2
    have HST := Aside0.mk (store_wrt V (d.waits[x.val]) hxl)
    clear hxl
    simp only [encWt, List.zip_toArray, List.zip_cons_cons, List.zip_nil_right, List.foldl_toArray, List.foldl_cons, List.foldl_nil, List.setIfInBounds_toArray, List.set_cons_succ, List.set_cons_zero]
    refine wpIn_region_lit ?_
    refine wpListIn_exec rfl rfl (exec_alloc 89 zeroW rfl (HZW.out _)) ?_
    refine wpListIn_exec_skip rfl rfl rfl (exec_store 89 _ _ (.pointer (some ⟨V.heap.size, 0, none⟩)) (.agg (wcells d.waits[x.val]).toArray) rfl rfl rfl HST.out) ?_
    have hb1 := below_alloc (Below.refl V.heap.size V) (.cells (wcells d.waits[x.val]).toArray 89)
    have hg1 := World.grownBy_alloc V (.cells (wcells d.waits[x.val]).toArray 89) none
    exact hK _ _ (KeepsFrom.of_grownBy hg1 (fun j e => by cases e)) (Kp.of_below hb1) (RdI.own (by omega) (W.heap.size + 2) (by omega) pre V _ none hI hg1 (fun r e => by cases e)) ⟨V.heap.size, rfl, blk_new V _, by have := hI.sz; have := HSZ.out.1; omega⟩
  case body =>
    rintro l pre x a' V hl hr hI ⟨b, rfl, hb, hbB⟩ hpl
    have hw := HM.out.ok.waits _ (List.getElem_mem x.isLt)
    obtain ⟨wi, wb, hwe⟩ : ∃ wi wb, d.waits[x.val] = (wi, wb) := ⟨_, _, rfl⟩
    rw [hwe] at hw hb
    have hc1 : V.cell? ⟨W.heap.size, 0, none⟩ = some (.int .i64 (n : Int)) := (blk_cell hI.box 0).trans rfl
    have hc3 : V.cell? ⟨b, 0, none⟩ = some (.int .i64 (wi : Int)) := (blk_cell hb 0).trans rfl
    have hc4 : (Instr.loadAt 84 (.pointer (some ⟨b, 1, none⟩))).run Tryd.prog V = .ok (.agg (bts wb).toArray) V := load_bts _ _ wb hw.2 (fun i u hu => by
      rw [Addr.add_mid, blk_cell hb (1 + i), Nat.add_comm]
      simpa [wcells] using hu)
    have hlt := wcells_length (wi, wb) hw.2
    have hst := store_sec V (W.heap.size + 1) _ _ wb hI.at_ (by rw [List.size_toArray, bts_length]; exact told_len HM.out.ok HN.out.2 _) hw.2
    have HC4 := Aside0.mk (And.intro hc4 hst)
    have HW := Aside0.mk (And.intro hw hwe)
    have HI := Aside0.mk hI
    clear hw hI hb hbB hwe hc4 hst hlt
    by_cases hin : wi = n
    · have e1 : ((wi : Int) == (n : Int)) = true := by rw [hin]; simp
      have HIN := Aside0.mk hin
      clear hin
      gi_wp2_with (first
        | ((with_reducible refine gateIn_ (.load 84 (.tmp 33)) rfl ?_); refine wpListIn_exec rfl rfl (exec_load 84 _ (.pointer (some ⟨b, 1, none⟩)) _ rfl rfl HC4.out.1) ?_)
        | ((with_reducible refine gateIn_ (.store 84 (.tmp 7) (.tmp 34)) rfl ?_); refine wpListIn_exec_skip rfl rfl rfl (exec_store 84 _ _ (.pointer (some ⟨W.heap.size + 1, 0, none⟩)) (.agg (bts wb).toArray) rfl rfl rfl HC4.out.2) ?_))
      have hg : V.grownBy (V.setRow (W.heap.size + 1) (bts wb).toArray) (some (W.heap.size + 1)) := ⟨rfl, rfl, rfl, by rw [setRow_size]; exact Nat.le_refl _, fun k hlt hne => setRow_other _ _ _ _ (fun e => hne (by rw [e]))⟩
      have hk := (Kp.refl (fun k => W.heap.size ≤ k) V).setRow (b := W.heap.size + 1) (.inl (by omega)) (bts wb).toArray
      refine ⟨KeepsFrom.of_grownBy hg (fun j e => by cases e; omega), hk, ?_, ?_, HI.out.kp.trans hk (fun q _ hq => hq), by rw [setRow_size]; exact HI.out.sz⟩
      · exact (setRow_other _ _ _ _ (by omega)).trans HI.out.box
      · rw [List.map_append, List.map_singleton, told_snoc, HW.out.2, if_pos HIN.out]
        exact setRow_heap _ _ _ _ _ _ HI.out.at_
    · have e1 : ((wi : Int) == (n : Int)) = false := by rw [beq_eq_false_iff_ne]; omega
      have HIN := Aside0.mk hin
      clear hin
      gi_wp2
      refine ⟨KeepsFrom.refl _ _, Kp.refl _ _, HI.out.box, ?_, HI.out.kp, HI.out.sz⟩
      rw [List.map_append, List.map_singleton, told_snoc, HW.out.2, if_neg HIN.out]
      exact HI.out.at_
  case done =>
    rintro D ys V hD rfl hI hK
    have hat := hI.at_
    have e0 : told d n ((allW d.waits).map fun k => d.waits[k.val]) = latest d n := by rw [allW_map]; rfl
    have hl0 : (latest d n).length = 64 := by rw [← e0]; exact told_len HM.out.ok HN.out.2 _
    rw [e0] at hat
    generalize latest d n = xs at *
    have HI := Aside0.mk hI
    have HAT := Aside0.mk hat
    have HL := Aside0.mk hl0
    have HD := Aside0.mk (And.intro hK hD)
    clear hI hat hl0 hK hD e0
    go_wp2_with (first | ((with_reducible refine gate_builtin (b := .append) (xs := #[.tmp 35, .tmp 36]) rfl ?_); refine of_halt ?_))
    unfold Halt
    have hBV : Below W.heap.size W (V.alloc (.cells #[] 5)) := (HI.out.kp.trans (Kp.of_below (F := fun _ => False) (below_alloc (Below.refl _ _) _)) (fun q _ hq => hq.elim)).below (Nat.le_refl _) (fun k hk h => by omega)
    have hHO : (V.alloc (.cells #[] 5)).ownsRow W.heap.size 5 1 (.slice (some ⟨V.heap.size, 0, none⟩) 0 0) ([] : List Int).length (nums .u8 []) := World.ownsRow_lit (base := W.heap.size) (e := 5) (size := 1) V #[] 0 HI.out.kp.size (by simp [maxLen]) rfl
    have hat := blk_alloc HAT.out (.cells #[] 5)
    have hHR : ReadsInt (V.alloc (.cells #[] 5)) .u8 (some ⟨W.heap.size + 1, 0, none⟩) 64 xs := ⟨HL.out, by omega, fun _ => ⟨_, rfl, fun j hj => by
      rw [add_plain, blk_cell hat j]
      have hj' : j < xs.length := by have := HL.out; omega
      simp [bts, List.getElem?_eq_getElem hj', List.getD_eq_getElem?_getD]⟩⟩
    have info5 : (Tryd.prog.info? 5).map (fun i => (i.zero, i.size, i.bytes)) = some (some (.int .u8 0), 1, 1) := by kernel_rfl
    refine print_append_row (w0 := W) W.heap.size rfl (.tmp 35) (.tmp 36) 22 5 .u8 1 rfl Tryd.underlying22 info5 (by decide) (.slice (some ⟨V.heap.size, 0, none⟩) 0 0) [] xs (some ⟨W.heap.size + 1, 0, none⟩) 64 64 rfl rfl hHO hHR hBV (by have := HI.out.kp.size; rw [World.size_alloc]; omega) (by simp) ?_
    intro v1 w1 hown hb1 hg1 hat1
    have hDV := blk_lt HD.out.1
    have hK1 : w1.heap[D]? = some (.deferred (some [])) := blk_grown (blk_alloc HD.out.1 _) hg1 (fun e => by simp [Value.ownBlock] at e; omega)
    have HK1 := Aside0.mk hK1
    have HO1 := Aside0.mk hown
    have HB1 := Aside0.mk hb1
    clear hg1 hat1 hK1 hown hb1 hHR hHO hBV hat
    go_wp2
    refine ⟨by simp, .inl ⟨_, _, rfl, run_takeDeferred HK1.out, ?_⟩⟩
    refine ⟨_, results_tmp2 rfl _ _ _, v1, rfl, ?_, ?_⟩
    · have hR : Kd.R (Kd.int .u8) 5 w1 W.heap.size (fun k => some k = v1.ownBlock) v1 xs := by
        have h2 := HO1.out
        rw [List.nil_append] at h2
        exact Kd.R_of_own (enc := Value.int .u8) (h1 := fun _ => rfl) h2 (fun k hk => hk.symm)
      exact Kd.R_mono (Kd.R_grown hR (grownBy_putObj' w1 D (.deferred none)) (fun k hk e => by
        injection e with e
        subst e
        obtain ⟨cells, hc⟩ := Kd.R_typed hR k hk.symm
        rw [HK1.out] at hc
        cases hc)) (fun _ _ => trivial)
    · exact HB1.out.trans (Kp.below (Kp.of_grown (F := fun k => k = D) (grownBy_putObj' w1 D (.deferred none)) (fun q hq => by injection hq with hq; exact hq.symm)) HB1.out.size (fun k hk e => by have := HD.out.2; omega))
  case stop =>
    rintro D c pre V _ _ h _
    exact h.elim
end Go.Proofs.YthpholjelfajiaaDoor.G
/- The disk: Waits. By hand. -/
namespace Go.Proofs.YthpholjelfajiaaDoor.G
open Go.RowKit Go.Shelf Go.Proofs.YthpholjelfajiaaDoorW.PrintWords Go.Proofs.YthpholjelfajiaaDoorW.PrintLast Go.Proofs.YthpholjelfajiaaDoorW.PrintMore Go.Proofs.YthpholjelfajiaaDoor.Dsk
set_option linter.unusedVariables false
set_option linter.unusedSimpArgs false
attribute [local go_sem] Oper.semAt_some
def nosOf (d : Dk) (pre : List (Fin d.waits.length)) : List Int := pre.map fun k => ((d.waits[k.val].1 : Nat) : Int)
structure WtI (d : Dk) (W : World) (pre : List (Fin d.waits.length)) (V : World) : Prop where
  row : ∃ v, V.heap[W.heap.size]? = some (.cells #[v] 23 (0, 0)) ∧ Kd.R (Kd.int .i64) 3 V W.heap.size (fun _ => True) v (nosOf d pre)
  kp : Kp (fun k => W.heap.size ≤ k) W V
  sz : W.heap.size + 2 ≤ V.heap.size
theorem WtI.own {d : Dk} {W : World} (B : Nat) (hB : W.heap.size < B) : OwnFrom B (WtI d W) := by
  intro s A V row hs hg hr
  have hne : ∀ k, k < B → some k ≠ row := fun k hk e => by have := (hr k e.symm).1; omega
  obtain ⟨v, hv, hR⟩ := hs.row
  refine ⟨⟨v, blk_grown hv hg (hne _ hB), ?_⟩, hs.kp.trans (Kp.of_grown (F := fun k => B ≤ k) hg (fun q hq => (hr q hq).1)) (fun q _ hq => by show _ ≤ _; omega), Nat.le_trans hs.sz hg.size⟩
  refine Kd.R_mono (Kd.R_grown (Kd.R_tight rfl hR) hg (fun k hk e => ?_)) (fun _ _ => trivial)
  obtain ⟨_, o, ho, hc⟩ := hr k e.symm
  obtain ⟨cells, hh⟩ := Kd.R_typed hR k hk.symm
  rw [hh] at ho
  injection ho with ho
  subst ho
  cases hc
def WtPost (xs : List Int) (W : World) (e : Ending) (w' : World) : Prop := ∃ v, e = .returned v ∧ Kd.R (Kd.int .i64) 3 w' W.heap.size (fun _ => True) v xs ∧ Below W.heap.size W w'
set_option maxHeartbeats 16000000 in
set_option maxRecDepth 100000 in
theorem Waits_calls (F : Nat → Prop) (g gl cl : Nat) (d : Dk) (wv : Value) (W : World) (h : Mem F g gl cl d wv W) (hwl : d.waits.length < 1000000000) :
    Calls Tryd.prog 60 #[.pointer (some ⟨g, 0, none⟩)] W (WtPost (d.waits.map fun w => ((w.1 : Nat) : Int)) W) := by
  have HM := Aside0.mk h
  have HN := Aside0.mk hwl
  have eg : ∀ args w, (callFunc 52 args).run Tryd.prog w = .ok (.enter 52 args) w := fun args w => by first | rfl | simp [callFunc]
  have HE := Aside0.mk eg
  clear h hwl eg
  refine (callsIn_wide (n := 6)).1 ?_
  refine callsIn_of_wp_marks Tryd.func60 rfl trivial ?_ rfl
  simp only [Tryd.ntmps60, List.size_toArray, List.length_cons, List.length_nil, Nat.reduceAdd, Nat.reduceSub, Array.replicate_succ, Array.replicate_zero, List.push_toArray, List.append_toArray, List.nil_append, List.cons_append]
  refine wpIn_wide.2 ?_
  go_wp2_with (first | (go_at_call 37; refine (all_calls g _).mono ?_; rintro e w7 ⟨rfl, hw7⟩; obtain rfl := hw7.symm))
  refine (wpIn_wide (n := 6)).1 ?_
  obtain ⟨W2, hW2⟩ : ∃ W2, (W.alloc (.cells #[.slice none 0 0] 23)) = W2 := ⟨_, rfl⟩
  obtain ⟨W0, hW0⟩ : ∃ W0, (W2.alloc (.cells #[.pointer (some ⟨g, 0, none⟩)] 27)) = W0 := ⟨_, rfl⟩
  have hs2 : W2.heap.size = W.heap.size + 1 := by rw [← hW2]; simp
  have hsz : W0.heap.size = W.heap.size + 2 := by rw [← hW0]; simp; omega
  have hB0 : Below W.heap.size W W0 := by rw [← hW0, ← hW2]; exact below_alloc (below_alloc (Below.refl _ _) _) _
  have hI0 : WtI d W [] W0 := by
    refine ⟨⟨.slice none 0 0, ?_, Kd.R_nil _ _ _ _ _⟩, Kp.of_below hB0, by rw [hsz]; omega⟩
    rw [← hW0, ← hW2]
    exact blk_alloc (blk_new _ _) _
  have hbox0 : W0.cell? ⟨W.heap.size + 1, 0, none⟩ = some (.pointer (some ⟨g, 0, none⟩)) := by
    rw [← hW0, ← hs2]
    exact (blk_cell (blk_new W2 _) 0).trans rfl
  have hM0 := HM.out.below hB0
  have hwv0 := hM0.cells.2.1
  have hR0 := Kd.R_tight rfl hM0.waits
  have hown0 : ∀ k, some k = wv.ownBlock → k < W.heap.size := fun k hk => Kd.R_lt HM.out.waits k hk.symm
  obtain ⟨A, c, hwe⟩ := Kd.R_slice hR0
  rw [List.length_map] at hwe
  subst hwe
  rw [hW2, hW0]
  have HSZ := Aside0.mk (And.intro hsz hs2)
  have HZW := Aside0.mk zero_W
  have HOWN := Aside0.mk hown0
  clear hB0 hW0 hW2
  refine wpIn_rangeFunc_ownH (by rfl) (by omega) (gf := 52) (lb := #[.pointer (some ⟨W.heap.size + 1, 0, none⟩)]) rfl trivial HE.out
    (all_stops Fence.wide 5 trivial rfl (by omega) (W.heap.size + 1) g c A d.waits W0 (by have := HN.out; omega) hR0 hbox0 hwv0 (Kp (fun k => W.heap.size ≤ k)) (fun X Y hX hk => ⟨hk.size, fun k hk' => hk.block k (by have := HOWN.out k hk'; omega) (by have := HOWN.out k hk'; omega)⟩))
    (fun h k => h.trans k (fun _ _ hq => hq)) (fun V l o o' hl hV _ _ => Kp.of_grown (grownBy_putObj' V l o') (fun q hq => by injection hq with hq; subst hq; show _ ≤ _; omega)) (Below.refl _ _) (fun _ => rfl)
    (WtI d W) (fun _ _ _ => False) (WtI.own _ (by omega)) (fun _ _ _ _ _ hs _ _ => hs) hI0
    (fun x a' V => ∃ b, a' = { tmps := #[.pointer (some ⟨g, 0, none⟩), undef, .slice none 0 0, .pointer (some ⟨W.heap.size, 0, none⟩), undef, .pointer (some ⟨b, 0, none⟩), .pointer (some ⟨g, 0, none⟩), .bool false, .pointer (some ⟨g, 0, none⟩), .func (.func 52) #[] #[.pointer (some ⟨W.heap.size + 1, 0, none⟩)], .int .i64 ((x.val : Nat) : Int), .agg (wcells d.waits[x.val]).toArray, undef, undef, undef, undef, undef, undef], defers := [] } ∧ V.heap[b]? = some (.cells (wcells d.waits[x.val]).toArray 89 (0, 0)) ∧ W0.heap.size ≤ b)
    ?hAx ?assign ?body ?done ?stop
  case hAx =>
    rintro x a' _ V V' row ⟨b, e, hb, hbB⟩ hg hr
    exact ⟨b, e, blk_grown hb hg (fun he => by
      obtain ⟨_, o, ho, hc⟩ := hr b he.symm
      rw [hb] at ho
      injection ho with ho
      subst ho
      cases hc), hbB⟩
  case assign =>
    intro l pre x V K hI hK
    have hxl : (d.waits[x.val]).2.length = 64 := (HM.out.ok.waits _ (List.getElem_mem x.isLt)).2
    have HST := Aside0.mk (store_wrt V (d.waits[x.val]) hxl)
    clear hxl
    simp only [encWt, List.zip_toArray, List.zip_cons_cons, List.zip_nil_right, List.foldl_toArray, List.foldl_cons, List.foldl_nil, List.setIfInBounds_toArray, List.set_cons_succ, List.set_cons_zero]
    refine wpIn_region_lit ?_
    refine wpListIn_exec rfl rfl (exec_alloc 89 zeroW rfl (HZW.out _)) ?_
    refine wpListIn_exec_skip rfl rfl rfl (exec_store 89 _ _ (.pointer (some ⟨V.heap.size, 0, none⟩)) (.agg (wcells d.waits[x.val]).toArray) rfl rfl rfl HST.out) ?_
    have hb1 := below_alloc (Below.refl V.heap.size V) (.cells (wcells d.waits[x.val]).toArray 89)
    have hg1 := World.grownBy_alloc V (.cells (wcells d.waits[x.val]).toArray 89) none
    exact hK _ _ (KeepsFrom.of_grownBy hg1 (fun j e => by cases e)) (Kp.of_below hb1) (WtI.own (W.heap.size + 2) (by omega) pre V _ none hI hg1 (fun r e => by cases e)) ⟨V.heap.size, rfl, blk_new V _, by have := hI.sz; have := HSZ.out.1; omega⟩
  case body =>
    rintro l pre x a' V hl hr hI ⟨b, rfl, hb, hbB⟩ hpl
    obtain ⟨wi, wb, hwe⟩ : ∃ wi wb, d.waits[x.val] = (wi, wb) := ⟨_, _, rfl⟩
    rw [hwe] at hb
    obtain ⟨v, hv, hR⟩ := hI.row
    obtain ⟨A1, c1, hvv⟩ := Kd.R_slice hR
    subst hvv
    have hc1 : V.cell? ⟨W.heap.size, 0, none⟩ = some (.slice A1 (nosOf d pre).length c1) := (blk_cell hv 0).trans rfl
    have hc3 : V.cell? ⟨b, 0, none⟩ = some (.int .i64 (wi : Int)) := (blk_cell hb 0).trans rfl
    have info3 : (Tryd.prog.info? 3).map (fun i => (i.zero, i.size, i.bytes)) = some (some (.int .i64 0), 1, 8) := by kernel_rfl
    have hn : nosOf d (pre ++ [x]) = nosOf d pre ++ [(wi : Int)] := by simp [nosOf, hwe]
    have hpn : (nosOf d pre).length < 1000000000 := by simp [nosOf]; have := HN.out; omega
    generalize hzs : nosOf d pre = zs at *
    obtain ⟨L0, hL0⟩ : ∃ L0, zs.length = L0 := ⟨_, rfl⟩
    have hBV : Below W.heap.size W V := hI.kp.below (Nat.le_refl _) (fun k hk h => by omega)
    have HI := Aside0.mk hI
    have HV := Aside0.mk (And.intro hv (And.intro hR (And.intro hpn (And.intro hn hBV))))
    clear hwe hb hbB hI hv hR hpn hn hBV hzs
    refine wpIn_block ?_
    refine plainIn_ (by rintro ⟨_, _, hh⟩; exact hh) rfl ?_
    simp only [List.toList_toArray]
    go_wp2_with (first | ((with_reducible refine gate_builtin (b := .append) (xs := #[.tmp 12, .tmp 15]) rfl ?_); refine of_halt ?_))
    unfold Halt
    have hR1 : Kd.R (Kd.int .i64) 3 V W.heap.size (fun k => True ∧ k ≠ W.heap.size) (.slice A1 L0 c1) zs := by
      have := Kd.R_types HV.out.2.1 HV.out.1 (by decide)
      rwa [hL0] at this
    refine Kd.R_append (Kd.int .i64) (w0 := W) (W := V) W.heap.size rfl (.tmp 12) (.tmp 15) 23 3 (.int .i64 0) 8 rfl Tryd.underlying23 info3 rfl (by decide) (by decide) (.slice A1 L0 c1) zs (wi : Int) [.int .i64 (wi : Int)] (fun k => True ∧ k ≠ W.heap.size) (fun _ => False) rfl rfl rfl (fun _ hk => hk.elim) (fun k hk => ⟨trivial, by have := HI.out.sz; omega⟩) hR1 HV.out.2.2.2.2 HI.out.kp.size (by have := HV.out.2.2.1; omega) ?_
    intro v1 w1 ho1 hb1 hg1 hat1
    obtain ⟨A2, c2, hv2⟩ := Kd.R_slice ho1
    obtain ⟨L2, hL2⟩ : ∃ L2, (zs ++ [(wi : Int)]).length = L2 := ⟨_, rfl⟩
    rw [hL2] at hv2
    subst hv2
    have hvw : w1.heap[W.heap.size]? = some (.cells #[.slice A1 zs.length c1] 23 (0, 0)) := blk_grown HV.out.1 hg1 (fun e => (hR1.1 _ e.symm).2 rfl)
    have hd1 : w1.cell? ⟨W.heap.size, 0, none⟩ = some (.slice A1 zs.length c1) := (blk_cell hvw 0).trans rfl
    have hz1 := blk_frozen hvw 0
    have hkf : KeepsFrom W0.heap.size V w1 := ⟨hg1.size, fun k o hB hk ho => (hg1.block k (blk_lt hk) (fun e => by
      obtain ⟨cells, hh⟩ := Kd.R_typed hR1 k e.symm
      rw [hk] at hh
      injection hh with hh
      subst hh
      cases ho)).trans hk⟩
    have hkp : Kp (fun k => W.heap.size ≤ k) V w1 := Kp.of_grown hg1 (fun q hq => Kd.R_base hR1 q hq)
    have HW1 := Aside0.mk (And.intro ho1 (And.intro hvw (And.intro hkf hkp)))
    clear ho1 hb1 hg1 hat1 hvw hkf hkp hR1
    go_wp2
    have hkp2 := HW1.out.2.2.2.set (p := ⟨W.heap.size, 0, none⟩) (.inl (Nat.le_refl _)) (.slice A2 L2 c2)
    refine ⟨HW1.out.2.2.1.trans ((KeepsOthers.setCell _ _ _).from _), hkp2, ⟨.slice A2 L2 c2, blk_put HW1.out.2.1 0 _ rfl, ?_⟩, HI.out.kp.trans hkp2 (fun q _ hq => hq), Nat.le_trans HI.out.sz hkp2.size⟩
    rw [HV.out.2.2.2.1]
    exact Kd.R_mono (Kd.R_far HW1.out.1 (p := ⟨W.heap.size, 0, none⟩) (fun k hk => hk.2) _) (fun _ _ => trivial)
  case done =>
    rintro D ys V hD rfl hI hK
    obtain ⟨v, hv, hR⟩ := hI.row
    have e0 : nosOf d (allW d.waits) = d.waits.map fun w => ((w.1 : Nat) : Int) := by
      have := congrArg (List.map fun w : Nat × List Int => ((w.1 : Nat) : Int)) (allW_map d.waits)
      rw [List.map_map] at this
      exact this
    rw [e0] at hR
    have hc1 : V.cell? ⟨W.heap.size, 0, none⟩ = some v := (blk_cell hv 0).trans rfl
    have HR := Aside0.mk hR
    have HI := Aside0.mk hI
    clear hR hv hI e0
    go_wp2
    refine ⟨by simp, .inl ⟨_, _, rfl, run_takeDeferred hK, ?_⟩⟩
    refine ⟨_, results_tmp rfl _ _ _, v, rfl, ?_, ?_⟩
    · exact Kd.R_mono (Kd.R_grown (Kd.R_tight rfl HR.out) (grownBy_putObj' V D (.deferred none)) (fun k hk e => by
        injection e with e
        subst e
        obtain ⟨cells, hc⟩ := Kd.R_typed HR.out k hk.symm
        rw [hK] at hc
        cases hc)) (fun _ _ => trivial)
    · exact (HI.out.kp.below (Nat.le_refl _) (fun k hk h => by omega)).trans (Kp.below (Kp.of_grown (F := fun k => k = D) (grownBy_putObj' V D (.deferred none)) (fun q hq => by injection hq with hq; exact hq.symm)) HI.out.kp.size (fun k hk e => by omega))
  case stop =>
    rintro D c pre V _ _ h _
    exact h.elim
end Go.Proofs.YthpholjelfajiaaDoor.G
/- The disk: Crash. By hand. -/
namespace Go.Proofs.YthpholjelfajiaaDoor.G
open Go.RowKit Go.Shelf Go.Proofs.YthpholjelfajiaaDoorW.PrintWords Go.Proofs.YthpholjelfajiaaDoorW.PrintLast Go.Proofs.YthpholjelfajiaaDoorW.PrintMore Go.Proofs.YthpholjelfajiaaDoor.Dsk
set_option linter.unusedVariables false
set_option linter.unusedSimpArgs false
attribute [local go_sem] Oper.semAt_some
/-- What lies on the disk behind the crash, so many writes having been gone through. -/
def crStep (d : Dk) (ks : List Int) (l : List (List Int)) (k : Fin d.waits.length) : List (List Int) := if k.val < ks.length then torn l d.waits[k.val] (clamp (ks.getD k.val 0)) else l
def crL (d : Dk) (ks : List Int) (pre : List (Fin d.waits.length)) : List (List Int) := pre.foldl (crStep d ks) d.lies
theorem crL_snoc (d : Dk) (ks : List Int) (pre : List (Fin d.waits.length)) (k : Fin d.waits.length) : crL d ks (pre ++ [k]) = crStep d ks (crL d ks pre) k := by simp [crL]
theorem crL_ok {d : Dk} (h : Ok d) (ks : List Int) : ∀ pre : List (Fin d.waits.length), (crL d ks pre).length = d.lies.length ∧ ∀ b ∈ crL d ks pre, b.length = 64 := by
  have key : ∀ (pre : List (Fin d.waits.length)) (l : List (List Int)), l.length = d.lies.length → (∀ b ∈ l, b.length = 64) → (pre.foldl (crStep d ks) l).length = d.lies.length ∧ ∀ b ∈ pre.foldl (crStep d ks) l, b.length = 64 := by
    intro pre
    induction pre with
    | nil => intro l h1 h2; exact ⟨h1, h2⟩
    | cons k pre ih =>
      intro l h1 h2
      rw [List.foldl_cons]
      have hw := h.waits _ (List.getElem_mem k.isLt)
      unfold crStep
      split
      · exact ih _ (by rw [torn_len, h1]) (torn_ok h2 _ ⟨by rw [h1]; exact hw.1, hw.2⟩ (clamp_le _))
      · exact ih _ h1 h2
  exact fun pre => key pre d.lies rfl h.lies
theorem crL_all (d : Dk) (ks : List Int) : crL d ks (allW d.waits) = crashL d.lies d.waits ks := by
  have key : ∀ (n : Nat) (hn : n ≤ d.waits.length) (l : List (List Int)), ((allW d.waits).drop (d.waits.length - n)).foldl (crStep d ks) l = crashL l (d.waits.drop (d.waits.length - n)) (ks.drop (d.waits.length - n)) := by
    intro n
    induction n with
    | zero =>
      intro _ l
      rw [Nat.sub_zero, List.drop_eq_nil_of_le (by simp [allW]), List.drop_eq_nil_of_le (Nat.le_refl _)]
      cases ks.drop d.waits.length <;> rfl
    | succ n ih =>
      intro hn l
      obtain ⟨j, hj⟩ : ∃ j, d.waits.length - (n + 1) = j := ⟨_, rfl⟩
      have hj1 : d.waits.length - n = j + 1 := by omega
      have hjl : j < d.waits.length := by omega
      have ih' := fun l => ih (by omega) l
      rw [hj1] at ih'
      rw [hj, List.drop_eq_getElem_cons (l := allW d.waits) (i := j) (by simp [allW]; exact hjl), List.drop_eq_getElem_cons (l := d.waits) hjl, List.foldl_cons, ih']
      have e : (allW d.waits)[j]'(by simp [allW]; exact hjl) = ⟨j, hjl⟩ := by simp [allW]
      rw [e]
      unfold crStep
      simp only
      by_cases hk : j < ks.length
      · rw [if_pos hk, List.drop_eq_getElem_cons (l := ks) hk, show ks.getD j 0 = ks[j] by simp [List.getD_eq_getElem?_getD, hk]]
        rfl
      · have hk' : ks.length ≤ j := Nat.le_of_not_lt hk
        rw [if_neg hk, List.drop_eq_nil_of_le (show ks.length ≤ j + 1 by omega), List.drop_eq_nil_of_le (show ks.length ≤ j from hk')]
        cases d.waits.drop (j + 1) <;> rfl
  have := key d.waits.length (Nat.le_refl _) d.lies
  simpa [crL] using this
theorem mx_clamp (k : Int) : mx 0 (mn k 64) = (clamp k : Int) := by
  unfold mx mn clamp
  split <;> split <;> omega
theorem Mem.putTorn {F : Nat → Prop} {g gl cl : Nat} {d : Dk} {wv : Value} {W : World} (h : Mem F g gl cl d wv W) (i : Nat) (b : List Int) (c : Nat) (hi : i < d.lies.length) (hb : b.length = 64) (hc : c ≤ 64) :
    Mem F g gl cl ⟨torn d.lies (i, b) c, d.waits, d.steps, d.left⟩ wv (W.setCells gl (i * 64) ((bts b).take c)) ∧ Kp (fun k => k = gl) W (W.setCells gl (i * 64) ((bts b).take c)) := by
  obtain ⟨c0, hcl, hcM, hcc, hcf⟩ := Kd.R_elem h.lies [] (i : Int) (by omega) (by omega)
  rw [Int.toNat_natCast] at hcM hcc
  obtain ⟨hx, rfl⟩ := hcM
  have hsl : ((bts b).take c).length = c := by rw [List.length_take, bts_length, hb]; omega
  have hseg := Kd.R_seg (okp := fun _ => False) h.lies (i : Int) (by omega) (by omega) hcl (by rw [Int.toNat_natCast]; exact hcc) (seg := (bts b).take c) (j := 0) (by show 0 + _ ≤ 64; rw [hsl]; omega) (x' := b.take c ++ (d.lies.getD i []).drop c) (by
    show _ ∧ _
    refine ⟨by rw [List.length_append, List.length_take, List.length_drop, hb, hx]; omega, ?_⟩
    rw [List.take_zero, List.nil_append, Nat.zero_add, hsl]
    simp [bts, List.map_take, List.map_drop]) (fun _ hk => hk.elim)
  rw [Int.toNat_natCast, Nat.add_zero] at hseg
  have e : i * secK.sz = i * 64 := rfl
  rw [e] at hseg
  have hkp : Kp (fun k => k = gl) W (W.setCells gl (i * 64) ((bts b).take c)) := Kp.of_grown hseg.2 (fun q hq => by injection hq with hq; exact hq.symm)
  refine ⟨⟨?_, h.fg, h.fl, h.ne, ?_, Kp.R hkp h.waits (fun k hk => hk.2.2), ⟨?_, ?_, ?_⟩⟩, hkp⟩
  · show _ = some (Obj.cells #[.slice (some ⟨gl, 0, none⟩) (torn d.lies (i, b) c).length cl, _, _, _, _] _ _)
    rw [torn_len]
    exact hkp.blk h.blk (fun e => h.ne e.symm)
  · show secK.R _ _ _ _ (.slice _ (torn d.lies (i, b) c).length cl) _
    rw [torn_len]
    exact hseg.1
  · show 0 < (torn d.lies (i, b) c).length
    rw [torn_len]; exact h.ok.some_
  · exact torn_ok h.ok.lies (i, b) ⟨hi, hb⟩ hc
  · intro w hw
    show w.1 < (torn d.lies (i, b) c).length ∧ _
    rw [torn_len]
    exact h.ok.waits w hw
def CrPost (d : Dk) (ks : List Int) (W : World) (e : Ending) (w' : World) : Prop := ∃ g, e = .returned (.tuple #[.pointer (some ⟨g, 0, none⟩), .int .i64 0]) ∧ Dm (fun k => W.heap.size ≤ k) g (crash d ks) w' ∧ Below W.heap.size W w'
structure CrI (d : Dk) (ks : List Int) (A : Option Addr) (m cm : Nat) (W : World) (g2 gl2 cl2 b6 : Nat) (pre : List (Fin d.waits.length)) (V : World) : Prop where
  mem : Mem (fun k => k = g2 ∨ k = gl2) g2 gl2 cl2 ⟨crL d ks pre, [], 0, none⟩ (.slice none 0 0) V
  box : V.heap[W.heap.size]? = some (.cells #[.slice A m cm] 23 (0, 0))
  out : V.heap[b6]? = some (.cells #[.pointer (some ⟨g2, 0, none⟩)] 27 (0, 0))
  kp : Kp (fun k => W.heap.size ≤ k) W V
  sz : b6 + 2 ≤ V.heap.size
theorem CrI.own {d : Dk} {ks : List Int} {A : Option Addr} {m cm : Nat} {W : World} {g2 gl2 cl2 b6 : Nat} (h1 : W.heap.size < b6) (h2 : g2 < b6) (h3 : gl2 < b6) (B : Nat) (hB : b6 < B) : OwnFrom B (CrI d ks A m cm W g2 gl2 cl2 b6) := by
  intro s X V row hs hg hr
  have hne : ∀ k, k < B → some k ≠ row := fun k hk e => by have := (hr k e.symm).1; omega
  exact ⟨hs.mem.move (fun k hk hlt => hg.block k hlt (hne k (by omega))), blk_grown hs.box hg (hne _ (by omega)), blk_grown hs.out hg (hne _ hB), hs.kp.trans (Kp.of_grown (F := fun k => B ≤ k) hg (fun q hq => (hr q hq).1)) (fun q _ hq => by show _ ≤ _; omega), Nat.le_trans hs.sz hg.size⟩
set_option maxHeartbeats 16000000 in
set_option maxRecDepth 100000 in
theorem Crash_calls (F : Nat → Prop) (g gl cl : Nat) (d : Dk) (wv : Value) (ks : List Int) (A : Option Addr) (cm : Nat) (W : World) (h : Mem F g gl cl d wv W) (hwl : d.waits.length < 1000000000) (hsl : d.lies.length < 1000000000) (hK : Kd.C (Kd.int .i64) W A ks.length ks) (hkc : ks.length ≤ cm) :
    Calls Tryd.prog 19 #[.pointer (some ⟨g, 0, none⟩), .slice A ks.length cm] W (CrPost d ks W) := by
  have HM := Aside0.mk h
  have HN := Aside0.mk (And.intro hwl (And.intro hsl hkc))
  have HKC := Aside0.mk hK
  have HB := Aside0.mk (below_alloc (Below.refl W.heap.size W) (.cells #[.slice A ks.length cm] 23))
  have HBX := Aside0.mk (blk_new W (.cells #[.slice A ks.length cm] 23))
  have HSZ1 := Aside0.mk (World.size_alloc W (.cells #[.slice A ks.length cm] 23))
  have HS := Aside0.mk (Sectors_calls F g gl cl d wv _ (h.below HB.out))
  have b0 : ((d.lies.length : Int) == 0) = false := by
    have := h.ok.some_
    rw [Bool.eq_false_iff]
    intro q
    rw [beq_iff_eq] at q
    omega
  have b0' : ((d.lies.length : Int) = 0) = False := eq_false (by have := h.ok.some_; omega)
  have hl0 : ∀ V, Below W.heap.size W V → V.cell? ⟨g, 0, none⟩ = some (.slice (some ⟨gl, 0, none⟩) d.lies.length cl) := fun V hV => (h.below hV).cells.1
  have HL0 := Aside0.mk hl0
  have eg : ∀ args w, (callFunc 52 args).run Tryd.prog w = .ok (.enter 52 args) w := fun args w => by first | rfl | simp [callFunc]
  have HE := Aside0.mk eg
  clear h hwl hsl hK hkc hl0 eg
  refine (callsIn_wide (n := 6)).1 ?_
  refine callsIn_of_wp_marks Tryd.func19 rfl trivial ?_ rfl
  simp only [Tryd.ntmps19, List.size_toArray, List.length_cons, List.length_nil, Nat.reduceAdd, Nat.reduceSub, Array.replicate_succ, Array.replicate_zero, List.push_toArray, List.append_toArray, List.nil_append, List.cons_append]
  refine wpIn_wide.2 ?_
  go_upto_region 3 with (first | (go_at_call 32; refine HS.out.mono ?_; rintro e w5 ⟨rfl, hw5⟩; obtain rfl := hw5.symm))
  have hc0 := HL0.out _ (below_alloc HB.out (.cells #[] 84))
  generalize hW1 : W.alloc (.cells #[.slice A ks.length cm] 23) = W1 at *
  clear hW1
  go_wp2_with (first | ((with_reducible refine gate_builtin (b := .append) (xs := #[.tmp 12, .tmp 16]) rfl ?_); refine of_halt ?_))
  unfold Halt
  have hHO : Kd.R secK 84 (W1.alloc (.cells #[] 84)) W.heap.size (fun k => W1.heap.size ≤ k) (.slice (some ⟨W1.heap.size, 0, none⟩) 0 0) [] := ⟨fun k hk => by simp [Value.ownBlock] at hk; omega, [], World.ownsRow_lit (base := W.heap.size) (e := 84) (size := 64) W1 #[] 0 HB.out.size (by simp [maxLen]) rfl, Reps.none _ _⟩
  have hHR := (Kd.R_reads' (HM.out.below (below_alloc HB.out (.cells #[] 84))).lies).2.2
  refine Kd.R_append_rows secK (Rr := secK.K (W1.alloc (.cells #[] 84))) (w0 := W) W.heap.size rfl (.tmp 12) (.tmp 16) 41 84 zeroS 64 rfl Tryd.underlying41 infoS rfl (by decide) (by decide) (.slice (some ⟨W1.heap.size, 0, none⟩) 0 0) [] d.lies (some ⟨gl, 0, none⟩) d.lies.length cl (fun k => W1.heap.size ≤ k) (fun _ => False) rfl rfl hHO hHR (fun x cs h => h) (fun _ hk => hk.elim) (fun k hk => by rw [World.size_alloc] at hk; omega) (below_alloc HB.out _) (by have := HSZ1.out; rw [World.size_alloc]; omega) (by have := HN.out.2.1; simp; omega) ?_
  intro v2 w2 ho2 hb2 hg2 hat2
  rw [List.nil_append] at ho2
  obtain ⟨gl2, cl2, hv2, hgl, hgl2, _⟩ := Kd.R_form ho2 HM.out.ok.some_
  subst hv2
  have hgl1 : W1.heap.size ≤ gl2 := ho2.1 gl2 rfl
  have hbx2 : w2.heap[W.heap.size]? = some (.cells #[.slice A ks.length cm] 23 (0, 0)) := blk_grown (blk_alloc HBX.out _) hg2 (fun e => by simp [Value.ownBlock] at e; have := HSZ1.out; omega)
  have HW2 := Aside0.mk (And.intro ho2 (And.intro hb2 (And.intro hbx2 (And.intro hgl1 hgl2))))
  clear ho2 hb2 hg2 hat2 hbx2 hgl hHO hHR hc0 hgl1 hgl2
  go_wp2_with (first | (go_at_call 37; refine (all_calls g _).mono ?_; rintro e w7 ⟨rfl, hw7⟩; obtain rfl := hw7.symm))
  refine (wpIn_wide (n := 6)).1 ?_
  obtain ⟨W3, hW3⟩ : ∃ W3, ((w2.alloc (.cells #[.slice (some ⟨gl2, 0, none⟩) d.lies.length cl2, .slice none 0 0, .int .i64 0, .bool false, .int .i64 0] 44)).alloc (.cells #[.pointer (some ⟨w2.heap.size, 0, none⟩)] 27)) = W3 := ⟨_, rfl⟩
  obtain ⟨W0, hW0⟩ : ∃ W0, (W3.alloc (.cells #[.pointer (some ⟨g, 0, none⟩)] 27)) = W0 := ⟨_, rfl⟩
  have hs3 : W3.heap.size = w2.heap.size + 2 := by rw [← hW3]; simp
  have hsz : W0.heap.size = w2.heap.size + 3 := by rw [← hW0]; simp; omega
  have hbw : Below w2.heap.size w2 W0 := by rw [← hW0, ← hW3]; exact below_alloc (below_alloc (below_alloc (Below.refl _ _) _) _) _
  have hw2 := HW2.out.2.1.size
  have hgW := blk_lt HM.out.blk
  have hB0 : Below W.heap.size W W0 := HW2.out.2.1.trans (hbw.mono hw2)
  have hg0 : W0.heap[w2.heap.size]? = some (.cells #[.slice (some ⟨gl2, 0, none⟩) d.lies.length cl2, .slice none 0 0, .int .i64 0, .bool false, .int .i64 0] 44 (0, 0)) := by
    rw [← hW0, ← hW3]
    exact blk_alloc (blk_alloc (blk_new w2 _) _) _
  have hb6 : W0.heap[w2.heap.size + 1]? = some (.cells #[.pointer (some ⟨w2.heap.size, 0, none⟩)] 27 (0, 0)) := by
    rw [← hW0, ← hW3]
    have := blk_new (w2.alloc (.cells #[.slice (some ⟨gl2, 0, none⟩) d.lies.length cl2, .slice none 0 0, .int .i64 0, .bool false, .int .i64 0] 44)) (.cells #[.pointer (some ⟨w2.heap.size, 0, none⟩)] 27)
    rw [World.size_alloc] at this
    exact blk_alloc this _
  have hbox0 : W0.cell? ⟨w2.heap.size + 1 + 1, 0, none⟩ = some (.pointer (some ⟨g, 0, none⟩)) := by
    rw [← hW0, show w2.heap.size + 1 + 1 = W3.heap.size by omega]
    exact (blk_cell (blk_new W3 _) 0).trans rfl
  have hI0 : CrI d ks A ks.length cm W w2.heap.size gl2 cl2 (w2.heap.size + 1) [] W0 := by
    refine ⟨⟨hg0, .inl rfl, .inr rfl, by have := HW2.out.2.2.2.2; omega, ?_, Kd.R_nil _ _ _ _ _, ⟨HM.out.ok.some_, HM.out.ok.lies, fun w hw => by cases hw⟩⟩, (hbw.block _ (blk_lt HW2.out.2.2.1)).trans HW2.out.2.2.1, hb6, Kp.of_below hB0, by rw [hsz]; omega⟩
    have h3 := Kd.R_tight rfl (Kd.R_lower (Kd.R_step HW2.out.1 (fun k hk hlt => hbw.block k hlt)) (Nat.zero_le _))
    exact Kd.R_mono h3 (fun k hk => by simpa [Value.ownBlock] using hk)
  have hM0 := HM.out.below hB0
  have hwv0 := hM0.cells.2.1
  have hR0 := Kd.R_tight rfl hM0.waits
  have hown0 : ∀ k, some k = wv.ownBlock → k < W.heap.size := fun k hk => Kd.R_lt HM.out.waits k hk.symm
  obtain ⟨Aw, c, hwe⟩ := Kd.R_slice hR0
  rw [List.length_map] at hwe
  subst hwe
  rw [hW3, hW0]
  have HSZ := Aside0.mk (And.intro hsz (And.intro hs3 (And.intro hw2 (And.intro HW2.out.2.2.2.1 HW2.out.2.2.2.2))))
  have HZW := Aside0.mk zero_W
  have HOWN := Aside0.mk hown0
  clear hB0 hW0 hW3 hbw hg0 hb6
  refine wpIn_rangeFunc_ownH (by rfl) (by omega) (gf := 52) (lb := #[.pointer (some ⟨w2.heap.size + 1 + 1, 0, none⟩)]) rfl trivial HE.out
    (all_stops Fence.wide 5 trivial rfl (by omega) (w2.heap.size + 1 + 1) g c Aw d.waits W0 (by have := HN.out.1; omega) hR0 hbox0 hwv0 (Kp (fun k => W.heap.size ≤ k)) (fun X Y hX hk => ⟨hk.size, fun k hk' => hk.block k (by have := HOWN.out k hk'; omega) (by have := HOWN.out k hk'; omega)⟩))
    (fun h k => h.trans k (fun _ _ hq => hq)) (fun V l o o' hl hV _ _ => Kp.of_grown (grownBy_putObj' V l o') (fun q hq => by injection hq with hq; subst hq; show _ ≤ _; omega)) (Below.refl _ _) (fun _ => rfl)
    (CrI d ks A ks.length cm W w2.heap.size gl2 cl2 (w2.heap.size + 1)) (fun _ _ _ => False) (CrI.own (by omega) (by omega) (by have := HSZ.out.2.2.2.2; omega) _ (by omega)) (fun _ _ _ _ _ hs _ _ => hs) hI0
    (fun x a' V => ∃ b, a' = { tmps := #[.pointer (some ⟨g, 0, none⟩), .slice A ks.length cm, undef, .pointer (some ⟨W.heap.size, 0, none⟩), .pointer none, .int .i64 0, .pointer (some ⟨w2.heap.size + 1, 0, none⟩), .int .i64 ((x.val : Nat) : Int), .pointer (some ⟨b, 0, none⟩), .pointer (some ⟨g, 0, none⟩), .int .i64 d.lies.length, .bool false, .slice (some ⟨W1.heap.size, 0, none⟩) 0 0, .pointer (some ⟨g, 0, none⟩), .pointer (some ⟨g, 0, none⟩), .pointer (some ⟨g, 0, none⟩), .slice (some ⟨gl, 0, none⟩) d.lies.length cl, .slice (some ⟨gl2, 0, none⟩) d.lies.length cl2, .agg #[.slice (some ⟨gl2, 0, none⟩) d.lies.length cl2, .slice none 0 0, .int .i64 0, .bool false, .int .i64 0], .pointer (some ⟨w2.heap.size, 0, none⟩), .pointer (some ⟨g, 0, none⟩), .func (.func 52) #[] #[.pointer (some ⟨w2.heap.size + 1 + 1, 0, none⟩)], .int .i64 ((x.val : Nat) : Int), .agg (wcells d.waits[x.val]).toArray, undef, undef, undef, undef, undef, undef, undef, undef, undef, undef, undef, undef, undef, undef, undef, undef, undef, undef, undef, undef, undef, undef], defers := [] } ∧ V.heap[b]? = some (.cells (wcells d.waits[x.val]).toArray 89 (0, 0)) ∧ W0.heap.size ≤ b)
    ?hAx ?assign ?body ?done ?stop
  case hAx =>
    rintro x a' _ V V' row ⟨b, e, hb, hbB⟩ hg hr
    exact ⟨b, e, blk_grown hb hg (fun he => by
      obtain ⟨_, o, ho, hc⟩ := hr b he.symm
      rw [hb] at ho
      injection ho with ho
      subst ho
      cases hc), hbB⟩
  case assign =>
    intro l pre x V K hI hK
    have hxl : (d.waits[x.val]).2.length = 64 := (HM.out.ok.waits _ (List.getElem_mem x.isLt)).2
    have HST := Aside0.mk (store_wrt V (d.waits[x.val]) hxl)
    have HI := Aside0.mk hI
    have HK := Aside0.mk hK
    clear hxl hI hK
    simp only [encWt, List.zip_toArray, List.zip_cons_cons, List.zip_nil_right, List.foldl_toArray, List.foldl_cons, List.foldl_nil, List.setIfInBounds_toArray, List.set_cons_succ, List.set_cons_zero]
    refine wpIn_seq_k ?_
    intro K1 hK1
    refine wpIn_region_lit ?_
    refine wpListIn_exec rfl rfl (exec_assign _ (.int .i64 ((x.val : Nat) : Int)) rfl rfl) ?_
    refine hK1 _ _ ?_
    simp only [Act.put, List.setIfInBounds_toArray, List.set_cons_succ, List.set_cons_zero]
    refine wpIn_region_lit ?_
    refine wpListIn_exec rfl rfl (exec_alloc 89 zeroW rfl (HZW.out _)) ?_
    refine wpListIn_exec_skip rfl rfl rfl (exec_store 89 _ _ (.pointer (some ⟨V.heap.size, 0, none⟩)) (.agg (wcells d.waits[x.val]).toArray) rfl rfl rfl HST.out) ?_
    have hb1 := below_alloc (Below.refl V.heap.size V) (.cells (wcells d.waits[x.val]).toArray 89)
    have hg1 := World.grownBy_alloc V (.cells (wcells d.waits[x.val]).toArray 89) none
    exact HK.out _ _ (KeepsFrom.of_grownBy hg1 (fun j e => by cases e)) (Kp.of_below hb1) (CrI.own (by omega) (by omega) (by have := HSZ.out.2.2.2.2; omega) (w2.heap.size + 2) (by omega) pre V _ none HI.out hg1 (fun r e => by cases e)) ⟨V.heap.size, rfl, blk_new V _, by have := HI.out.sz; have := HSZ.out.1; omega⟩
  case body =>
    rintro l pre x a' V hl hr hI ⟨b, rfl, hb, hbB⟩ hpl
    have hw := HM.out.ok.waits _ (List.getElem_mem x.isLt)
    obtain ⟨wi, wb, hwe⟩ : ∃ wi wb, d.waits[x.val] = (wi, wb) := ⟨_, _, rfl⟩
    rw [hwe] at hw hb
    obtain ⟨hlen, hl64⟩ := crL_ok HM.out.ok ks pre
    have hc1 : V.cell? ⟨W.heap.size, 0, none⟩ = some (.slice A ks.length cm) := (blk_cell hI.box 0).trans rfl
    have hc2 : V.cell? ⟨w2.heap.size + 1, 0, none⟩ = some (.pointer (some ⟨w2.heap.size, 0, none⟩)) := (blk_cell hI.out 0).trans rfl
    have hc3 : V.cell? ⟨w2.heap.size, 0, none⟩ = some (.slice (some ⟨gl2, 0, none⟩) d.lies.length cl2) := by have := hI.mem.cells.1; rw [show (Dk.lies ⟨crL d ks pre, [], 0, none⟩).length = d.lies.length from hlen] at this; exact this
    have hc4 : V.cell? ⟨b, 0, none⟩ = some (.int .i64 (wi : Int)) := (blk_cell hb 0).trans rfl
    have f1 : ((wi : Int) < (d.lies.length : Int)) = True := eq_true (by have := hw.1; omega)
    have f2 : (wi < d.lies.length) = True := eq_true hw.1
    have HI := Aside0.mk hI
    have HW := Aside0.mk (And.intro hw (And.intro hwe (And.intro hlen (And.intro hl64 hb))))
    clear hw hI hbB hwe hlen hl64 hb
    by_cases hk : x.val < ks.length
    · have e1 : decide (((x.val : Nat) : Int) < (ks.length : Int)) = true := decide_eq_true (by omega)
      have e2 : (((x.val : Nat) : Int) < (ks.length : Int)) = True := eq_true (by omega)
      have e3 : (x.val < ks.length) = True := eq_true hk
      have hBV : Below W.heap.size W V := HI.out.kp.below (Nat.le_refl _) (fun k hk h => by omega)
      obtain ⟨ad, hA, hc5⟩ := Kd.at_int (Kd.C_below HKC.out hBV) ((x.val : Nat) : Int) (by omega) (by omega)
      subst hA
      rw [Int.toNat_natCast, show rd ks ((x.val : Nat) : Int) = ks.getD x.val 0 by rw [rd, Int.toNat_natCast]] at hc5
      obtain ⟨kv, hkv⟩ : ∃ kv, ks.getD x.val 0 = kv := ⟨_, rfl⟩
      rw [hkv] at hc5
      obtain ⟨cN, hcN⟩ : ∃ cN, clamp kv = cN := ⟨_, rfl⟩
      have hcl : mx 0 (mn kv 64) = (cN : Int) := by rw [← hcN]; exact mx_clamp kv
      have hc64 : cN ≤ 64 := by rw [← hcN]; exact clamp_le kv
      have g1 : (0 : Int) ≤ (cN : Int) := by omega
      have g2' : (cN : Int) ≤ 64 := by omega
      have hth := HI.out.mem.there (i := wi) (by show wi < (crL d ks pre).length; rw [HW.out.2.2.1]; exact HW.out.1.1)
      have hbt : (bts wb).length = 64 := by rw [bts_length]; exact HW.out.1.2
      have hcsl : ((bts wb).take cN).length = Nat.min cN 64 := by rw [List.length_take, hbt]
      have hcopy : ∀ ty, (Builtin.copy_ #[22, 22] ty #[.slice (some ⟨gl2, wi * 64, none⟩) 64 64, .slice (some ⟨b, 1, none⟩) cN 64]).run Tryd.prog V.drew = .ok (goInt ((bts wb).take cN).length) (V.drew.setCells gl2 (wi * 64) ((bts wb).take cN)) := fun ty =>
        run_copy_cells V.drew _ _ ty 5 gl2 (wi * 64) 64 64 ⟨b, 1, none⟩ cN 64 ((bts wb).take cN) Tryd.underlying22 (by kernel_rfl) hcsl (fun i u hu => by
          rw [Addr.add_mid]
          show V.cell? ⟨b, 1 + i, none⟩ = _
          rw [blk_cell HW.out.2.2.2.2 (1 + i), Nat.add_comm]
          rw [List.getElem?_take] at hu
          split at hu
          · simpa [wcells] using hu
          · cases hu) (fun j hj => (hth j (by rw [hcsl] at hj; have : Nat.min cN 64 ≤ 64 := Nat.min_le_right _ _; omega)).1) (fun j hj => (hth j (by rw [hcsl] at hj; have : Nat.min cN 64 ≤ 64 := Nat.min_le_right _ _; omega)).2) (fun v hv => bts_one wb v (List.mem_of_mem_take hv))
      have HCP := Aside0.mk hcopy
      have HCN := Aside0.mk (And.intro hk (And.intro hkv (And.intro hcN hc64)))
      have HC5 := Aside0.mk hc5
      clear hk hkv hcN hth hcopy hBV hcsl hbt hc64
      gi_wp2
      refine startIn_ (m := 17) (S := fun w' => w'.cell? ⟨w2.heap.size + 1, 0, none⟩ = some (.pointer (some ⟨w2.heap.size, 0, none⟩)) ∧ w'.cell? ⟨w2.heap.size, 0, none⟩ = some (.slice (some ⟨gl2, 0, none⟩) d.lies.length cl2) ∧ w'.cell? ⟨b, 0, none⟩ = some (.int .i64 (wi : Int)) ∧ w'.cell? ⟨W.heap.size, 0, none⟩ = some (.slice (some ad) ks.length cm) ∧ w'.cell? (ad.add x.val) = some (.int .i64 kv)) (ds := [16]) #[false, false, false, false, false, false, false, false, false, false, false, false, false, false, false, false, false] (by kernel_rfl) (by rintro ⟨_, _, hh⟩; exact hh) (by rfl) rfl rfl ⟨hc2, hc3, hc4, hc1, HC5.out⟩ (fun hHeld => ?_)
      refine pure_ (i := 4) (N := some 32) (v := ?_) (a' := ?_) #[false, false, false, false, true, false, false, false, false, false, false, false, false, false, false, false, false] rfl rfl (by kernel_rfl) (fun _ _ _ h => h) (Or.inl ⟨by rfl, ?_⟩) ?_ ?_
      rotate_left
      · intro w'
        go_simp
        with_reducible rfl
      rotate_left
      · simp only [Act.put, List.setIfInBounds_toArray, List.set_cons_zero, List.set_cons_succ, i64_w, i32_w]
        rfl
      refine pure_ (i := 8) (N := some 36) (v := ?_) (a' := ?_) #[false, false, false, false, true, false, false, false, true, false, false, false, false, false, false, false, false] rfl rfl (by kernel_rfl) (fun _ _ _ h => h) (Or.inl ⟨by rfl, ?_⟩) ?_ ?_
      rotate_left
      · intro w'
        go_simp
        with_reducible rfl
      rotate_left
      · simp only [Act.put, List.setIfInBounds_toArray, List.set_cons_zero, List.set_cons_succ, i64_w, i32_w]
        rfl
      refine pure_ (i := 10) (N := some 38) (v := ?_) (a' := ?_) #[false, false, false, false, true, false, false, false, true, false, true, false, false, false, false, false, false] rfl rfl (by kernel_rfl) (fun _ _ _ h => h) (Or.inl ⟨by rfl, ?_⟩) ?_ ?_
      rotate_left
      · intro w'
        go_simp
        with_reducible rfl
      rotate_left
      · simp only [Act.put, List.setIfInBounds_toArray, List.set_cons_zero, List.set_cons_succ, i64_w, i32_w]
        rfl
      refine take_ (i := 0) (N := some 28) (v := ?_) (a' := ?_) #[true, false, false, false, true, false, false, false, true, false, true, false, false, false, false, false, false] rfl rfl (by kernel_rfl) (fun _ _ _ h => h) (Or.inl ⟨by rfl, ?_⟩) hHeld ?_ ?_
      rotate_left
      · rintro w' ⟨s0, s1, s2, s3, s4⟩
        go_simp
        with_reducible rfl
      rotate_left
      · simp only [Act.put, List.setIfInBounds_toArray, List.set_cons_zero, List.set_cons_succ, i64_w, i32_w]
        rfl
      refine pure_ (i := 1) (N := some 29) (v := ?_) (a' := ?_) #[true, true, false, false, true, false, false, false, true, false, true, false, false, false, false, false, false] rfl rfl (by kernel_rfl) (fun _ _ _ h => h) (Or.inl ⟨by rfl, ?_⟩) ?_ ?_
      rotate_left
      · intro w'
        go_simp
        with_reducible rfl
      rotate_left
      · simp only [Act.put, List.setIfInBounds_toArray, List.set_cons_zero, List.set_cons_succ, i64_w, i32_w]
        rfl
      refine pure_ (i := 2) (N := some 30) (v := ?_) (a' := ?_) #[true, true, true, false, true, false, false, false, true, false, true, false, false, false, false, false, false] rfl rfl (by kernel_rfl) (fun _ _ _ h => h) (Or.inl ⟨by rfl, ?_⟩) ?_ ?_
      rotate_left
      · intro w'
        go_simp
        with_reducible rfl
      rotate_left
      · simp only [Act.put, List.setIfInBounds_toArray, List.set_cons_zero, List.set_cons_succ, i64_w, i32_w]
        rfl
      refine take_ (i := 3) (N := some 31) (v := ?_) (a' := ?_) #[true, true, true, true, true, false, false, false, true, false, true, false, false, false, false, false, false] rfl rfl (by kernel_rfl) (fun _ _ _ h => h) (Or.inl ⟨by rfl, ?_⟩) hHeld ?_ ?_
      rotate_left
      · rintro w' ⟨s0, s1, s2, s3, s4⟩
        go_simp
        with_reducible rfl
      rotate_left
      · simp only [Act.put, List.setIfInBounds_toArray, List.set_cons_zero, List.set_cons_succ, i64_w, i32_w]
        rfl
      refine take_ (i := 5) (N := some 33) (v := ?_) (a' := ?_) #[true, true, true, true, true, true, false, false, true, false, true, false, false, false, false, false, false] rfl rfl (by kernel_rfl) (fun _ _ _ h => h) (Or.inl ⟨by rfl, ?_⟩) hHeld ?_ ?_
      rotate_left
      · rintro w' ⟨s0, s1, s2, s3, s4⟩
        go_simp
        with_reducible rfl
      rotate_left
      · simp only [Act.put, List.setIfInBounds_toArray, List.set_cons_zero, List.set_cons_succ, i64_w, i32_w]
        rfl
      refine pure_ (i := 6) (N := some 34) (v := ?_) (a' := ?_) #[true, true, true, true, true, true, true, false, true, false, true, false, false, false, false, false, false] rfl rfl (by kernel_rfl) (fun _ _ _ h => h) (Or.inl ⟨by rfl, ?_⟩) ?_ ?_
      rotate_left
      · intro w'
        go_simp
        with_reducible rfl
      rotate_left
      · simp only [Act.put, List.setIfInBounds_toArray, List.set_cons_zero, List.set_cons_succ, i64_w, i32_w]
        rfl
      refine pure_ (i := 7) (N := some 35) (v := ?_) (a' := ?_) #[true, true, true, true, true, true, true, true, true, false, true, false, false, false, false, false, false] rfl rfl (by kernel_rfl) (fun _ _ _ h => h) (Or.inl ⟨by rfl, ?_⟩) ?_ ?_
      rotate_left
      · intro w'
        go_simp
        with_reducible rfl
      rotate_left
      · simp only [Act.put, List.setIfInBounds_toArray, List.set_cons_zero, List.set_cons_succ, i64_w, i32_w]
        rfl
      refine take_ (i := 9) (N := some 37) (v := ?_) (a' := ?_) #[true, true, true, true, true, true, true, true, true, true, true, false, false, false, false, false, false] rfl rfl (by kernel_rfl) (fun _ _ _ h => h) (Or.inl ⟨by rfl, ?_⟩) hHeld ?_ ?_
      rotate_left
      · rintro w' ⟨s0, s1, s2, s3, s4⟩
        go_simp
        with_reducible rfl
      rotate_left
      · simp only [Act.put, List.setIfInBounds_toArray, List.set_cons_zero, List.set_cons_succ, i64_w, i32_w]
        rfl
      refine pure_ (i := 11) (N := some 39) (v := ?_) (a' := ?_) #[true, true, true, true, true, true, true, true, true, true, true, true, false, false, false, false, false] rfl rfl (by kernel_rfl) (fun _ _ _ h => h) (Or.inl ⟨by rfl, ?_⟩) ?_ ?_
      rotate_left
      · intro w'
        go_simp
        with_reducible rfl
      rotate_left
      · simp only [Act.put, List.setIfInBounds_toArray, List.set_cons_zero, List.set_cons_succ, i64_w, i32_w]
        rfl
      refine take_ (i := 12) (N := some 40) (v := ?_) (a' := ?_) #[true, true, true, true, true, true, true, true, true, true, true, true, true, false, false, false, false] rfl rfl (by kernel_rfl) (fun _ _ _ h => h) (Or.inl ⟨by rfl, ?_⟩) hHeld ?_ ?_
      rotate_left
      · rintro w' ⟨s0, s1, s2, s3, s4⟩
        go_simp
        with_reducible rfl
      rotate_left
      · simp only [Act.put, List.setIfInBounds_toArray, List.set_cons_zero, List.set_cons_succ, i64_w, i32_w]
        rfl
      refine pure_ (i := 13) (N := some 41) (v := ?_) (a' := ?_) #[true, true, true, true, true, true, true, true, true, true, true, true, true, true, false, false, false] rfl rfl (by kernel_rfl) (fun _ _ _ h => h) (Or.inl ⟨by rfl, ?_⟩) ?_ ?_
      rotate_left
      · intro w'
        refine Eq.trans (exec_min2 _ _ _ kv 64 rfl (by rfl) (by rfl)) ?_
        with_reducible rfl
      rotate_left
      · simp only [Act.put, List.setIfInBounds_toArray, List.set_cons_zero, List.set_cons_succ, i64_w, i32_w]
        rfl
      refine pure_ (i := 14) (N := some 42) (v := ?_) (a' := ?_) #[true, true, true, true, true, true, true, true, true, true, true, true, true, true, true, false, false] rfl rfl (by kernel_rfl) (fun _ _ _ h => h) (Or.inl ⟨by rfl, ?_⟩) ?_ ?_
      rotate_left
      · intro w'
        refine Eq.trans ((exec_max2 _ _ _ 0 (mn kv 64) rfl (by rfl) (by rfl)).trans (by rw [hcl])) ?_
        with_reducible rfl
      rotate_left
      · simp only [Act.put, List.setIfInBounds_toArray, List.set_cons_zero, List.set_cons_succ, i64_w, i32_w]
        rfl
      refine pure_ (i := 15) (N := some 43) (v := ?_) (a' := ?_) #[true, true, true, true, true, true, true, true, true, true, true, true, true, true, true, true, false] rfl rfl (by kernel_rfl) (fun _ _ _ h => h) (Or.inl ⟨by rfl, ?_⟩) ?_ ?_
      rotate_left
      · intro w'
        go_simp
        with_reducible rfl
      rotate_left
      · simp only [Act.put, List.setIfInBounds_toArray, List.set_cons_zero, List.set_cons_succ, i64_w, i32_w]
        rfl
      refine last_ (i := 16) (N := some 44) #[true, true, true, true, true, true, true, true, true, true, true, true, true, true, true, true, true] rfl rfl (by kernel_rfl) (by decide) (fun K hK => ?_)
      refine value_ (by rfl) rfl (exec_copy 22 22 _ _ (.slice (some ⟨gl2, wi * 64, none⟩) 64 64) (.slice (some ⟨b, 1, none⟩) cN 64) _ rfl (by rfl) (by rfl) (HCP.out _)) ?_
      refine hK.out _ _ ?_
      clear hK K
      refine norm_ (a' := ?_) ?_ ?_
      rotate_left
      · show Act.put _ (some 44) _ = _
        simp only [Act.put, List.setIfInBounds_toArray, List.set_cons_zero, List.set_cons_succ, i64_w, i32_w]
        rfl
      refine done_ (by kernel_rfl) ?_
      have hput := (HI.out.mem.below (below_drew (Below.refl _ _))).putTorn wi wb cN (by show wi < (crL d ks pre).length; rw [HW.out.2.2.1]; exact HW.out.1.1) HW.out.1.2 HCN.out.2.2.2
      have hk := hput.2
      have hg : V.drew.grownBy (V.drew.setCells gl2 (wi * 64) ((bts wb).take cN)) (some gl2) := ⟨hk.os, hk.tape, hk.output, hk.size, fun k hlt hne => hk.block k hlt (fun e => hne (by rw [e]))⟩
      have e : crL d ks (pre ++ [x]) = torn (crL d ks pre) (wi, wb) cN := by
        rw [crL_snoc, crStep, if_pos HCN.out.1, HW.out.2.1, HCN.out.2.1, HCN.out.2.2.1]
      refine ⟨?_, ?_, ?_⟩
      · exact (KeepsFrom.of_grownBy (row := none) (show V.grownBy V.drew none from ⟨rfl, rfl, rfl, Nat.le_refl _, fun _ _ _ => rfl⟩) (fun j e => by cases e)).trans (KeepsFrom.of_grownBy hg (fun j e => by cases e; have := HSZ.out; omega))
      · exact (Kp.of_below (below_drew (Below.refl _ _))).trans hk (fun q _ hq => by rw [hq]; have := HSZ.out; have := HSZ1.out; show _ ≤ _; omega)
      · refine ⟨by rw [e]; exact hput.1, ?_, ?_, ?_, Nat.le_trans HI.out.sz hk.size⟩
        · exact hk.blk (k := W.heap.size) HI.out.box (fun e => by have := HSZ.out; have := HSZ1.out; omega)
        · exact hk.blk (k := w2.heap.size + 1) HI.out.out (fun e => by have := HSZ.out; omega)
        · exact HI.out.kp.trans ((Kp.of_below (F := fun k => k = gl2) (below_drew (Below.refl _ _))).trans hk (fun q _ hq => hq)) (fun q _ hq => by rw [hq]; have := HSZ.out; have := HSZ1.out; show _ ≤ _; omega)
    · have e1 : decide (((x.val : Nat) : Int) < (ks.length : Int)) = false := decide_eq_false (by omega)
      have e2 : (((x.val : Nat) : Int) < (ks.length : Int)) = False := eq_false (by omega)
      have e3 : (x.val < ks.length) = False := eq_false hk
      have HKN := Aside0.mk hk
      clear hk
      gi_wp2
      refine ⟨KeepsFrom.refl _ _, Kp.refl _ _, ?_⟩
      have e : crL d ks (pre ++ [x]) = crL d ks pre := by
        rw [crL_snoc, crStep, if_neg HKN.out]
      exact ⟨by rw [e]; exact HI.out.mem, HI.out.box, HI.out.out, HI.out.kp, HI.out.sz⟩
  case done =>
    rintro D ys V hD rfl hI hK
    have hM := hI.mem
    rw [crL_all] at hM
    have hc2 : V.cell? ⟨w2.heap.size + 1, 0, none⟩ = some (.pointer (some ⟨w2.heap.size, 0, none⟩)) := (blk_cell hI.out 0).trans rfl
    have HI := Aside0.mk hI
    have HMM := Aside0.mk hM
    clear hI hM
    go_wp2
    refine ⟨by simp, .inl ⟨_, _, rfl, run_takeDeferred hK, ?_⟩⟩
    refine ⟨_, results_tmp2 rfl _ _ _, w2.heap.size, rfl, ⟨gl2, cl2, .slice none 0 0, ?_⟩, ?_⟩
    · exact (HMM.out.move (fun k hk hlt => (grownBy_putObj' V D (.deferred none)).block k hlt (fun e => by injection e with e; have := HSZ.out; rcases hk with rfl | rfl <;> omega))).mono (fun k hk => by have := HSZ.out; have := HSZ1.out; rcases hk with rfl | rfl <;> omega)
    · exact (HI.out.kp.below (Nat.le_refl _) (fun k hk h => by omega)).trans (Kp.below (Kp.of_grown (F := fun k => k = D) (grownBy_putObj' V D (.deferred none)) (fun q hq => by injection hq with hq; exact hq.symm)) HI.out.kp.size (fun k hk e => by omega))
  case stop =>
    rintro D c pre V _ _ h _
    exact h.elim
end Go.Proofs.YthpholjelfajiaaDoor.G
/- The disk: each method in one contract. -/
namespace Go.Proofs.YthpholjelfajiaaDoor.G
open Go.RowKit Go.Shelf Go.Proofs.YthpholjelfajiaaDoorW.PrintWords Go.Proofs.YthpholjelfajiaaDoorW.PrintLast Go.Proofs.YthpholjelfajiaaDoorW.PrintMore Go.Proofs.YthpholjelfajiaaDoor.Dsk
set_option linter.unusedVariables false
set_option linter.unusedSimpArgs false
/-- Numbers that no disk of a statement comes to. -/
structure Small (d : Dk) : Prop where
  steps : d.steps < 4611686018427387904
  left : d.left.getD 0 < 9223372036854775808
  waits : d.waits.length < 1000000000
  lies : d.lies.length < 1000000000
/-- A disk within F; F has no more than there is. -/
def Disk (F : Nat → Prop) (g : Nat) (d : Dk) (W : World) : Prop := Dm F g d W ∧ ∀ k, F k → k < W.heap.size
theorem Dm.disk {F : Nat → Prop} {g : Nat} {d : Dk} {W : World} (h : Dm F g d W) : Disk (fun k => F k ∧ k < W.heap.size) g d W := by
  obtain ⟨gl, cl, wv, h⟩ := h
  exact ⟨⟨gl, cl, wv, h.bound⟩, fun k hk => hk.2⟩
theorem Disk.ok {F : Nat → Prop} {g : Nat} {d : Dk} {W : World} (h : Disk F g d W) : Ok d := by
  obtain ⟨⟨_, _, _, h⟩, _⟩ := h
  exact h.ok
theorem Disk.below {F : Nat → Prop} {g : Nat} {d : Dk} {W W' : World} (h : Disk F g d W) (hb : Below W.heap.size W W') : Disk F g d W' := by
  obtain ⟨⟨gl, cl, wv, h⟩, hF⟩ := h
  exact ⟨⟨gl, cl, wv, h.below hb⟩, fun k hk => Nat.lt_of_lt_of_le (hF k hk) hb.size⟩
theorem Disk.kp {F G : Nat → Prop} {g : Nat} {d : Dk} {W W' : World} (h : Disk F g d W) (hb : Kp G W W') (hd : ∀ k, F k → ¬ G k) : Disk F g d W' := by
  obtain ⟨⟨gl, cl, wv, h⟩, hF⟩ := h
  exact ⟨⟨gl, cl, wv, h.kp hb hd⟩, fun k hk => Nat.lt_of_lt_of_le (hF k hk) hb.size⟩
theorem Disk.move {F : Nat → Prop} {g : Nat} {d : Dk} {W W' : World} (h : Disk F g d W) (hm : ∀ k, F k → k < W.heap.size → W'.heap[k]? = W.heap[k]?) (hs : W.heap.size ≤ W'.heap.size) : Disk F g d W' := by
  obtain ⟨⟨gl, cl, wv, h⟩, hF⟩ := h
  exact ⟨⟨gl, cl, wv, h.move hm⟩, fun k hk => Nat.lt_of_lt_of_le (hF k hk) hs⟩
/-- What a call that changes a disk leaves. -/
def OpPost (F : Nat → Prop) (g : Nat) (d : Dk) (c : Int) (W : World) (e : Ending) (w' : World) : Prop := e = .returned (.int .i64 c) ∧ ∃ F', Disk F' g d w' ∧ (∀ k, F' k → F k ∨ W.heap.size ≤ k) ∧ Kp F W w'
theorem OpPost.of_mem {F : Nat → Prop} {g : Nat} {d : Dk} {c : Int} {W : World} {e : Ending} {w' : World} (h : MemPost F g d W (.returned (.int .i64 c)) e w') : OpPost F g d c W e w' := by
  obtain ⟨he, gl, cl, wv, F', hM, hF, hK⟩ := h
  exact ⟨he, _, Dm.disk ⟨gl, cl, wv, hM⟩, fun k hk => hF k hk.1, hK⟩
theorem OpPost.same {F : Nat → Prop} {g : Nat} {d : Dk} {c : Int} {W w' : World} {e : Ending} (h : Disk F g d W) (he : e = .returned (.int .i64 c)) (hb : Below W.heap.size W w') : OpPost F g d c W e w' :=
  ⟨he, F, h.below hb, fun k hk => .inl hk, Kp.of_below hb⟩
theorem Write_c (F : Nat → Prop) (g : Nat) (d : Dk) (n : Int) (A : Option Addr) (m cm : Nat) (ys : List Int) (W : World) (h : Disk F g d W) (hs : Small d) (hC : Kd.C (Kd.int .u8) W A m ys) :
    Calls Tryd.prog 28 #[.pointer (some ⟨g, 0, none⟩), .int .i64 n, .slice A m cm] W (OpPost F g (write d n ys).1 (write d n ys).2 W) := by
  obtain ⟨gl, cl, wv, hM⟩ := h.1
  have hlen : ys.length = m := hC.1
  cases hS : isS d n with
  | false =>
    have e : write d n ys = (d, 4) := by unfold write; rw [if_pos hS]
    rw [e]
    exact (Write_bad F g gl cl d wv n _ W hM hS).mono fun e w' ⟨he, hw⟩ => by subst hw; exact OpPost.same h he (Below.refl _ _)
  | true =>
    by_cases hm : m = 64
    · subst hm
      cases hd : down d with
      | true =>
        have e : write d n ys = (d, 170) := by unfold write; rw [hS, if_neg (by simp), if_neg (by rw [hlen]; simp), hd, if_pos rfl]
        rw [e]
        exact (Write_down F g gl cl d wv n A cm W hM hS hd).mono fun e w' ⟨he, hw⟩ => by subst hw; exact OpPost.same h he (Below.refl _ _)
      | false =>
        have e : (write d n ys).2 = 0 := by unfold write; rw [hS, if_neg (by simp), if_neg (by rw [hlen]; simp), hd, if_neg (by simp)]
        rw [e]
        obtain ⟨pb, hA, hc⟩ := hC.2.2 (by omega)
        subst hA
        have hcell : ∀ i u, (bts ys)[i]? = some u → W.cell? (pb.add i) = some u := fun i u hu => by
          rw [bts, List.getElem?_map] at hu
          obtain ⟨y, hy, rfl⟩ := Option.map_eq_some_iff.1 hu
          obtain ⟨c, hcl, hk, hcc⟩ := hc i y hy
          have hk' : c = [.int .u8 y] := hk
          subst hk'
          have := hcc 0 (.int .u8 y) rfl
          simpa [Kd.int, Kd.scalar] using this
        exact (Write_ok F g gl cl d wv n pb ys cm W hM hS hd hlen hcell hs.steps hs.left hs.waits).mono fun e w' he => OpPost.of_mem he
    · have e : write d n ys = (d, 2) := by unfold write; rw [hS, if_neg (by simp), if_pos (by rw [hlen]; exact hm)]
      rw [e]
      exact (Write_len F g gl cl d wv n A m cm W hM hS hm).mono fun e w' ⟨he, hw⟩ => by subst hw; exact OpPost.same h he (Below.refl _ _)
theorem Flush_c (F : Nat → Prop) (g : Nat) (d : Dk) (W : World) (h : Disk F g d W) (hs : Small d) :
    Calls Tryd.prog 30 #[.pointer (some ⟨g, 0, none⟩)] W (OpPost F g (flush d).1 (flush d).2 W) := by
  obtain ⟨gl, cl, wv, hM⟩ := h.1
  cases hd : down d with
  | true =>
    have e : flush d = (d, 170) := by unfold flush; rw [hd, if_pos rfl]
    rw [e]
    exact (Flush_down F g gl cl d wv W hM hd).mono fun e w' ⟨he, hw⟩ => OpPost.same h he hw
  | false =>
    have e : (flush d).2 = 0 := by unfold flush; rw [hd, if_neg (by simp)]
    rw [e]
    exact (Flush_ok F g gl cl d wv W hM hd hs.steps hs.left (by have := hs.waits; omega)).mono fun e w' he => OpPost.of_mem he
theorem Stop_c (F : Nat → Prop) (g : Nat) (d : Dk) (n : Int) (W : World) (h : Disk F g d W) (hn : n < 9223372036854775808) :
    Calls Tryd.prog 18 #[.pointer (some ⟨g, 0, none⟩), .int .i64 n] W (OpPost F g (stop d n).1 (stop d n).2 W) := by
  obtain ⟨gl, cl, wv, hM⟩ := h.1
  refine (Stop_calls F g gl cl d wv n W hM hn).mono fun e w' ⟨he, hM', hk⟩ => ⟨he, F, ⟨⟨gl, cl, wv, hM'⟩, fun k hf => Nat.lt_of_lt_of_le (h.2 k hf) hk.size⟩, fun k hf => .inl hf, hk.mono fun q _ hq => by rw [hq]; exact hM.fg⟩
theorem Spoil_c (F : Nat → Prop) (g : Nat) (d : Dk) (n at_ y : Int) (W : World) (h : Disk F g d W) :
    Calls Tryd.prog 17 #[.pointer (some ⟨g, 0, none⟩), .int .i64 n, .int .i64 at_, .int .u8 y] W (OpPost F g (spoil d n at_ y).1 (spoil d n at_ y).2 W) := by
  obtain ⟨gl, cl, wv, hM⟩ := h.1
  by_cases hb : isS d n = false ∨ at_ < 0 ∨ 64 ≤ at_
  · have e : spoil d n at_ y = (d, 4) := by unfold spoil; rw [if_pos hb]
    rw [e]
    exact (Spoil_bad F g gl cl d wv n at_ y W hM hb).mono fun e w' ⟨he, hw⟩ => by subst hw; exact OpPost.same h he (Below.refl _ _)
  · have hS : isS d n = true := by cases hh : isS d n with | true => rfl | false => exact absurd (.inl hh) hb
    have e : (spoil d n at_ y).2 = 0 := by unfold spoil; rw [if_neg hb]
    rw [e]
    refine (Spoil_ok F g gl cl d wv n at_ y W hM hS (by omega) (by omega)).mono fun e w' ⟨he, hM', hk⟩ => ⟨he, F, ⟨⟨gl, cl, wv, hM'⟩, fun k hf => Nat.lt_of_lt_of_le (h.2 k hf) hk.size⟩, fun k hf => .inl hf, hk.mono fun q _ hq => by rw [hq]; exact hM.fl⟩
/-- What Read leaves. -/
def RdP (r : List Int × Int) (W : World) (e : Ending) (w' : World) : Prop := ∃ v, e = .returned (.tuple #[v, .int .i64 r.2]) ∧ Kd.R (Kd.int .u8) 5 w' W.heap.size (fun _ => True) v r.1 ∧ Below W.heap.size W w'
theorem Read_c (F : Nat → Prop) (g : Nat) (d : Dk) (n : Int) (W : World) (h : Disk F g d W) (hs : Small d) :
    Calls Tryd.prog 16 #[.pointer (some ⟨g, 0, none⟩), .int .i64 n] W (RdP (Dsk.read d n) W) := by
  obtain ⟨gl, cl, wv, hM⟩ := h.1
  cases hS : isS d n with
  | false =>
    have e : Dsk.read d n = ([], 4) := by unfold Dsk.read; rw [if_pos hS]
    rw [e]
    exact (Read_bad F g gl cl d wv n W hM hS).mono fun e w' ⟨he, hw⟩ => ⟨_, he, Kd.R_nil _ _ _ _ _, hw⟩
  | true =>
    cases hd : down d with
    | true =>
      have e : Dsk.read d n = ([], 170) := by unfold Dsk.read; rw [hS, if_neg (by simp), hd, if_pos rfl]
      rw [e]
      exact (Read_down F g gl cl d wv n W hM hS hd).mono fun e w' ⟨he, hw⟩ => ⟨_, he, Kd.R_nil _ _ _ _ _, hw⟩
    | false =>
      have e : Dsk.read d n = (latest d n.toNat, 0) := by unfold Dsk.read; rw [hS, if_neg (by simp), hd, if_neg (by simp)]
      rw [e]
      have hn := of_decide_eq_true hS
      obtain ⟨i, rfl⟩ := Int.eq_ofNat_of_zero_le hn.1
      rw [Int.toNat_natCast]
      exact Read_ok F g gl cl d wv i W hM (by omega) hd (by have := hs.waits; omega)
theorem Waits_c (F : Nat → Prop) (g : Nat) (d : Dk) (W : World) (h : Disk F g d W) (hs : Small d) :
    Calls Tryd.prog 60 #[.pointer (some ⟨g, 0, none⟩)] W (WtPost (d.waits.map fun w => ((w.1 : Nat) : Int)) W) := by
  obtain ⟨gl, cl, wv, hM⟩ := h.1
  exact Waits_calls F g gl cl d wv W hM hs.waits
theorem Sectors_c (F : Nat → Prop) (g : Nat) (d : Dk) (W : World) (h : Disk F g d W) :
    Calls Tryd.prog 32 #[.pointer (some ⟨g, 0, none⟩)] W fun e w' => e = .returned (.int .i64 (d.lies.length : Int)) ∧ w' = W := by
  obtain ⟨gl, cl, wv, hM⟩ := h.1
  exact Sectors_calls F g gl cl d wv W hM
theorem Steps_c (F : Nat → Prop) (g : Nat) (d : Dk) (W : World) (h : Disk F g d W) :
    Calls Tryd.prog 34 #[.pointer (some ⟨g, 0, none⟩)] W fun e w' => e = .returned (.int .i64 (d.steps : Int)) ∧ w' = W := by
  obtain ⟨gl, cl, wv, hM⟩ := h.1
  exact Steps_calls F g gl cl d wv W hM
/-- What makes a new disk leaves. -/
def MkP (d : Dk) (W : World) (e : Ending) (w' : World) : Prop := ∃ g F, e = .returned (.tuple #[.pointer (some ⟨g, 0, none⟩), .int .i64 0]) ∧ Disk F g d w' ∧ (∀ k, F k → W.heap.size ≤ k) ∧ Below W.heap.size W w'
theorem Crash_c (F : Nat → Prop) (g : Nat) (d : Dk) (ks : List Int) (A : Option Addr) (cm : Nat) (W : World) (h : Disk F g d W) (hs : Small d) (hK : Kd.C (Kd.int .i64) W A ks.length ks) (hkc : ks.length ≤ cm) :
    Calls Tryd.prog 19 #[.pointer (some ⟨g, 0, none⟩), .slice A ks.length cm] W (MkP (crash d ks) W) := by
  obtain ⟨gl, cl, wv, hM⟩ := h.1
  exact (Crash_calls F g gl cl d wv ks A cm W hM hs.waits hs.lies hK hkc).mono fun e w' ⟨g2, he, hD, hb⟩ => ⟨g2, _, he, hD.disk, fun k hk => hk.1, hb⟩
theorem New_c (n : Int) (W : World) (h1 : 1 ≤ n) (h2 : n ≤ 4096) : Calls Tryd.prog 20 #[.int .i64 n] W (MkP (new n.toNat) W) :=
  (New_ok n W h1 h2).mono fun e w' ⟨g2, he, hD, hb⟩ => ⟨g2, _, he, hD.disk, fun k hk => hk.1, hb⟩
end Go.Proofs.YthpholjelfajiaaDoor.G
/- Rows of bytes of the law's own, disks, and what stays: the words in which laws over disks are walked. -/
namespace Go.Proofs.YthpholjelfajiaaDoor.G
open Go.RowKit Go.Shelf Go.Proofs.YthpholjelfajiaaDoorW.PrintWords Go.Proofs.YthpholjelfajiaaDoorW.PrintLast Go.Proofs.YthpholjelfajiaaDoorW.PrintMore Go.Proofs.YthpholjelfajiaaDoor.Dsk
set_option linter.unusedVariables false
set_option linter.unusedSimpArgs false
/-- A row of bytes at block g. -/
def Brow (g c : Nat) (xs : List Int) (W : World) : Prop := Kd.R (Kd.int .u8) 5 W 0 (fun k => k = g) (.slice (some ⟨g, 0, none⟩) xs.length c) xs
theorem Brow.of_R {W : World} {base g c : Nat} {ok : Nat → Prop} {xs : List Int} (h : Kd.R (Kd.int .u8) 5 W base ok (.slice (some ⟨g, 0, none⟩) xs.length c) xs) : Brow g c xs W :=
  Kd.R_mono (Kd.R_tight rfl (Kd.R_lower h (Nat.zero_le _))) (fun k hk => by simpa [Value.ownBlock] using hk)
theorem Brow.lt {g c : Nat} {xs : List Int} {W : World} (h : Brow g c xs W) : g < W.heap.size := Kd.R_lt h g rfl
theorem Brow.kp {G : Nat → Prop} {g c : Nat} {xs : List Int} {W W' : World} (h : Brow g c xs W) (hk : Kp G W W') (hg : ¬ G g) : Brow g c xs W' := Kp.R hk h (fun k e => by rw [e]; exact hg)
theorem Brow.below {g c : Nat} {xs : List Int} {W W' : World} (h : Brow g c xs W) (hb : Below W.heap.size W W') : Brow g c xs W' := Kd.R_below h hb
theorem Brow.C {g c : Nat} {xs : List Int} {W : World} (h : Brow g c xs W) : Kd.C (Kd.int .u8) W (some ⟨g, 0, none⟩) xs.length xs := (Kd.R_reads' h).2.2
theorem Brow.cap {g c : Nat} {xs : List Int} {W : World} (h : Brow g c xs W) : xs.length ≤ c := (Kd.R_reads' h).2.1
/-- All that was there stays. -/
abbrev Fr (w W : World) : Prop := Kp (fun k => w.heap.size ≤ k) w W
theorem Fr.below {w W : World} (h : Fr w W) : Below w.heap.size w W := Kp.below h (Nat.le_refl _) (fun k hk hg => by omega)
theorem Fr.then_below {w W W' : World} (h : Fr w W) (hb : Below W.heap.size W W') : Fr w W' := Kp.trans h (Kp.of_below (F := fun _ => False) hb) (fun q _ hq => hq.elim)
theorem Fr.then_kp {G : Nat → Prop} {w W W' : World} (h : Fr w W) (hk : Kp G W W') (hG : ∀ k, G k → w.heap.size ≤ k) : Fr w W' := Kp.trans h hk (fun q _ hq => hG q hq)
theorem Fr.refl (w : World) : Fr w w := Kp.refl _ _
section
variable {P : Program} {ops : Array Oper} {rest : List Oper} {o : Oper} {a : Act} {Q : Exit → Act → World → Prop}
/-- copy into a row of the law's own. -/
theorem copy_brow {W : World} (hgd : o.guard = none) (s x : Operand) (t t' : TypeId)
    (ho : o.op = .call { callee := .builtin .copy, args := #[s, x], argTypes := #[t, t'] }) (ht : P.underlying t = some (.slice 5)) (hinfo : (P.info? 5).map (·.size) = some 1)
    (g c : Nat) (xs ys : List Int) (A : Option Addr) (m n cc : Nat) (hn : n = xs.length) (hs : a.eval s = .slice (some ⟨g, 0, none⟩) n c) (hx : a.eval x = .slice A m cc)
    (HO : Brow g c xs W) (HR : Kd.C (Kd.int .u8) W A m ys)
    (h : ∀ w1, Brow g c (ys.take (min m xs.length) ++ xs.drop (min m xs.length)) w1 → Kp (fun k => k = g) W w1 → wpList P ops Q rest (a.put o.dst (.int .i64 ((min m xs.length : Nat) : Int))) w1) : wpList P ops Q (o :: rest) a W := by
  subst hn
  refine Kd.R_copy (enc := Value.int .u8) (h1 := fun _ => rfl) (0 : Int) (w0 := W) 0 hgd s x t t' 5 ho ht hinfo _ xs ys A m cc _ hs hx HO HR (Below.refl _ _) (Nat.zero_le _) ?_
  intro w1 hR hb hg
  refine h w1 ?_ (Kp.of_grown hg (fun q hq => by simpa [Value.ownBlock, eq_comm] using hq))
  have hl : (ys.take (min m xs.length) ++ xs.drop (min m xs.length)).length = xs.length := by
    have := HR.1
    simp only [List.length_append, List.length_take, List.length_drop]
    omega
  unfold Brow
  rw [hl]
  exact hR
end
end Go.Proofs.YthpholjelfajiaaDoor.G
