/- A disk in memory: its cells, its rows; and what a call leaves of all else. -/
import Derived.Test.YtckbdckeijanlaaHGoes
import Derived.Test.YtckbdckeijanlaaDskT
import Derived.Deep.MidRow
namespace Go.Proofs.Ytckbdckeijanlaa.G
open Go.RowKit Go.Proofs.YtckbdckeijanlaaW.PrintWords Go.Proofs.YtckbdckeijanlaaW.PrintLast Go.Proofs.YtckbdckeijanlaaW.PrintMore Go.Proofs.Ytckbdckeijanlaa.Dsk
set_option linter.unusedVariables false
set_option linter.unusedSimpArgs false

/-- A sector's bytes, as cells. -/
def bts (xs : List Int) : List Value := xs.map (Value.int .u8)
theorem bts_length (xs : List Int) : (bts xs).length = xs.length := List.length_map _
theorem bts_one (xs : List Int) : ∀ u ∈ bts xs, u.oneCell' = true := fun u hu => by
  obtain ⟨x, _, rfl⟩ := List.mem_map.1 hu
  rfl
def secK : Kd (List Int) where
  sz := 64
  E := []
  K := fun _ x cs => x.length = 64 ∧ cs = bts x
  M := fun _ _ _ x cs => x.length = 64 ∧ cs = bts x
  K_len := fun h => by rw [h.2, bts_length]; exact h.1
  K_one := fun h u hu => by rw [h.2] at hu; exact bts_one _ u hu
  K_below := fun _ h => h
  K_of_M := fun h => h
  M_mono := fun _ h => h
  M_bound := fun h => h
  M_move := fun _ h => h
  M_lower := fun _ h => h
def wrtK : Kd (Int × List Int) := Kd.pair (Kd.int .i64) secK
theorem wrtK_sz : wrtK.sz = 65 := rfl
def encW (w : Nat × List Int) : Int × List Int := ((w.1 : Int), w.2)
theorem wrtK_cells {W : World} {x : Int × List Int} {cs : List Value} (h : wrtK.K W x cs) : x.2.length = 64 ∧ cs = .int .i64 x.1 :: bts x.2 := by
  obtain ⟨c0, c1, rfl, h0, h1, h2⟩ := h
  have e0 : c0 = [.int .i64 x.1] := h0
  rw [e0, h2]
  exact ⟨h1, rfl⟩
theorem wrtK_M (W : World) (base : Nat) (ok : Nat → Prop) (x : Int × List Int) (hx : x.2.length = 64) : wrtK.M W base ok x (.int .i64 x.1 :: bts x.2) := ⟨[.int .i64 x.1], bts x.2, rfl, rfl, hx, rfl⟩

/-- A disk at block g, its blocks within F: its sectors in a block of their own, what waits in another. -/
structure Mem (F : Nat → Prop) (g gl cl : Nat) (d : Dk) (wv : Value) (W : World) : Prop where
  blk : W.heap[g]? = some (.cells #[.slice (some ⟨gl, 0, none⟩) d.lies.length cl, wv, .int .i64 (d.steps : Int), .bool d.left.isSome, .int .i64 ((d.left.getD 0 : Nat) : Int)] 51 (0, 0))
  fg : F g
  fl : F gl
  ne : gl ≠ g
  lies : secK.R 62 W 0 (fun k => k = gl) (.slice (some ⟨gl, 0, none⟩) d.lies.length cl) d.lies
  waits : wrtK.R 64 W 0 (fun k => F k ∧ k ≠ g ∧ k ≠ gl) wv (d.waits.map encW)
  ok : Ok d
theorem Mem.move {F : Nat → Prop} {g gl cl : Nat} {d : Dk} {wv : Value} {W W' : World} (h : Mem F g gl cl d wv W) (hm : ∀ k, F k → k < W.heap.size → W'.heap[k]? = W.heap[k]?) : Mem F g gl cl d wv W' :=
  ⟨(hm g h.fg (blk_lt h.blk)).trans h.blk, h.fg, h.fl, h.ne, Kd.R_step h.lies (fun k hk => hm k (hk ▸ h.fl)), Kd.R_step h.waits (fun k hk => hm k hk.1), h.ok⟩
theorem Mem.below {F : Nat → Prop} {g gl cl : Nat} {d : Dk} {wv : Value} {W W' : World} (h : Mem F g gl cl d wv W) (hb : Below W.heap.size W W') : Mem F g gl cl d wv W' := h.move fun k _ hk => hb.block k hk
theorem Mem.kp {F G : Nat → Prop} {g gl cl : Nat} {d : Dk} {wv : Value} {W W' : World} (h : Mem F g gl cl d wv W) (hb : Kp G W W') (hd : ∀ k, F k → ¬ G k) : Mem F g gl cl d wv W' := h.move fun k hk hlt => hb.block k hlt (hd k hk)
theorem Mem.mono {F G : Nat → Prop} {g gl cl : Nat} {d : Dk} {wv : Value} {W : World} (h : Mem F g gl cl d wv W) (hG : ∀ k, F k → G k) : Mem G g gl cl d wv W := ⟨h.blk, hG g h.fg, hG gl h.fl, h.ne, h.lies, Kd.R_mono h.waits (fun k hk => ⟨hG k hk.1, hk.2⟩), h.ok⟩
theorem Mem.cells {F : Nat → Prop} {g gl cl : Nat} {d : Dk} {wv : Value} {W : World} (h : Mem F g gl cl d wv W) :
    W.cell? ⟨g, 0, none⟩ = some (.slice (some ⟨gl, 0, none⟩) d.lies.length cl) ∧ W.cell? ⟨g, 1, none⟩ = some wv ∧ W.cell? ⟨g, 2, none⟩ = some (.int .i64 (d.steps : Int)) ∧ W.cell? ⟨g, 3, none⟩ = some (.bool d.left.isSome) ∧ W.cell? ⟨g, 4, none⟩ = some (.int .i64 ((d.left.getD 0 : Nat) : Int)) :=
  ⟨(blk_cell h.blk 0).trans rfl, (blk_cell h.blk 1).trans rfl, (blk_cell h.blk 2).trans rfl, (blk_cell h.blk 3).trans rfl, (blk_cell h.blk 4).trans rfl⟩
theorem Mem.free {F : Nat → Prop} {g gl cl : Nat} {d : Dk} {wv : Value} {W : World} (h : Mem F g gl cl d wv W) (i : Nat) : W.frozen? ⟨g, i, none⟩ = false := blk_frozen h.blk i
/-- Steps and stops: cells 2, 3, 4 alone. -/
theorem Mem.tail {F : Nat → Prop} {g gl cl : Nat} {d d' : Dk} {wv : Value} {W W' : World} (h : Mem F g gl cl d wv W) (hl : d'.lies = d.lies) (hw : d'.waits = d.waits)
    (hb : W'.heap[g]? = some (.cells #[.slice (some ⟨gl, 0, none⟩) d.lies.length cl, wv, .int .i64 (d'.steps : Int), .bool d'.left.isSome, .int .i64 ((d'.left.getD 0 : Nat) : Int)] 51 (0, 0)))
    (hm : ∀ k, k ≠ g → k < W.heap.size → W'.heap[k]? = W.heap[k]?) : Mem F g gl cl d' wv W' :=
  ⟨by rw [hl]; exact hb, h.fg, h.fl, h.ne, by rw [hl]; exact Kd.R_step h.lies (fun k hk => hm k (hk ▸ h.ne)), by rw [hw]; exact Kd.R_step h.waits (fun k hk => hm k hk.2.1), ⟨by rw [hl]; exact h.ok.some_, by rw [hl]; exact h.ok.lies, by rw [hl, hw]; exact h.ok.waits⟩⟩
/-- A sector's bytes lie in line. -/
theorem sec_at {W : World} {ad : Addr} {n : Nat} {xs : List (List Int)} (h : secK.C W (some ad) n xs) (j : Nat) (hj : j < n) (x : List Int) (hx : xs[j]? = some x) : x.length = 64 ∧ ∀ i u, (bts x)[i]? = some u → W.cell? (ad.add (j * 64 + i)) = some u := by
  obtain ⟨ad', e, hc⟩ := h.2.2 (by omega)
  injection e with e
  subst e
  obtain ⟨cs, hl, hk, hu⟩ := hc j x hx
  obtain ⟨h1, h2⟩ := hk
  subst h2
  exact ⟨h1, hu⟩
theorem sec_range {W : World} {gl : Nat} {n : Nat} {xs : List (List Int)} (h : secK.C W (some ⟨gl, 0, none⟩) n xs) (j : Nat) (hj : j < n) (x : List Int) (hx : xs[j]? = some x) : x.length = 64 ∧ W.rangeAt gl (j * 64) (bts x) := by
  obtain ⟨h1, h2⟩ := sec_at h j hj x hx
  refine ⟨h1, fun i u hu => ?_⟩
  have := h2 i u hu
  rw [Addr.add_mid, Nat.zero_add] at this
  exact this
theorem wrt_range {W : World} {gl : Nat} {n : Nat} {xs : List (Int × List Int)} (h : wrtK.C W (some ⟨gl, 0, none⟩) n xs) (j : Nat) (hj : j < n) (x : Int × List Int) (hx : xs[j]? = some x) : x.2.length = 64 ∧ W.rangeAt gl (j * 65) (.int .i64 x.1 :: bts x.2) := by
  obtain ⟨ad', e, hc⟩ := h.2.2 (by omega)
  injection e with e
  subst e
  obtain ⟨cs, hl, hk, hu⟩ := hc j x hx
  obtain ⟨h1, h2⟩ := wrtK_cells hk
  subst h2
  refine ⟨h1, fun i u hu' => ?_⟩
  have := hu i u hu'
  rw [Addr.add_mid, Nat.zero_add] at this
  exact this
/-- What a call on a disk leaves. -/
def MemPost (F : Nat → Prop) (g : Nat) (d : Dk) (W : World) (r : Ending) (e : Ending) (w' : World) : Prop := e = r ∧ ∃ gl cl wv F', Mem F' g gl cl d wv w' ∧ (∀ k, F' k → F k ∨ W.heap.size ≤ k) ∧ Kp F W w'
end Go.Proofs.Ytckbdckeijanlaa.G
