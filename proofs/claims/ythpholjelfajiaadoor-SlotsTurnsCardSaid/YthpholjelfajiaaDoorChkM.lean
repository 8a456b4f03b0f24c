/- Where a walk stands still, for a hand to go on. -/
import Derived.Test.YthpholjelfajiaaDoorX0
import Derived.Laws.Cover3
import Derived.Laws.CopyOwn
namespace Go.Proofs.YthpholjelfajiaaDoor.G
def Halt (p : Prop) : Prop := p
theorem of_halt {p : Prop} (h : Halt p) : p := h
end Go.Proofs.YthpholjelfajiaaDoor.G
/- An append of a whole row in a region that draws its order (for seats without sums/HTab). By hand. -/
namespace Go.Proofs.YthpholjelfajiaaDoor.G
open Go.RowKit Go.Proofs.YthpholjelfajiaaDoorW.PrintWords Go.Proofs.YthpholjelfajiaaDoorW.PrintLast Go.Proofs.YthpholjelfajiaaDoorW.PrintMore
set_option linter.unusedVariables false
set_option linter.unusedSimpArgs false

/-- An append of a whole row, as one step of a region that draws its order. -/
theorem step_append_row {P : Program} {ops : Array Oper} {o : Oper} {a : Act} {Q : Exit → Act → World → Prop} {K : Act → World → Prop} (k : IntKind) {w0 W : World} (base : Nat) (hw : Region.wanted o (yielded ops a.tmps) = true) (s x : Operand) (t e : TypeId) (bytes : Nat)
    (ho : o.op = .call { callee := .builtin .append, args := #[s, x], argTypes := #[t, t] })
    (ht : P.underlying t = some (.slice e)) (hinfo : (P.info? e).map (fun i => (i.zero, i.size, i.bytes)) = some (some (.int k 0), 1, bytes)) (hb0 : 0 < bytes)
    (v : Value) (xs ys : List Int) (A : Option Addr) (m c : Nat) (ok : Nat → Prop) (hs : a.eval s = v) (hx : a.eval x = .slice A m c) (hfresh : ∀ k, W.heap.size ≤ k → ok k)
    (HO : Kd.R (Kd.int k) e W base ok v xs) (HR : Kd.C (Kd.int k) W A m ys) (HB : Below base w0 W) (hbase : base ≤ W.heap.size) (hl : (xs.length + m) * bytes ≤ 140737488355328)
    (h : ∀ v1 w1, Kd.R (Kd.int k) e w1 base ok v1 (xs ++ ys) → Below base w0 w1 → W.grownBy w1 v.ownBlock → (v1.ownBlock = v.ownBlock ∨ ∃ b, v1.ownBlock = some b ∧ W.heap.size ≤ b) → K (a.put o.dst v1) w1) :
    if Region.wanted o (yielded ops a.tmps) = true then Oper.wp P o a W K Q else K (a.put o.dst undef) W := by
  obtain ⟨i0, hi, hzz⟩ := Option.map_eq_some_iff.1 hinfo
  simp only [Prod.mk.injEq] at hzz
  obtain ⟨hz0, hz1, hz2⟩ := hzz
  have HO' := Kd.own_of_R (enc := Value.int k) (h1 := fun _ => rfl) HO
  have HR' := Kd.reads_of_C (enc := Value.int k) (h1 := fun _ => rfl) (d := (0 : Int)) HR
  have hm : ys.length = m := HR'.1
  have hlen : xs.length + m ≤ 140737488355328 := Nat.le_trans (Nat.le_mul_of_pos_right _ hb0) hl
  have hrun : ∃ v1 w1, (Builtin.append_ #[t, t] o.type #[v, .slice A m c]).run P W = .ok v1 w1 ∧ w1.ownsRow base e 1 v1 (xs ++ ys).length (encs (Value.int k) (xs ++ ys)) ∧ W.grownBy w1 v.ownBlock ∧ (v1.ownBlock = v.ownBlock ∨ v1.ownBlock = some W.heap.size) := by
    rcases A with _ | ad
    · have h0 : m = 0 := by
        rcases Nat.eq_zero_or_pos m with h0 | h0
        · exact h0
        · obtain ⟨ad, h, _⟩ := HR'.2.2 h0
          cases h
      subst h0
      obtain rfl : ys = [] := List.eq_nil_of_length_eq_zero hm
      refine ⟨v, W, ?_, by simpa using HO', World.grownBy.refl W _, .inl rfl⟩
      rcases HO'.2 with ⟨rfl, hn⟩ | ⟨g, cap, cur, rfl, _, _, hnc, _⟩
      · simp [Builtin.append_, run_underlying ht, sizeOf, typeInfo, hi, Builtin.lenOf, Builtin.firstCells]
      · simp [Builtin.append_, run_underlying ht, sizeOf, typeInfo, hi, Builtin.lenOf, Builtin.firstCells, hnc, storeCells]
    · have hcells : ∀ j u, (encs (Value.int k) ys)[j]? = some u → W.cell? (ad.add j) = some u := by
        intro j u hu
        have hj : j < ys.length := by
          rcases Nat.lt_or_ge j ys.length with h | h
          · exact h
          · simp [encs, List.getElem?_eq_none h] at hu
        obtain ⟨ad', h', hc⟩ := HR'.2.2 (by omega)
        injection h' with h'
        subst h'
        rw [encs_get (d := (0 : Int)) ys j hj] at hu
        rw [← hu]
        exact hc j (by omega)
      obtain ⟨v1, w1, hr, h2, h3, _, h5⟩ := run_append_own_at (P := P) W base t o.type e i0 (.int k 0) 1 bytes ht hi hz0 hz1 hz2 rfl (by omega) v xs.length (encs (Value.int k) xs) HO' ad m c (encs (Value.int k) ys) (by simp [encs, hm]) hcells
        (by intro u hu; simp only [encs, List.mem_map] at hu; obtain ⟨q, _, rfl⟩ := hu; rfl) (by simp only [maxLen]; omega) hl hbase
      exact ⟨v1, w1, hr, by simpa [encs, hm] using h2, h3, h5⟩
  obtain ⟨v1, w1, hr, hown, hg, hat⟩ := hrun
  rw [if_pos hw]
  unfold Oper.wp execOp
  simp only [ho, resolve, invoke, builtin, Sem.run_bind, Sem.run_pure, Result.andThen_ok, List.map_toArray, List.map_cons, List.map_nil, hs, hx, hr]
  have hat' : v1.ownBlock = v.ownBlock ∨ ∃ b, v1.ownBlock = some b ∧ W.heap.size ≤ b := hat.imp id (fun h => ⟨_, h, Nat.le_refl _⟩)
  refine h v1 w1 (Kd.R_of_own hown (fun j hk => ?_)) (HB.grown hg hbase (own_base HO')) hg hat'
  rcases hat' with e1 | ⟨b, e1, hbb⟩
  · exact HO.1 j (by rw [← e1]; exact hk)
  · rw [e1] at hk
    injection hk with hk
    subst hk
    exact hfresh _ hbb
end Go.Proofs.YthpholjelfajiaaDoor.G
/- The table of halves: what the world must hold, in the form of a row that is read. -/
namespace Go.Proofs.YthpholjelfajiaaDoor.G
open Go.RowKit Go.Proofs.YthpholjelfajiaaDoorW.PrintWords Go.Proofs.YthpholjelfajiaaDoorW.PrintLast Go.Proofs.YthpholjelfajiaaDoorW.PrintMore

def halves : List Int := [0, 498536548, 997073096, 651767980, 1994146192, 1802195444, 1303535960, 1342533948, 3988292384, 4027552580, 3604390888, 3412177804, 2607071920, 2262029012, 2685067896, 3183342108]
/-- The table's cells lie in block 0. -/
abbrev Tab (w : World) : Prop := Kd.C (Kd.int .u32) w (some ⟨0, 0, none⟩) 16 halves
theorem Tab.at_ {w : World} (h : Tab w) (j : Int) (h0 : 0 ≤ j) (h1 : j < 16) : w.cell? ⟨0, j.toNat, none⟩ = some (.int .u32 (rd halves j)) := by
  obtain ⟨ad, e, hx⟩ := Kd.at_int h j h0 h1
  injection e with e
  subst e
  obtain ⟨n, rfl⟩ := Int.eq_ofNat_of_zero_le h0
  rw [← hx]
  congr 1
  cases n <;> simp [Addr.add]
/-- Out of the sixteen cells. -/
theorem Tab.of_cells {w : World} (h : ∀ i, i < 16 → w.cell? ⟨0, i, none⟩ = some (.int .u32 (halves.getD i 0))) : Tab w := by
  refine Kd.C_of_reads (d := (0 : Int)) (h1 := fun _ => rfl) (enc := fun x => Value.int .u32 x) ⟨rfl, by decide, fun _ => ⟨_, rfl, fun j hj => ?_⟩⟩
  rw [← h j hj]
  congr 1
  cases j <;> simp [Addr.add]

/-- The cells of a block, as a row that is read. -/
theorem C_block {k : IntKind} {w : World} {g : Nat} {ty : TypeId} {fr : Nat × Nat} {cs : Array Value} (xs : List Int) (h : w.heap[g]? = some (.cells cs ty fr)) (hc : cs = (xs.map (Value.int k)).toArray) (hl : xs.length ≤ 9223372036854775807) : Kd.C (Kd.int k) w (some ⟨g, 0, none⟩) xs.length xs := by
  refine Kd.C_of_reads (d := (0 : Int)) (h1 := fun _ => rfl) (enc := fun x => Value.int k x) ⟨rfl, hl, fun _ => ⟨_, rfl, fun j hj => ?_⟩⟩
  rw [show (Addr.add ⟨g, 0, none⟩ j) = ⟨g, j, none⟩ by cases j <;> simp [Addr.add], cell_of_row w g j cs ty fr h, hc]
  simp [hj]
end Go.Proofs.YthpholjelfajiaaDoor.G
/- sums.More by hand. -/
namespace Go.Proofs.YthpholjelfajiaaDoor.G
open Go.RowKit Go.Proofs.YthpholjelfajiaaDoorW.PrintWords Go.Proofs.YthpholjelfajiaaDoorW.PrintLast Go.Proofs.YthpholjelfajiaaDoorW.PrintMore
set_option linter.unusedVariables false
set_option linter.unusedSimpArgs false

theorem bits32_range (op : BinOp) (x y : Int) : 0 ≤ Go.bits op .u32 x y ∧ Go.bits op .u32 x y < 4294967296 := by
  have : ∀ n : Int, 0 ≤ IntKind.u32.wrap n ∧ IntKind.u32.wrap n < 4294967296 := fun n => by
    rw [show IntKind.u32.wrap n = n % 4294967296 by simp [IntKind.wrap, IntKind.bits, IntKind.signed]]; omega
  unfold Go.bits
  exact this _
theorem and15 (s : Int) (h0 : 0 ≤ s) (h1 : s < 4294967296) : Go.bits .and .u32 s 15 = s % 16 := by
  have := bits_mask .u32 32 (by decide) (fun n a b => by rw [IntKind.wrap_u32]; omega) 4 (by decide) s h0 (by omega)
  simpa using this
/-- half of a byte -/
def nib (s : Int) : Int := Go.bits .xor .u32 (s / 16) (rd halves (Go.bits .and .u32 s 15))
/-- a byte -/
def more1 (s c : Int) : Int := nib (nib (Go.bits .xor .u32 s (c % 4294967296)))
def not32 (s : Int) : Int := Go.bits .xor .u32 IntKind.u32.max s
def sums_More.f (a0 : Int) (l1 : List Int) : Option Int := if l1.length < 4611686018427387904 then some (not32 (l1.foldl more1 (not32 a0))) else none
theorem nib_at {w : World} (hT : Tab w) (s : Int) (h : 0 ≤ s ∧ s < 4294967296) : (0 ≤ Go.bits .and .u32 s 15) ∧ (Go.bits .and .u32 s 15 < 16) ∧ w.cell? ⟨0, (Go.bits .and .u32 s 15).toNat, none⟩ = some (.int .u32 (rd halves (Go.bits .and .u32 s 15))) := by
  have := and15 s h.1 h.2
  have h0 : 0 ≤ Go.bits .and .u32 s 15 := by omega
  have h1 : Go.bits .and .u32 s 15 < 16 := by omega
  exact ⟨h0, h1, hT.at_ _ h0 h1⟩
theorem foldl_rd {α : Type} {f : α → Int → α} {l : List Int} {x : Int} (h0 : 0 ≤ x) (h1 : x < (l.length : Int)) (a : α) : (l.drop x.toNat).foldl f a = (l.drop (x + 1).toNat).foldl f (f a (rd l x)) := by
  have hx : x.toNat < l.length := by omega
  rw [List.drop_eq_getElem_cons hx, List.foldl_cons, show (x + 1).toNat = x.toNat + 1 by omega]
  congr 2
  simp [rd, hx]
set_option maxHeartbeats 8000000 in
set_option maxRecDepth 100000 in
theorem sums_More.calls (a0 : Int) (A1 : Option Addr) (c1 : Nat) (l1 : List Int) (r : Int) (w : World) (hT : Tab w) (hr1 : Kd.C (Kd.int .u8) w A1 l1.length l1) (hc1 : l1.length ≤ c1) (h : sums_More.f a0 l1 = some r) :
    Calls Tryd.prog 73 #[.int .u32 a0, .slice A1 l1.length c1] w fun e w' => e = .returned (.int .u32 r) ∧ Drawn0 w w' := by
  have HR1 := Aside0.mk hr1
  have HC1 := Aside0.mk hc1
  have HT := Aside0.mk hT
  clear hr1 hc1 hT
  have HLN : Aside0 (l1.length < 4611686018427387904) := ⟨by unfold sums_More.f at h; split at h; assumption; simp at h⟩
  have H : Aside0 (not32 (l1.foldl more1 (not32 a0)) = r) := ⟨by unfold sums_More.f at h; split at h; exact Option.some.inj h; simp at h⟩
  clear h
  have hsg : IntKind.u32.signed = false := rfl
  go_enter Tryd.func73, Tryd.ntmps73
  go_wp2
  go_loopg [0, 11] (l1.length + 1) (fun kq v0 v11 w' => ∃ (x0 : Int) (x11 : Int), v0 = .int .u32 x0 ∧ v11 = .int .i64 x11 ∧ Aside0 (0 ≤ x0 ∧ x0 < 4294967296) ∧ Aside0 (0 ≤ x11 ∧ x11 ≤ l1.length) ∧ Aside0 (kq + x11.toNat = l1.length + 1) ∧ Aside0 (not32 ((l1.drop x11.toNat).foldl more1 x0) = r) ∧ Drawn0 w w')
  case atStart => exact ⟨_, 0, rfl, rfl, ⟨bits32_range _ _ _⟩, ⟨by omega⟩, ⟨rfl⟩, ⟨H.out⟩, Drawn0.refl _⟩
  case round =>
    obtain ⟨x0, x11, rfl, rfl, HX, HI, HK, HA, ⟨m, rfl⟩⟩ := hrel
    have HC := Aside0.mk (show Kd.C (Kd.int .u8) (w.drewN m) A1 l1.length l1 from HR1.out)
    have HT2 := Aside0.mk (show Tab (w.drewN m) from HT.out)
    by_cases c2 : x11 < (l1.length : Int)
    · have c2b : decide (x11 < (l1.length : Int)) = true := decide_eq_true c2
      obtain ⟨ad, e, hx⟩ := Kd.at_int HC.out x11 HI.out.1 c2
      cases e
      have p1 : (0 ≤ x11) = True := eq_true HI.out.1
      have q1 : (x11 < (l1.length : Int)) = True := eq_true c2
      have HC2 := Aside0.mk c2
      clear c2
      obtain ⟨p2, q2, hx2⟩ := nib_at HT2.out _ (bits32_range .xor x0 (rd l1 x11 % 4294967296))
      replace p2 := eq_true p2
      replace q2 := eq_true q2
      obtain ⟨p3, q3, hx3⟩ := nib_at HT2.out _ (bits32_range .xor (Go.bits .xor .u32 x0 (rd l1 x11 % 4294967296) / 16) (rd halves (Go.bits .and .u32 (Go.bits .xor .u32 x0 (rd l1 x11 % 4294967296)) 15)))
      replace p3 := eq_true p3
      replace q3 := eq_true q3
      go_wp2
      go_roundg (gk - 1)
      case measure => have := HK.out; have := HI.out; have := HC2.out; omega
      case rel => exact ⟨_, x11 + 1, rfl, by rw [show wrap64 (x11 + 1) = x11 + 1 from by have := HI.out; have := HLN.out; unfold wrap64; omega], ⟨bits32_range _ _ _⟩, ⟨by have := HI.out; have := HC2.out; omega⟩, ⟨by have := HK.out; have := HI.out; have := HC2.out; omega⟩, ⟨by rw [← HA.out, foldl_rd HI.out.1 HC2.out x0]; rfl⟩, ⟨m, rfl⟩⟩
    · have h4 : x11 = l1.length := by have := HI.out; omega
      have c2b : decide (x11 < (l1.length : Int)) = false := decide_eq_false c2
      go_wp2
      go_ret
      refine ⟨?_, ⟨m, rfl⟩⟩
      rw [← HA.out, h4]
      simp [not32]
end Go.Proofs.YthpholjelfajiaaDoor.G
/- sums.four, sums.Crc and sums.Seal by hand. -/
namespace Go.Proofs.YthpholjelfajiaaDoor.G
open Go.RowKit Go.Proofs.YthpholjelfajiaaDoorW.PrintWords Go.Proofs.YthpholjelfajiaaDoorW.PrintLast Go.Proofs.YthpholjelfajiaaDoorW.PrintMore
set_option linter.unusedVariables false
set_option linter.unusedSimpArgs false

def sums_Crc.f (l0 : List Int) : Option Int := sums_More.f 0 l0
set_option maxHeartbeats 8000000 in
set_option maxRecDepth 100000 in
theorem sums_Crc.calls (A0 : Option Addr) (c0 : Nat) (l0 : List Int) (r : Int) (w : World) (hT : Tab w) (hr0 : Kd.C (Kd.int .u8) w A0 l0.length l0) (hc0 : l0.length ≤ c0) (h : sums_Crc.f l0 = some r) :
    Calls Tryd.prog 63 #[.slice A0 l0.length c0] w fun e w' => e = .returned (.int .u32 r) ∧ Drawn0 w w' := by
  have C := Aside0.mk (sums_More.calls 0 A0 c0 l0 r w hT hr0 hc0 h)
  go_enter Tryd.func63, Tryd.ntmps63
  go_wp2_with (first | ((with_reducible refine gate_callee (f := 73) rfl ?_); refine goesL_ (some 4) rfl rfl Tryd.func73 (by kernel_rfl) rfl #[.int .u32 0, .slice A0 l0.length c0] rfl (by (try simp only [List.map_toArray, List.map_cons, List.map_nil]); first | done | rfl) ?_; refine (C.out).mono ?_; rintro e w' ⟨rfl, ⟨nd, rfl⟩⟩; refine ⟨_, rfl, ?_⟩))
  go_ret
  exact ⟨rfl, ⟨nd, rfl⟩⟩

/-- a sum's bytes -/
def bytes4 (s : Int) : List Int := [s % 256, s / 256 % 256, s / 65536 % 256, s / 16777216 % 256]
set_option maxHeartbeats 8000000 in
set_option maxRecDepth 100000 in
theorem sums_four.calls (a0 : Int) (w : World) :
    Calls Tryd.prog 62 #[.int .u32 a0] w fun e w' => e = .returned (.agg #[.int .u8 (a0 % 256), .int .u8 (a0 / 256 % 256), .int .u8 (a0 / 65536 % 256), .int .u8 (a0 / 16777216 % 256)]) ∧ Below w.heap.size w w' := by
  go_enter Tryd.func62, Tryd.ntmps62
  go_wp2
  refine bodyPost_ret (results_single rfl (.cell w.heap.size 125 _ (0, 0) _ rfl (blk_new w _) Tryd.underlying125 rfl (by kernel_rfl) .nil)) rfl ?_
  exact ⟨rfl, (Below.refl _ _).alloc (Nat.le_refl _) _⟩

def sums_Seal.f (l0 : List Int) : Option (List Int) := (sums_Crc.f l0).bind fun s => if l0.length < 140737488355324 then some (l0 ++ bytes4 s) else none
set_option maxHeartbeats 8000000 in
set_option maxRecDepth 100000 in
theorem sums_Seal.calls (A0 : Option Addr) (c0 : Nat) (l0 : List Int) (r : List Int) (w : World) (hT : Tab w) (hr0 : Kd.C (Kd.int .u8) w A0 l0.length l0) (hc0 : l0.length ≤ c0) (h : sums_Seal.f l0 = some r) :
    Calls Tryd.prog 47 #[.slice A0 l0.length c0] w fun e w' => ∃ v0_, e = .returned v0_ ∧ Kd.R (Kd.int .u8) 5 w' w.heap.size (fun _ => True) v0_ r ∧ Below w.heap.size w w' := by
  obtain ⟨s, hs, h⟩ := Option.bind_eq_some_iff.1 h
  have hl : l0.length < 140737488355324 := by split at h; assumption; simp at h
  rw [if_pos hl] at h
  obtain rfl := Option.some.inj h
  have C := Aside0.mk (sums_Crc.calls A0 c0 l0 s w hT hr0 hc0 hs)
  have HR := Aside0.mk hr0
  have hl1 : (0 : Int) ≤ (l0.length : Int) + 4 := by omega
  clear h hs hr0
  have info5 : (Tryd.prog.info? 5).map (fun i => (i.zero, i.size, i.bytes)) = some (some (.int .u8 0), 1, 1) := by kernel_rfl
  obtain ⟨i5, hi5, hi5z, hi5s, hi5b⟩ := info_parts info5
  go_enter Tryd.func47, Tryd.ntmps47
  go_upto_region 2 with (first | ((with_reducible refine gate_callee (f := 63) rfl ?_); refine goesL_ (some 6) rfl rfl Tryd.func63 (by kernel_rfl) rfl #[.slice A0 l0.length c0] rfl (by (try simp only [List.map_toArray, List.map_cons, List.map_nil]); first | done | rfl) ?_; refine (C.out).mono ?_; rintro e w' ⟨rfl, ⟨nd, rfl⟩⟩; refine ⟨_, rfl, ?_⟩) | ((with_reducible refine gate_callee (f := 62) rfl ?_); refine goesL_ (some 7) rfl rfl Tryd.func62 (by kernel_rfl) rfl #[.int .u32 s] rfl (by (try simp only [List.map_toArray, List.map_cons, List.map_nil]); first | done | rfl) ?_; refine (sums_four.calls s (w.drewN nd)).mono ?_; rintro e w1 ⟨rfl, hb⟩; refine ⟨_, rfl, ?_⟩))
  have hsz : w.heap.size ≤ w1.heap.size := hb.size
  have hBW : Below w.heap.size w (w1.alloc (Obj.cells #[.int .u8 (s % 256), .int .u8 (s / 256 % 256), .int .u8 (s / 65536 % 256), .int .u8 (s / 16777216 % 256)] 125)) := ((show Below w.heap.size w (w.drewN nd) from ⟨rfl, rfl, rfl, Nat.le_refl _, fun _ _ => rfl⟩).trans hb).alloc hsz _
  have hce := heap_alloc_new w1 (Obj.cells #[.int .u8 (s % 256), .int .u8 (s / 256 % 256), .int .u8 (s / 65536 % 256), .int .u8 (s / 16777216 % 256)] 125)
  clear hb
  generalize w1.heap.size = g at *
  generalize (w1.alloc (Obj.cells #[.int .u8 (s % 256), .int .u8 (s / 256 % 256), .int .u8 (s / 65536 % 256), .int .u8 (s / 16777216 % 256)] 125)) = W2 at *
  have HW := Aside0.mk hBW
  have HCE := Aside0.mk hce
  clear hBW hce
  go_wp2_with (first | ((with_reducible refine gate_dst (N := 11) rfl ?_); refine of_halt ?_))
  unfold Halt
  refine wpList_make_own _ rfl (.const (.int .i64 0)) (.tmp 10) 22 rfl w.heap.size 5 i5 (.int .u8 0) 1 Tryd.underlying22 hi5 hi5z hi5s .i64 .i64 ((l0.length : Int) + 4) (l0.length + 4) rfl rfl (by omega) (by rw [hi5b]; omega) (by unfold maxLen; omega) HW.out.size ?_
  intro w3 hown hgr
  have HW3 := Aside0.mk (HW.out.grown hgr HW.out.size (by simp))
  have HCE3 := Aside0.mk (blk_grown HCE.out hgr (by simp))
  have HO := Aside0.mk (show Kd.R (Kd.int .u8) 5 w3 w.heap.size (fun k => True) _ [] from Kd.R_of_own (enc := Value.int .u8) (h1 := fun _ => rfl) hown (fun _ _ => trivial))
  go_upto_region 3 with (fail)
  have hgne : g ≠ W2.heap.size := Nat.ne_of_lt (blk_lt HCE.out)
  refine start_ (n := 6) (S := fun w' => True) (ds := []) #[false, false, false, false, false, false] (by kernel_rfl) rfl rfl trivial (fun hHeld => ?_)
  refine pure_ (i := 0) (N := some 12) (v := ?_) (a' := ?_) #[true, false, false, false, false, false] rfl rfl (by kernel_rfl) (fun _ _ _ h => h) (Or.inl ⟨by rfl, ?_⟩) ?_ ?_
  rotate_left
  · intro w'
    go_simp
    with_reducible rfl
  rotate_left
  · simp only [Act.put, List.setIfInBounds_toArray, List.set_cons_zero, List.set_cons_succ, i64_w, i32_w]
    rfl
  refine pure_ (i := 1) (N := some 13) (v := ?_) (a' := ?_) #[true, true, false, false, false, false] rfl rfl (by kernel_rfl) (fun _ _ _ h => h) (Or.inl ⟨by rfl, ?_⟩) ?_ ?_
  rotate_left
  · intro w'
    go_simp
    with_reducible rfl
  rotate_left
  · simp only [Act.put, List.setIfInBounds_toArray, List.set_cons_zero, List.set_cons_succ, i64_w, i32_w]
    rfl
  refine pure_ (i := 3) (N := some 15) (v := ?_) (a' := ?_) #[true, true, false, true, false, false] rfl rfl (by kernel_rfl) (fun _ _ _ h => h) (Or.inl ⟨by rfl, ?_⟩) ?_ ?_
  rotate_left
  · intro w'
    go_simp
    with_reducible rfl
  rotate_left
  · simp only [Act.put, List.setIfInBounds_toArray, List.set_cons_zero, List.set_cons_succ, i64_w, i32_w]
    rfl
  refine one_ (i := 2) (N := some 14) #[true, true, true, true, false, false] rfl rfl (by kernel_rfl) (by decide) (fun K hK => ?_)
  refine step_append_row .u8 (w0 := w) w.heap.size (by rfl) (.tmp 12) (.tmp 13) 22 5 1 rfl Tryd.underlying22 info5 (by omega) (.slice (some ⟨W2.heap.size, 0, none⟩) 0 (l0.length + 4)) [] l0 A0 l0.length c0 (fun _ => True) rfl rfl (fun _ _ => trivial) (Kd.R_drew HO.out) (Kd.C_drew (Kd.C_below HR.out HW3.out)) (below_drew1 HW3.out) HW3.out.size (by simp; omega) ?_
  intro v4 w4 ho4 hb4 hg4 hat4
  have HO4 := Aside0.mk ho4
  have HW4 := Aside0.mk hb4
  have HCE4 := Aside0.mk (blk_grown (blk_drew HCE3.out) hg4 (by simp [Value.ownBlock, hgne]))
  clear ho4 hb4 hg4 hat4
  refine hK.out _ _ trivial (fun hHeld => ?_)
  clear hK K
  refine norm_ (a' := ?_) ?_ ?_
  rotate_left
  · show Act.put _ (some 14) _ = _
    simp only [Act.put, List.setIfInBounds_toArray, List.set_cons_zero, List.set_cons_succ, i64_w, i32_w]
    rfl
  refine one_ (i := 4) (N := some 16) #[true, true, true, true, true, false] rfl rfl (by kernel_rfl) (by decide) (fun K hK => ?_)
  refine step_append_row .u8 (w0 := w) w.heap.size (by rfl) (.tmp 14) (.tmp 15) 22 5 1 rfl Tryd.underlying22 info5 (by omega) v4 ([] ++ l0) (bytes4 s) (some ⟨g, 0, none⟩) 4 4 (fun _ => True) rfl rfl (fun _ _ => trivial) HO4.out (C_block (bytes4 s) HCE4.out rfl (by simp [bytes4])) HW4.out HW4.out.size (by simp [bytes4]; omega) ?_
  intro v5 w5 ho5 hb5 hg5 hat5
  have HO5 := Aside0.mk ho5
  have HW5 := Aside0.mk hb5
  clear ho5 hb5 hg5 hat5
  refine hK.out _ _ trivial (fun hHeld => ?_)
  clear hK K
  refine norm_ (a' := ?_) ?_ ?_
  rotate_left
  · show Act.put _ (some 16) _ = _
    simp only [Act.put, List.setIfInBounds_toArray, List.set_cons_zero, List.set_cons_succ, i64_w, i32_w]
    rfl
  refine pure_ (i := 5) (N := some 2) (v := ?_) (a' := ?_) #[true, true, true, true, true, true] rfl rfl (by kernel_rfl) (fun _ _ _ h => h) (Or.inl ⟨by rfl, ?_⟩) ?_ ?_
  rotate_left
  · intro w'
    go_simp
    with_reducible rfl
  rotate_left
  · simp only [Act.put, List.setIfInBounds_toArray, List.set_cons_zero, List.set_cons_succ, i64_w, i32_w]
    rfl
  refine done_ (by kernel_rfl) ?_
  go_wp2
  go_ret
  exact ⟨_, rfl, HO5.out, HW5.out⟩
end Go.Proofs.YthpholjelfajiaaDoor.G
/- Arrays of whole numbers as values: loading one from a place, comparing two, a slice's array. -/
namespace Go.Proofs.YthpholjelfajiaaDoor.G
open Go.RowKit Go.Proofs.YthpholjelfajiaaDoorW.PrintWords Go.Proofs.YthpholjelfajiaaDoorW.PrintLast Go.Proofs.YthpholjelfajiaaDoorW.PrintMore

theorem load_ints {P : Program} (w : World) (ty e : TypeId) (n : Nat) (k : IntKind) (ad : Addr) (xs : List Int) (hu : P.underlying ty = some (.array n e)) (hi : (P.info? ty).map (·.size) = some n) (hx : xs.length = n)
    (hc : ∀ j, j < n → w.cell? (ad.add j) = some (.int k (xs.getD j 0))) : (Instr.loadAt ty (.pointer (some ad))).run P w = .ok (.agg (xs.map (Value.int k)).toArray) w := by
  have hl : (loadCells ad (xs.map (Value.int k)).length).run P w = .ok (xs.map (Value.int k)).toArray w :=
    run_loadCells_list (P := P) w ad _ (fun j v hv => by
      rw [List.getElem?_map] at hv
      cases hj : xs[j]? with
      | none => simp [hj] at hv
      | some x =>
        simp only [hj, Option.map_some, Option.some.injEq] at hv
        have hlt := (List.getElem?_eq_some_iff.1 hj).1
        rw [hc j (by omega), ← hv]
        simp [List.getD, hj])
  cases hq : P.info? ty with
  | none => simp [hq] at hi
  | some i =>
    have hs : i.size = (xs.map (Value.int k)).length := by simpa [hq, hx] using hi
    have hagg : (isAgg ty).run P w = .ok true w := by
      unfold isAgg
      rw [Sem.run_bind, run_underlying hu w]
      simp
    simp only [Instr.loadAt, Instr.sureAddr, Sem.run_bind, Sem.run_pure, Result.andThen_ok]
    simp [loadVar, Sem.run_bind, hagg, sizeOf, typeInfo, hq, hs]
    rw [show xs.length = (xs.map (Value.int k)).length by simp, hl]
    simp
theorem all_range_ints : ∀ (xs ys : List Int), xs.length = ys.length → ((List.range xs.length).all fun i => xs.getD i 0 == ys.getD i 0) = (xs == ys)
  | [], [], _ => rfl
  | x :: xs, y :: ys, h => by
    have ih := all_range_ints xs ys (by simpa using h)
    rw [List.length_cons, List.range_succ_eq_map, List.all_cons, List.all_map]
    simp only [List.getD_cons_zero, Function.comp_def, List.getD_cons_succ, ih]
    simp [List.cons_beq_cons]
  | [], _ :: _, h => by simp at h
  | _ :: _, [], h => by simp at h
theorem equal_ints {P : Program} (w : World) (d : Nat) (t e : TypeId) (n : Nat) (k : IntKind) (ht : P.underlying t = some (.array n e)) (he : P.underlying e = some (.int k)) (hsz : (P.info? e).map (·.size) = some 1)
    (xs ys : List Int) (hx : xs.length = n) (hy : ys.length = n) :
    (Op.equalIn (d + 2) t (.agg (xs.map (Value.int k)).toArray) (.agg (ys.map (Value.int k)).toArray)).run P w = .ok (xs == ys) w := by
  have hsz' : ∀ w, (sizeOf e).run P w = .ok 1 w := by
    intro w
    cases hq : P.info? e with
    | none => simp [hq] at hsz
    | some i => simp [sizeOf, typeInfo, hq] at hsz ⊢; exact hsz
  rw [← all_range_ints xs ys (hx.trans hy.symm), hx, List.range_eq_range', Op.equalIn]
  simp only [Sem.run_bind, run_underlying ht, Result.andThen_ok, hsz', Std.Legacy.Range.forIn_eq_forIn_range', Std.Legacy.Range.size, Nat.sub_zero, Nat.add_sub_cancel, Nat.div_one]
  have hl : ∀ i ∈ List.range' 0 n 1, i < n := fun i hi => by simpa using (List.mem_range'_1.1 hi).2
  generalize List.range' 0 n 1 = l at hl ⊢
  induction l with
  | nil => simp
  | cons i l ih =>
    have hi : i < n := hl i (by simp)
    have px : (part e (xs.map (Value.int k)).toArray (i * 1)).run P w = .ok (.int k (xs.getD i 0)) w := by
      simp [part, isAgg, run_underlying he, List.getD, List.getElem?_eq_getElem (show i < xs.length by omega)]
    have py : (part e (ys.map (Value.int k)).toArray (i * 1)).run P w = .ok (.int k (ys.getD i 0)) w := by
      simp [part, isAgg, run_underlying he, List.getD, List.getElem?_eq_getElem (show i < ys.length by omega)]
    have pe : (Op.equalIn (d + 1) e (.int k (xs.getD i 0)) (.int k (ys.getD i 0))).run P w = .ok (xs.getD i 0 == ys.getD i 0) w := by
      rw [run_equalIn_int w d e k k _ _ he]
    simp only [List.forIn_cons, Sem.run_bind, px, py, pe, Result.andThen_ok, List.all_cons]
    cases hb : (xs.getD i 0 == ys.getD i 0)
    · simp
    · simp only [Bool.not_true, Bool.false_eq_true, if_false, Sem.run_pure, Result.andThen_ok, Bool.true_and]
      exact ih fun j hj => hl j (by simp [hj])
theorem neq_ints {P : Program} (w : World) (t e : TypeId) (n : Nat) (k : IntKind) (ht : P.underlying t = some (.array n e)) (he : P.underlying e = some (.int k)) (hsz : (P.info? e).map (·.size) = some 1)
    (xs ys : List Int) (hx : xs.length = n) (hy : ys.length = n) :
    (binOp .neq t (.agg (xs.map (Value.int k)).toArray) (.agg (ys.map (Value.int k)).toArray)).run P w = .ok (.bool (!(xs == ys))) w := by
  rw [run_neq_struct, equal_ints w 9998 t e n k ht he hsz xs ys hx hy]
  rfl
theorem eql_ints {P : Program} (w : World) (t e : TypeId) (n : Nat) (k : IntKind) (ht : P.underlying t = some (.array n e)) (he : P.underlying e = some (.int k)) (hsz : (P.info? e).map (·.size) = some 1)
    (xs ys : List Int) (hx : xs.length = n) (hy : ys.length = n) :
    (binOp .eql t (.agg (xs.map (Value.int k)).toArray) (.agg (ys.map (Value.int k)).toArray)).run P w = .ok (.bool (xs == ys)) w := by
  rw [run_eql_struct, equal_ints w 9998 t e n k ht he hsz xs ys hx hy]
  rfl
end Go.Proofs.YthpholjelfajiaaDoor.G
/- sums.Open by hand. -/
namespace Go.Proofs.YthpholjelfajiaaDoor.G
open Go.RowKit Go.Proofs.YthpholjelfajiaaDoorW.PrintWords Go.Proofs.YthpholjelfajiaaDoorW.PrintLast Go.Proofs.YthpholjelfajiaaDoorW.PrintMore
set_option linter.unusedVariables false
set_option linter.unusedSimpArgs false

def sums_Open.f (l0 : List Int) : Option (List Int × Int) :=
  if l0.length < 4 then some ([], 20) else if l0.length < 140737488355324 then (sums_Crc.f (l0.take (l0.length - 4))).bind fun s => some (if l0.drop (l0.length - 4) = bytes4 s then (l0.take (l0.length - 4), 0) else ([], 21)) else none
set_option maxHeartbeats 8000000 in
set_option maxRecDepth 100000 in
theorem sums_Open.calls (A0 : Option Addr) (c0 : Nat) (l0 : List Int) (r1 : List Int) (r2 : Int) (w : World) (hT : Tab w) (hr0 : Kd.C (Kd.int .u8) w A0 l0.length l0) (hc0 : l0.length ≤ c0) (h : sums_Open.f l0 = some (r1, r2)) :
    Calls Tryd.prog 74 #[.slice A0 l0.length c0] w fun e w' => ∃ v0_, e = .returned (.tuple #[v0_, .int .i64 r2]) ∧ Kd.R (Kd.int .u8) 5 w' w.heap.size (fun _ => True) v0_ r1 ∧ Below w.heap.size w w' := by
  have info5 : (Tryd.prog.info? 5).map (fun i => (i.zero, i.size, i.bytes)) = some (some (.int .u8 0), 1, 1) := by kernel_rfl
  by_cases h4 : l0.length < 4
  · rw [sums_Open.f, if_pos h4] at h
    injection h with h
    injection h with h1 h2
    subst h1 h2
    have hs : ((l0.length : Int) - 4 < 0) := by omega
    go_enter Tryd.func74, Tryd.ntmps74
    go_wp2
    go_ret2
    exact ⟨_, rfl, Kd.R_nil _ _ _ _ _, Below.refl _ _⟩
  · rw [sums_Open.f, if_neg h4] at h
    have hl : l0.length < 140737488355324 := by split at h; assumption; simp at h
    rw [if_pos hl] at h
    obtain ⟨s, hs, h⟩ := Option.bind_eq_some_iff.1 h
    obtain ⟨ad, rfl⟩ : ∃ ad, A0 = some ad := by
      obtain ⟨ad, e, _⟩ := Kd.at_int hr0 0 (by omega) (by omega)
      exact ⟨ad, e⟩
    obtain ⟨n, hn⟩ : ∃ n : Nat, l0.length = n + 4 := ⟨l0.length - 4, by omega⟩
    have HR := Aside0.mk hr0
    have HT := Aside0.mk hT
    have HH := Aside0.mk h
    have HC := Aside0.mk hs
    clear hr0 hT h hs
    have hi : (l0.length : Int) - 4 = (n : Int) := by omega
    have e1 : wrap64 ((l0.length : Int) - 4) = (n : Int) := by unfold wrap64; omega
    have n0 : (0 : Int) ≤ (n : Int) := by omega
    obtain ⟨i5, hi5, hi5z, hi5s, hi5b⟩ := info_parts info5
    have hn0 : (n : Int).toNat = n := by omega
    have f1 : ((n : Int) ≤ (n : Int) + 4) = True := eq_true (by omega)
    have f2 : (n ≤ c0) = True := eq_true (by omega)
    have f3 : (c0 = n) = False := eq_false (by omega)
    have hcut13 : ∀ W, (Instr.arrayAt 125 (.slice (some (ad.add n)) 4 (c0 - n))).run Tryd.prog W = .ok (.pointer (some (ad.add n))) W := fun W => run_arrayAt W 125 5 4 _ _ _ Tryd.underlying125 (Nat.le_refl _)
    have hdl : (l0.drop n).length = 4 := by rw [List.length_drop]; omega
    have hS : ∀ W, Kd.C (Kd.int .u8) W (some ad) l0.length l0 → ∀ j, j < 4 → W.cell? ((ad.add n).add j) = some (.int .u8 ((l0.drop n).getD j 0)) := by
      intro W hC j hj
      obtain ⟨ad', e, hx⟩ := Kd.at_int hC ((n + j : Nat) : Int) (by omega) (by omega)
      injection e with e
      subst e
      rw [Addr.add_add, ← Int.toNat_natCast (n + j), hx]
      congr 2
      simp only [rd, Int.toNat_natCast, List.getD_eq_getElem?_getD, List.getElem?_drop]
    obtain ⟨d0, d1, d2, d3, hd⟩ : ∃ d0 d1 d2 d3, l0.drop n = [d0, d1, d2, d3] := by
      generalize l0.drop n = d at hdl
      match d, hdl with
      | [d0, d1, d2, d3], _ => exact ⟨d0, d1, d2, d3, rfl⟩
    rw [hd] at hS
    have hS4 : ∀ W, Kd.C (Kd.int .u8) W (some ad) l0.length l0 → W.cell? (ad.add n) = some (.int .u8 d0) ∧ W.cell? ⟨(ad.add n).block, (ad.add n).off + 1, none⟩ = some (.int .u8 d1) ∧ W.cell? ⟨(ad.add n).block, (ad.add n).off + 2, none⟩ = some (.int .u8 d2) ∧ W.cell? ⟨(ad.add n).block, (ad.add n).off + 3, none⟩ = some (.int .u8 d3) := by
      intro W hC
      have h0 := hS W hC 0 (by omega)
      have h1 := hS W hC 1 (by omega)
      have h2 := hS W hC 2 (by omega)
      have h3 := hS W hC 3 (by omega)
      simp only [Addr.add, Nat.reduceEqDiff, if_false, if_true, List.getD_cons_zero, List.getD_cons_succ] at h0 h1 h2 h3 ⊢
      exact ⟨h0, h1, h2, h3⟩
    have hneq : ∀ W, (binOp .neq 125 (.agg #[.int .u8 d0, .int .u8 d1, .int .u8 d2, .int .u8 d3]) (.agg #[.int .u8 (s % 256), .int .u8 (s / 256 % 256), .int .u8 (s / 65536 % 256), .int .u8 (s / 16777216 % 256)])).run Tryd.prog W = .ok (.bool (!(l0.drop n == bytes4 s))) W := by
      intro W
      rw [hd]
      exact neq_ints W 125 5 4 .u8 Tryd.underlying125 Tryd.underlying5 (by kernel_rfl) [d0, d1, d2, d3] (bytes4 s) rfl rfl
    have HTC : ∀ W, Kd.C (Kd.int .u8) W (some ad) l0.length l0 → Kd.C (Kd.int .u8) W (some ad) n (l0.take n) := by
      intro W hC
      have := Kd.C_take (m := n) hC (by omega)
      rwa [List.length_take, Nat.min_eq_left (by omega)] at this
    have htl : (l0.take n).length = n := by rw [List.length_take]; omega
    have CC : ∀ W, Tab W → Kd.C (Kd.int .u8) W (some ad) l0.length l0 → Calls Tryd.prog 63 #[.slice (some ad) n c0] W fun e w' => e = .returned (.int .u32 s) ∧ Drawn0 W w' := by
      intro W hT hC
      have := sums_Crc.calls (some ad) c0 (l0.take n) s W hT (by rw [htl]; exact HTC W hC) (by omega) (by have := HC.out; rwa [show l0.length - 4 = n by omega] at this)
      rwa [htl] at this
    generalize hb : (!(l0.drop n == bytes4 s)) = b at hneq
    have HTR := Aside0.mk hS4
    have HCC := Aside0.mk CC
    have HHB := Aside0.mk hb
    have HDL := Aside0.mk hdl
    clear hS hS4 CC HTC hb hdl htl HC
    go_enter Tryd.func74, Tryd.ntmps74
    go_upto_region 4 with (fail)
    refine start_ (n := 11) (S := fun w' => w'.cell? (ad.add n) = some (.int .u8 d0) ∧ w'.cell? ⟨(ad.add n).block, (ad.add n).off + 1, none⟩ = some (.int .u8 d1) ∧ w'.cell? ⟨(ad.add n).block, (ad.add n).off + 2, none⟩ = some (.int .u8 d2) ∧ w'.cell? ⟨(ad.add n).block, (ad.add n).off + 3, none⟩ = some (.int .u8 d3)) (ds := []) #[false, false, false, false, false, false, false, false, false, false, false] (by kernel_rfl) rfl rfl ⟨(HTR.out _ (Kd.C_drew HR.out)).1, (HTR.out _ (Kd.C_drew HR.out)).2.1, (HTR.out _ (Kd.C_drew HR.out)).2.2.1, (HTR.out _ (Kd.C_drew HR.out)).2.2.2⟩ (fun hHeld => ?_)
    refine pure_ (i := 0) (N := some 10) (v := ?_) (a' := ?_) #[true, false, false, false, false, false, false, false, false, false, false] rfl rfl (by kernel_rfl) (fun _ _ _ h => h) (Or.inl ⟨by rfl, ?_⟩) ?_ ?_
    rotate_left
    · intro w'
      go_simp
      with_reducible rfl
    rotate_left
    · simp only [Act.put, List.setIfInBounds_toArray, List.set_cons_zero, List.set_cons_succ, i64_w, i32_w]
      rfl
    refine pure_ (i := 1) (N := some 11) (v := ?_) (a' := ?_) #[true, true, false, false, false, false, false, false, false, false, false] rfl rfl (by kernel_rfl) (fun _ _ _ h => h) (Or.inl ⟨by rfl, ?_⟩) ?_ ?_
    rotate_left
    · intro w'
      go_simp
      with_reducible rfl
    rotate_left
    · simp only [Act.put, List.setIfInBounds_toArray, List.set_cons_zero, List.set_cons_succ, i64_w, i32_w]
      rfl
    refine pure_ (i := 2) (N := some 12) (v := ?_) (a' := ?_) #[true, true, true, false, false, false, false, false, false, false, false] rfl rfl (by kernel_rfl) (fun _ _ _ h => h) (Or.inl ⟨by rfl, ?_⟩) ?_ ?_
    rotate_left
    · intro w'
      go_simp
      with_reducible rfl
    rotate_left
    · simp only [Act.put, List.setIfInBounds_toArray, List.set_cons_zero, List.set_cons_succ, i64_w, i32_w]
      rfl
    refine pure_ (i := 3) (N := some 13) (v := ?_) (a' := ?_) #[true, true, true, true, false, false, false, false, false, false, false] rfl rfl (by kernel_rfl) (fun _ _ _ h => h) (Or.inl ⟨by rfl, ?_⟩) ?_ ?_
    rotate_left
    · intro w'
      go_simp
      with_reducible rfl
    rotate_left
    · simp only [Act.put, List.setIfInBounds_toArray, List.set_cons_zero, List.set_cons_succ, i64_w, i32_w]
      rfl
    refine pure_ (i := 5) (N := some 15) (v := ?_) (a' := ?_) #[true, true, true, true, false, true, false, false, false, false, false] rfl rfl (by kernel_rfl) (fun _ _ _ h => h) (Or.inl ⟨by rfl, ?_⟩) ?_ ?_
    rotate_left
    · intro w'
      go_simp
      with_reducible rfl
    rotate_left
    · simp only [Act.put, List.setIfInBounds_toArray, List.set_cons_zero, List.set_cons_succ, i64_w, i32_w]
      rfl
    refine pure_ (i := 6) (N := some 16) (v := ?_) (a' := ?_) #[true, true, true, true, false, true, true, false, false, false, false] rfl rfl (by kernel_rfl) (fun _ _ _ h => h) (Or.inl ⟨by rfl, ?_⟩) ?_ ?_
    rotate_left
    · intro w'
      go_simp
      with_reducible rfl
    rotate_left
    · simp only [Act.put, List.setIfInBounds_toArray, List.set_cons_zero, List.set_cons_succ, i64_w, i32_w]
      rfl
    refine pure_ (i := 7) (N := some 17) (v := ?_) (a' := ?_) #[true, true, true, true, false, true, true, true, false, false, false] rfl rfl (by kernel_rfl) (fun _ _ _ h => h) (Or.inl ⟨by rfl, ?_⟩) ?_ ?_
    rotate_left
    · intro w'
      go_simp
      with_reducible rfl
    rotate_left
    · simp only [Act.put, List.setIfInBounds_toArray, List.set_cons_zero, List.set_cons_succ, i64_w, i32_w]
      rfl
    refine take_ (i := 4) (N := some 14) (v := ?_) (a' := ?_) #[true, true, true, true, true, true, true, true, false, false, false] rfl rfl (by kernel_rfl) (fun _ _ _ h => h) (Or.inl ⟨by rfl, ?_⟩) hHeld ?_ ?_
    rotate_left
    · rintro w' ⟨s0, s1, s2, s3⟩
      go_simp
      with_reducible rfl
    rotate_left
    · simp only [Act.put, List.setIfInBounds_toArray, List.set_cons_zero, List.set_cons_succ, i64_w, i32_w]
      rfl
    refine one_ (i := 8) (N := some 18) #[true, true, true, true, true, true, true, true, true, false, false] rfl rfl (by kernel_rfl) (by decide) (fun K hK => ?_)
    refine goes_ Tryd.func63 (by kernel_rfl) rfl #[.slice (some ad) n c0] (by rfl) rfl rfl (by simp only [List.map_toArray, List.map_cons, List.map_nil]; rfl) ?_
    with_reducible refine (HCC.out _ (Kd.C_drew HT.out) (Kd.C_drew HR.out)).mono ?_
    rintro e w3 ⟨rfl, ⟨nd, rfl⟩⟩
    refine ⟨_, rfl, ?_⟩
    refine hK.out _ _ ⟨(HTR.out _ (Kd.C_drewN (Kd.C_drew HR.out) _)).1, (HTR.out _ (Kd.C_drewN (Kd.C_drew HR.out) _)).2.1, (HTR.out _ (Kd.C_drewN (Kd.C_drew HR.out) _)).2.2.1, (HTR.out _ (Kd.C_drewN (Kd.C_drew HR.out) _)).2.2.2⟩ (fun hHeld => ?_)
    clear hK K
    refine norm_ (a' := ?_) ?_ ?_
    rotate_left
    · show Act.put _ (some 18) _ = _
      simp only [Act.put, List.setIfInBounds_toArray, List.set_cons_zero, List.set_cons_succ, i64_w, i32_w]
      rfl
    refine one_ (i := 9) (N := some 19) #[true, true, true, true, true, true, true, true, true, true, false] rfl rfl (by kernel_rfl) (by decide) (fun K hK => ?_)
    refine goes_ Tryd.func62 (by kernel_rfl) rfl #[.int .u32 s] (by rfl) rfl rfl (by simp only [List.map_toArray, List.map_cons, List.map_nil]; rfl) ?_
    with_reducible refine (sums_four.calls s _).mono ?_
    rintro e w4 ⟨rfl, hb4⟩
    refine ⟨_, rfl, ?_⟩
    have HR4 := Aside0.mk (Kd.C_below (Kd.C_drewN (Kd.C_drew HR.out) _) hb4)
    have HB4 := Aside0.mk (below_step (pw_below_drewN (below_drew1 (Below.refl w.heap.size w)) nd) hb4)
    clear hb4
    refine hK.out _ _ ⟨(HTR.out _ HR4.out).1, (HTR.out _ HR4.out).2.1, (HTR.out _ HR4.out).2.2.1, (HTR.out _ HR4.out).2.2.2⟩ (fun hHeld => ?_)
    clear hK K
    refine norm_ (a' := ?_) ?_ ?_
    rotate_left
    · show Act.put _ (some 19) _ = _
      simp only [Act.put, List.setIfInBounds_toArray, List.set_cons_zero, List.set_cons_succ, i64_w, i32_w]
      rfl
    refine pure_ (i := 10) (N := some 20) (v := ?_) (a' := ?_) #[true, true, true, true, true, true, true, true, true, true, true] rfl rfl (by kernel_rfl) (fun _ _ _ h => h) (Or.inl ⟨by rfl, ?_⟩) ?_ ?_
    rotate_left
    · intro w'
      go_simp
      with_reducible rfl
    rotate_left
    · simp only [Act.put, List.setIfInBounds_toArray, List.set_cons_zero, List.set_cons_succ, i64_w, i32_w]
      rfl
    refine done_ (by kernel_rfl) ?_
    cases b with
    | true =>
      have hne : l0.drop n ≠ bytes4 s := by have := HHB.out; simpa using this
      have HH2 := HH.out
      rw [show l0.length - 4 = n by omega, if_neg hne] at HH2
      injection HH2 with HH2
      injection HH2 with h1 h2
      subst h1 h2
      go_wp2
      go_ret2
      exact ⟨_, rfl, Kd.R_nil _ _ _ _ _, HB4.out⟩
    | false =>
      have hne : l0.drop n = bytes4 s := by have := HHB.out; simpa using this
      have HH2 := HH.out
      rw [show l0.length - 4 = n by omega, if_pos hne] at HH2
      injection HH2 with HH2
      injection HH2 with h1 h2
      subst h1 h2
      go_wp2_with (first | ((with_reducible refine gate_dst (N := 25) rfl ?_); refine of_halt ?_))
      unfold Halt
      have hO : Kd.R (Kd.int .u8) 5 (w4.alloc (Obj.cells #[] 5)) w.heap.size (fun _ => True) (.slice (some ⟨w4.heap.size, 0, none⟩) 0 0) [] := ⟨fun _ _ => trivial, OwnRow.lit w4 w.heap.size (ps := []) (inner := []) (Reps.none _ _) HB4.out.size (by simp)⟩
      have hR : Kd.C (Kd.int .u8) (w4.alloc (Obj.cells #[] 5)) (some ad) n (l0.take n) := by
        have := Kd.C_take (m := n) (Kd.C_alloc HR4.out (Obj.cells #[] 5)) (by omega)
        rwa [List.length_take, Nat.min_eq_left (by omega)] at this
      refine Kd.R_append_row (w0 := w) (Value.int .u8) 0 w.heap.size rfl (.tmp 21) (.tmp 24) 22 5 (.int .u8 0) 1 rfl Tryd.underlying22 info5 rfl (by omega) (.slice (some ⟨w4.heap.size, 0, none⟩) 0 0) [] (l0.take n) (some ad) n c0 (fun _ => True) rfl rfl (fun _ _ => trivial) hO hR (below_alloc HB4.out _) ((below_alloc HB4.out (Obj.cells #[] 5)).size) (by simp; omega) ?_
      intro v5 w5 ho5 hb5 hg5 hat5
      go_wp2
      go_ret2
      exact ⟨_, rfl, ho5, hb5⟩
end Go.Proofs.YthpholjelfajiaaDoor.G
/- The sum's register over BitVec 32: bit by bit, by halves of bytes; linear; one step loses nothing. -/
namespace Go.Proofs.YthpholjelfajiaaDoor.T
open Go.Proofs.YthpholjelfajiaaDoor.G Go.Proofs.YthpholjelfajiaaDoorW.PrintWords

abbrev W := BitVec 32
/-- one bit -/
def st (s : W) : W := (s >>> 1) ^^^ (if s.getLsbD 0 then 0xedb88320#32 else 0#32)
def sn : Nat → W → W
  | 0, s => s
  | n + 1, s => sn n (st s)
theorem st_xor (a b : W) : st (a ^^^ b) = st a ^^^ st b := by
  unfold st
  rw [BitVec.getLsbD_xor, BitVec.ushiftRight_xor_distrib]
  generalize a >>> 1 = p
  generalize b >>> 1 = q
  cases a.getLsbD 0 <;> cases b.getLsbD 0
  · simp
  · simp [BitVec.xor_assoc]
  · simp only [Bool.xor_false, if_true, Bool.false_eq_true, if_false, BitVec.xor_zero]
    rw [BitVec.xor_assoc, BitVec.xor_assoc, BitVec.xor_comm q]
  · simp only [Bool.xor_self, Bool.false_eq_true, if_false, if_true, BitVec.xor_zero]
    rw [BitVec.xor_assoc, show (0xedb88320#32 : W) ^^^ (q ^^^ 0xedb88320#32) = q from by rw [BitVec.xor_comm q, ← BitVec.xor_assoc, BitVec.xor_self, BitVec.zero_xor]]
theorem sn_xor : ∀ (n : Nat) (a b : W), sn n (a ^^^ b) = sn n a ^^^ sn n b
  | 0, _, _ => rfl
  | n + 1, a, b => by rw [sn, st_xor, sn_xor n]; rfl
theorem sn_add (m : Nat) : ∀ (n : Nat) (a : W), sn (n + m) a = sn m (sn n a)
  | 0, a => by rw [Nat.zero_add]; rfl
  | n + 1, a => by rw [show n + 1 + m = (n + m) + 1 by omega, sn, sn_add m n]; rfl
theorem st_zero : st 0#32 = 0#32 := by decide
theorem sn_zero : ∀ n : Nat, sn n 0#32 = 0#32
  | 0 => rfl
  | n + 1 => by rw [sn, st_zero, sn_zero n]
theorem st_msb (a : W) : (st a).getLsbD 31 = a.getLsbD 0 := by
  unfold st
  rw [BitVec.getLsbD_xor, BitVec.getLsbD_ushiftRight]
  have : a.getLsbD (1 + 31) = false := BitVec.getLsbD_of_ge _ _ (by omega)
  rw [this]
  cases a.getLsbD 0 <;> decide
theorem st_inj_zero (a : W) (h : st a = 0#32) : a = 0#32 := by
  have h0 : a.getLsbD 0 = false := by rw [← st_msb, h]; decide
  have h1 : a >>> 1 = 0#32 := by
    have := h
    unfold st at this
    rw [h0] at this
    simpa using this
  apply BitVec.eq_of_getLsbD_eq
  intro i hi
  rw [BitVec.getLsbD_zero]
  rcases i with _ | i
  · exact h0
  · have := congrArg (fun z : W => z.getLsbD i) h1
    simp only [BitVec.getLsbD_ushiftRight, BitVec.getLsbD_zero] at this
    rw [Nat.add_comm]
    exact this
theorem sn_inj_zero : ∀ (n : Nat) (a : W), sn n a = 0#32 → a = 0#32
  | 0, _, h => h
  | n + 1, a, h => st_inj_zero a (sn_inj_zero n (st a) h)
theorem sn_inj (n : Nat) (a b : W) (h : sn n a = sn n b) : a = b := by
  have : sn n (a ^^^ b) = 0#32 := by rw [sn_xor, h, BitVec.xor_self]
  have := sn_inj_zero n _ this
  have e : a = (a ^^^ b) ^^^ b := by rw [BitVec.xor_assoc, BitVec.xor_self, BitVec.xor_zero]
  rw [e, this, BitVec.zero_xor]
/-- four bits at once -/
theorem sn4_high (a : W) (h0 : a.getLsbD 0 = false) (h1 : a.getLsbD 1 = false) (h2 : a.getLsbD 2 = false) (h3 : a.getLsbD 3 = false) : sn 4 a = a >>> 4 := by
  have e : ∀ b : W, b.getLsbD 0 = false → st b = b >>> 1 := fun b hb => by unfold st; rw [hb]; simp
  have g : ∀ (b : W) (i : Nat), (b >>> 1).getLsbD i = b.getLsbD (1 + i) := fun b i => by rw [BitVec.getLsbD_ushiftRight]
  simp only [sn]
  rw [e a h0, e (a >>> 1) (by rw [g]; exact h1), e (a >>> 1 >>> 1) (by rw [g, g]; exact h2), e (a >>> 1 >>> 1 >>> 1) (by rw [g, g, g]; exact h3)]
  rw [← BitVec.shiftRight_add, ← BitVec.shiftRight_add, ← BitVec.shiftRight_add]
theorem sn4 (a : W) : sn 4 a = (a >>> 4) ^^^ sn 4 (a &&& 15#32) := by
  have e : a = (a &&& 0xfffffff0#32) ^^^ (a &&& 15#32) := by
    apply BitVec.eq_of_getLsbD_eq
    intro i hi
    rw [BitVec.getLsbD_xor, BitVec.getLsbD_and, BitVec.getLsbD_and]
    have hh : ∀ j : Fin 32, (0xfffffff0#32 : W).getLsbD j.val = !(15#32 : W).getLsbD j.val := by decide
    rw [hh ⟨i, hi⟩]
    cases a.getLsbD i <;> cases (15#32 : W).getLsbD i <;> rfl
  have h : sn 4 (a &&& 0xfffffff0#32) = a >>> 4 := by
    rw [sn4_high]
    · rw [BitVec.ushiftRight_and_distrib]
      apply BitVec.eq_of_getLsbD_eq
      intro i hi
      rw [BitVec.getLsbD_and, BitVec.getLsbD_ushiftRight]
      by_cases h : i < 28
      · have : (0xfffffff0#32 >>> 4 : W).getLsbD i = true := by
          have hh : ∀ j : Fin 28, (0xfffffff0#32 >>> 4 : W).getLsbD j.val = true := by decide
          exact hh ⟨i, h⟩
        rw [this, Bool.and_true]
      · rw [BitVec.getLsbD_of_ge a _ (by omega)]; simp
    all_goals (rw [BitVec.getLsbD_and]; simp)
  have h2 : sn 4 a = sn 4 (a &&& 0xfffffff0#32) ^^^ sn 4 (a &&& 15#32) := by rw [← sn_xor, ← e]
  rw [h2, h]

/-! ### the whole numbers -/
def b32 (x : Int) : W := BitVec.ofInt 32 x
theorem b32_toNat (x : Int) (h : 0 ≤ x ∧ x < 4294967296) : ((b32 x).toNat : Int) = x := by
  unfold b32
  rw [BitVec.toNat_ofInt]
  omega
theorem b32_inj {x y : Int} (hx : 0 ≤ x ∧ x < 4294967296) (hy : 0 ≤ y ∧ y < 4294967296) (h : b32 x = b32 y) : x = y := by
  rw [← b32_toNat x hx, ← b32_toNat y hy, h]
theorem b32_nat (v : W) : b32 (v.toNat : Int) = v := by
  unfold b32; simp
theorem bits_xor (x y : Int) : Go.bits .xor .u32 x y = ((b32 x ^^^ b32 y).toNat : Int) := by
  show IntKind.u32.wrap ((BitVec.ofInt 32 x ^^^ BitVec.ofInt 32 y).toNat : Int) = _
  rw [show ∀ n : Int, IntKind.u32.wrap n = n % 4294967296 from fun n => by simp [IntKind.wrap, IntKind.bits, IntKind.signed]]
  have := (BitVec.ofInt 32 x ^^^ BitVec.ofInt 32 y).isLt
  show _ = ((BitVec.ofInt 32 x ^^^ BitVec.ofInt 32 y).toNat : Int)
  omega
theorem b32_xor (x y : Int) : b32 (Go.bits .xor .u32 x y) = b32 x ^^^ b32 y := by rw [bits_xor, b32_nat]
theorem b32_div (x : Int) (h : 0 ≤ x ∧ x < 4294967296) : b32 (x / 16) = b32 x >>> 4 := by
  apply BitVec.eq_of_toNat_eq
  have h1 := b32_toNat x h
  have h2 := b32_toNat (x / 16) (by omega)
  rw [BitVec.toNat_ushiftRight, Nat.shiftRight_eq_div_pow]
  omega
theorem b32_low (x : Int) (h : 0 ≤ x ∧ x < 4294967296) : b32 x &&& 15#32 = b32 (x % 16) := by
  apply BitVec.eq_of_toNat_eq
  have h1 := b32_toNat x h
  have h2 := b32_toNat (x % 16) (by omega)
  rw [BitVec.toNat_and]
  have : (b32 x).toNat &&& (15#32).toNat = (b32 x).toNat % 16 := Nat.and_two_pow_sub_one_eq_mod (b32 x).toNat 4
  omega
theorem tab_eq : ∀ i : Fin 16, b32 (rd halves (i.val : Int)) = sn 4 (b32 (i.val : Int)) := by decide
theorem b32_nib (s : Int) (h : 0 ≤ s ∧ s < 4294967296) : b32 (nib s) = sn 4 (b32 s) := by
  unfold nib
  rw [b32_xor, b32_div s h, and15 s h.1 h.2, sn4, b32_low s h]
  have := tab_eq ⟨(s % 16).toNat, by omega⟩
  simp only [] at this
  rw [show (((s % 16).toNat : Nat) : Int) = s % 16 by omega] at this
  rw [this]
theorem nib_range (s : Int) : 0 ≤ nib s ∧ nib s < 4294967296 := bits32_range _ _ _
theorem more1_range (s c : Int) : 0 ≤ more1 s c ∧ more1 s c < 4294967296 := nib_range _
theorem b32_mod (c : Int) : b32 (c % 4294967296) = b32 c := by
  unfold b32
  apply BitVec.eq_of_toNat_eq
  rw [BitVec.toNat_ofInt, BitVec.toNat_ofInt]
  omega
/-- a byte: eight bits -/
theorem b32_more1 (s c : Int) : b32 (more1 s c) = sn 8 (b32 s ^^^ b32 c) := by
  unfold more1
  rw [b32_nib _ (nib_range _), b32_nib _ (bits32_range _ _ _), b32_xor, b32_mod, ← sn_add]
theorem b32_not32 (s : Int) : b32 (not32 s) = 0xffffffff#32 ^^^ b32 s := by
  unfold not32
  rw [b32_xor]
  rfl
theorem not32_range (s : Int) : 0 ≤ not32 s ∧ not32 s < 4294967296 := bits32_range _ _ _
theorem not32_not32 (s : Int) (h : 0 ≤ s ∧ s < 4294967296) : not32 (not32 s) = s := by
  apply b32_inj (not32_range _) h
  rw [b32_not32, b32_not32, ← BitVec.xor_assoc, BitVec.xor_self, BitVec.zero_xor]
/-- the register over bytes -/
def rg (l : List Int) (r : W) : W := l.foldl (fun r c => sn 8 (r ^^^ b32 c)) r
theorem fold_range (l : List Int) : ∀ s : Int, (0 ≤ s ∧ s < 4294967296) → 0 ≤ l.foldl more1 s ∧ l.foldl more1 s < 4294967296 := by
  induction l with
  | nil => exact fun s h => h
  | cons c l ih => exact fun s _ => ih _ (more1_range s c)
theorem b32_fold (l : List Int) : ∀ s : Int, b32 (l.foldl more1 s) = rg l (b32 s) := by
  induction l with
  | nil => exact fun s => rfl
  | cons c l ih => intro s; rw [List.foldl_cons, ih, b32_more1]; rfl
def crc (l : List Int) : Int := not32 (l.foldl more1 (not32 0))
theorem crc_range (l : List Int) : 0 ≤ crc l ∧ crc l < 4294967296 := not32_range _
theorem b32_crc (l : List Int) : b32 (crc l) = 0xffffffff#32 ^^^ rg l 0xffffffff#32 := by
  unfold crc
  rw [b32_not32, b32_fold, b32_not32]
  rfl
end Go.Proofs.YthpholjelfajiaaDoor.T
/- What the sums' functions come to, in the words of CrcT. -/
namespace Go.Proofs.YthpholjelfajiaaDoor.T
open Go.Proofs.YthpholjelfajiaaDoor.G Go.Proofs.YthpholjelfajiaaDoorW.PrintWords

theorem More_f (a : Int) (l : List Int) (h : l.length < 4611686018427387904) : sums_More.f a l = some (not32 (l.foldl more1 (not32 a))) := if_pos h
theorem Crc_f (l : List Int) (h : l.length < 4611686018427387904) : sums_Crc.f l = some (crc l) := if_pos h
theorem Seal_f (l : List Int) (h : l.length < 140737488355324) : sums_Seal.f l = some (l ++ bytes4 (crc l)) := by
  unfold sums_Seal.f
  rw [Crc_f l (by omega), Option.bind_some, if_pos h]
theorem bytes4_length (s : Int) : (bytes4 s).length = 4 := rfl
theorem Open_f (l : List Int) (h4 : 4 ≤ l.length) (h : l.length < 140737488355324) : sums_Open.f l = some (if l.drop (l.length - 4) = bytes4 (crc (l.take (l.length - 4))) then (l.take (l.length - 4), 0) else ([], 21)) := by
  unfold sums_Open.f
  rw [if_neg (by omega), if_pos h, Crc_f _ (by rw [List.length_take]; omega), Option.bind_some]
theorem Open_Seal (l : List Int) (h : l.length < 140737488355320) : sums_Open.f (l ++ bytes4 (crc l)) = some (l, 0) := by
  have hl : (l ++ bytes4 (crc l)).length = l.length + 4 := by rw [List.length_append, bytes4_length]
  rw [Open_f _ (by omega) (by omega), hl, Nat.add_sub_cancel, List.take_left', List.drop_left', if_pos rfl]
  all_goals rfl
end Go.Proofs.YthpholjelfajiaaDoor.T
/- Bytes as strings: two rows of bytes are alike just where their strings are. -/
namespace Go.Proofs.YthpholjelfajiaaDoor.G
open Go.RowKit Go.Proofs.YthpholjelfajiaaDoorW.PrintWords Go.Proofs.YthpholjelfajiaaDoorW.PrintLast Go.Proofs.YthpholjelfajiaaDoorW.PrintMore

def Bytes (l : List Int) : Prop := ∀ x ∈ l, 0 ≤ x ∧ x < 256
theorem Bytes.append {a b : List Int} (ha : Bytes a) (hb : Bytes b) : Bytes (a ++ b) := fun x hx => (List.mem_append.1 hx).elim (ha x) (hb x)
theorem Bytes.take {a : List Int} (ha : Bytes a) (n : Nat) : Bytes (a.take n) := fun x hx => ha x (List.mem_of_mem_take hx)
theorem Bytes.drop {a : List Int} (ha : Bytes a) (n : Nat) : Bytes (a.drop n) := fun x hx => ha x (List.mem_of_mem_drop hx)
theorem bytes_inj : ∀ (a b : List Int), Bytes a → Bytes b → a.map (fun n => UInt8.ofNat n.toNat) = b.map (fun n => UInt8.ofNat n.toNat) → a = b
  | [], [], _, _, _ => rfl
  | [], _ :: _, _, _, h => by simp at h
  | _ :: _, [], _, _, h => by simp at h
  | x :: a, y :: b, ha, hb, h => by
    rw [List.map_cons, List.map_cons, List.cons.injEq] at h
    have hx := ha x (by simp)
    have hy := hb y (by simp)
    have e : x = y := by
      have := congrArg UInt8.toNat h.1
      simp only [UInt8.toNat_ofNat'] at this
      omega
    rw [e, bytes_inj a b (fun z hz => ha z (by simp [hz])) (fun z hz => hb z (by simp [hz])) h.2]
theorem str_eq_iff (a b : List Int) (ha : Bytes a) (hb : Bytes b) : (strOfNums a).toList = (strOfNums b).toList ↔ a = b := by
  constructor
  · intro h
    rw [ByteArray.toList_eq, ByteArray.toList_eq, strOfNums_data, strOfNums_data] at h
    exact bytes_inj a b ha hb h
  · intro h; rw [h]
theorem str_eq (a b : List Int) (ha : Bytes a) (hb : Bytes b) : ((strOfNums a).toList == (strOfNums b).toList) = decide (a = b) := by
  rw [Bool.eq_iff_iff]; simp [str_eq_iff a b ha hb]
theorem str_ne (a b : List Int) (ha : Bytes a) (hb : Bytes b) : ((strOfNums a).toList != (strOfNums b).toList) = !decide (a = b) := by
  rw [bne, str_eq a b ha hb]
theorem bytes_wf {l : List Int} (h : ∀ x ∈ l, (Lit.int .u8 x).wf = true) : Bytes l := by
  intro x hx
  have := h x hx
  have h2 : 0 ≤ x ∧ x ≤ 255 := by simpa [Lit.wf, IntKind.min, IntKind.max, IntKind.signed, IntKind.bits] using this
  omega
end Go.Proofs.YthpholjelfajiaaDoor.G
/- Small words for functions that need some number of rounds: used by the pure proofs of several chapters. -/
namespace Go.Proofs.YthpholjelfajiaaDoor.E
open Go.RowKit Go.Proofs.YthpholjelfajiaaDoorW.PrintWords Go.Proofs.YthpholjelfajiaaDoorW.PrintLast Go.Proofs.YthpholjelfajiaaDoorW.PrintMore

theorem ev_succ {α : Type} {g : Nat → Option α} {r : α} (h : Ev (fun k => g (k + 1)) r) : Ev g r := Ev.step (fun _ => rfl) h
theorem w64 {i : Nat} (h : i < 9223372036854775807) : wrap64 ((i : Int) + 1) = ((i + 1 : Nat) : Int) := by
  unfold wrap64; omega
theorem w64' {i : Int} (h0 : -9223372036854775808 ≤ i) (h : i ≤ 9223372036854775807) : wrap64 i = i := by
  unfold wrap64; omega
theorem rd_nat (xs : List Int) (i : Nat) : rd xs (i : Int) = xs.getD i 0 := by
  rw [rd, Int.toNat_natCast]
theorem rd_get (xs : List Int) (i : Nat) (h : i < xs.length) : rd xs (i : Int) = xs[i] := by
  rw [rd_nat]; simp [h]
theorem take_succ_rd (xs : List Int) (i : Nat) (h : i < xs.length) : xs.take (i + 1) = xs.take i ++ [rd xs (i : Int)] := by
  rw [List.take_succ_eq_append_getElem h, rd_get xs i h]
theorem drop_rd (xs : List Int) (i : Nat) (h : i < xs.length) : xs.drop i = rd xs (i : Int) :: xs.drop (i + 1) := by
  rw [List.drop_eq_getElem_cons h, rd_get xs i h]
theorem mem_rd (xs : List Int) (i : Nat) (h : i < xs.length) : rd xs (i : Int) ∈ xs := by
  rw [rd_get xs i h]; exact List.getElem_mem h
theorem bits_low {k : IntKind} (j i : Nat) (hj : j ≤ k.bits) (hk : ∀ n : Int, 0 ≤ n → n < 2 ^ j → k.wrap n = n) (hi : i ≤ j) (x : Int) (h0 : 0 ≤ x) (h1 : x < 2 ^ j) : bits .and k x (2 ^ i - 1 : Int) = x % 2 ^ i := bits_mask k j hj hk i hi x h0 h1
end Go.Proofs.YthpholjelfajiaaDoor.E
/- What any bytes are as something sealed. -/
namespace Go.Proofs.YthpholjelfajiaaDoor.X
open Go.RowKit Go.Proofs.YthpholjelfajiaaDoorW.PrintWords Go.Proofs.YthpholjelfajiaaDoorW.PrintLast Go.Proofs.YthpholjelfajiaaDoorW.PrintMore Go.Proofs.YthpholjelfajiaaDoor.G Go.Proofs.YthpholjelfajiaaDoor.T
set_option linter.unusedVariables false
set_option linter.unusedSimpArgs false
/-- What any bytes are as something sealed. -/
def RO (l : List Int) : List Int × Int := if l.length < 4 then ([], 20) else if l.drop (l.length - 4) = bytes4 (crc (l.take (l.length - 4))) then (l.take (l.length - 4), 0) else ([], 21)
theorem sums_Open_RO (l : List Int) (h : l.length < 140737488355324) : sums_Open.f l = some (RO l) := by
  by_cases h4 : l.length < 4
  · rw [sums_Open.f, if_pos h4, show RO l = ([], 20) from if_pos h4]
  · rw [Open_f l (by omega) h, show RO l = _ from if_neg h4]
end Go.Proofs.YthpholjelfajiaaDoor.X
/- chunk.headed by hand. -/
namespace Go.Proofs.YthpholjelfajiaaDoor.G
open Go.RowKit Go.Proofs.YthpholjelfajiaaDoorW.PrintWords Go.Proofs.YthpholjelfajiaaDoorW.PrintLast Go.Proofs.YthpholjelfajiaaDoorW.PrintMore
set_option linter.unusedVariables false
set_option linter.unusedSimpArgs false

/-- a chunk's head -/
def hd (k t : Int) : List Int := [k / 256 % 256, k % 256, t / 16777216 % 256, t / 65536 % 256, t / 256 % 256, t % 256]
set_option maxHeartbeats 8000000 in
set_option maxRecDepth 100000 in
theorem chunk_headed.calls (a0 a1 : Int) (w : World) :
    Calls Tryd.prog 46 #[.int .i64 a0, .int .i64 a1] w fun e w' => e = .returned (.agg #[.int .u8 (a0 / 256 % 256), .int .u8 (a0 % 256), .int .u8 (a1 / 16777216 % 256), .int .u8 (a1 / 65536 % 256), .int .u8 (a1 / 256 % 256), .int .u8 (a1 % 256)]) ∧ Below w.heap.size w w' := by
  go_enter Tryd.func46, Tryd.ntmps46
  go_wp2
  refine bodyPost_ret (results_single rfl (.cell w.heap.size 106 _ (0, 0) _ rfl (blk_new w _) Tryd.underlying106 rfl (by kernel_rfl) .nil)) rfl ?_
  exact ⟨rfl, (Below.refl _ _).alloc (Nat.le_refl _) _⟩
end Go.Proofs.YthpholjelfajiaaDoor.G
/- chunk.open by hand. -/
namespace Go.Proofs.YthpholjelfajiaaDoor.G
open Go.RowKit Go.Proofs.YthpholjelfajiaaDoorW.PrintWords Go.Proofs.YthpholjelfajiaaDoorW.PrintLast Go.Proofs.YthpholjelfajiaaDoorW.PrintMore
set_option linter.unusedVariables false
set_option linter.unusedSimpArgs false

def chunk_open.f (l0 : List Int) (a1 a2 : Int) : Option (List Int × Int) :=
  if l0.length = 64 then (sums_Open.f l0).bind fun x => if x.2 = 0 then (if x.1.length = 60 then some (if x.1.take 6 = hd a1 a2 then (x.1.drop 6, 0) else ([], 180)) else none) else some ([], x.2) else some ([], 20)
set_option maxHeartbeats 8000000 in
set_option maxRecDepth 100000 in
theorem chunk_open.calls (A0 : Option Addr) (c0 : Nat) (l0 : List Int) (a1 a2 : Int) (r1 : List Int) (r2 : Int) (w : World) (hT : Tab w) (hr0 : Kd.C (Kd.int .u8) w A0 l0.length l0) (hc0 : l0.length ≤ c0) (h : chunk_open.f l0 a1 a2 = some (r1, r2)) :
    Calls Tryd.prog 64 #[.slice A0 l0.length c0, .int .i64 a1, .int .i64 a2] w fun e w' => ∃ v0_, e = .returned (.tuple #[v0_, .int .i64 r2]) ∧ Kd.Q (Kd.int .u8) 5 w' w.heap.size (fun _ => True) v0_ r1 ∧ Below w.heap.size w w' := by
  have info5 : (Tryd.prog.info? 5).map (fun i => (i.zero, i.size, i.bytes)) = some (some (.int .u8 0), 1, 1) := by kernel_rfl
  by_cases h6 : l0.length = 64
  · rw [chunk_open.f, if_pos h6] at h
    obtain ⟨⟨p, e⟩, hp, h⟩ := Option.bind_eq_some_iff.1 h
    simp only at h
    have HO := Aside0.mk (fun W hT hC => sums_Open.calls A0 c0 l0 p e W hT hC hc0 hp)
    rw [h6] at HO hr0 ⊢
    have HR := Aside0.mk hr0
    have HT := Aside0.mk hT
    clear hr0 hT hp hc0 h6
    by_cases he : e = 0
    · subst he
      rw [if_pos rfl] at h
      by_cases hl : p.length = 60
      · rw [if_pos hl] at h
        have HH := Aside0.mk h
        clear h
        have htl : (p.take 6).length = 6 := by rw [List.length_take]; omega
        obtain ⟨d0, d1, d2, d3, d4, d5, hd6⟩ : ∃ d0 d1 d2 d3 d4 d5, p.take 6 = [d0, d1, d2, d3, d4, d5] := by
          generalize p.take 6 = d at htl
          match d, htl with
          | [d0, d1, d2, d3, d4, d5], _ => exact ⟨d0, d1, d2, d3, d4, d5, rfl⟩
        have HD6 := Aside0.mk hd6
        have HL := Aside0.mk hl
        clear htl hd6 hl
        go_enter Tryd.func64, Tryd.ntmps64
        go_wp2_with (first | (go_at_call 74; refine (HO.out _ HT.out HR.out).mono ?_; rintro e W1 ⟨v8, rfl, ho8, hb8⟩; refine of_halt ?_))
        unfold Halt
        obtain ⟨A8, c8, rfl, hc8, hC8⟩ := Kd.R_reads ho8
        have HR8 := Aside0.mk ho8
        have HB8 := Aside0.mk hb8
        rw [HL.out] at hc8
        have HC8 := Aside0.mk hC8
        obtain ⟨ad, rfl⟩ : ∃ ad, A8 = some ad := by
          obtain ⟨ad, e, _⟩ := Kd.at_int hC8 0 (by omega) (by have := HL.out; omega)
          exact ⟨ad, e⟩
        have hS : ∀ W, Kd.C (Kd.int .u8) W (some ad) p.length p → ∀ j, j < 6 → W.cell? (ad.add j) = some (.int .u8 ((p.take 6).getD j 0)) := by
          intro W hC j hj
          obtain ⟨ad', e, hx⟩ := Kd.at_int hC (j : Int) (by omega) (by have := HL.out; omega)
          injection e with e
          subst e
          rw [Int.toNat_natCast] at hx
          rw [hx]
          congr 2
          simp only [rd, Int.toNat_natCast, List.getD_eq_getElem?_getD, List.getElem?_take, if_pos hj]
        rw [HD6.out] at hS
        have hS6 : ∀ W, Kd.C (Kd.int .u8) W (some ad) p.length p → W.cell? ad = some (.int .u8 d0) ∧ W.cell? ⟨ad.block, ad.off + 1, none⟩ = some (.int .u8 d1) ∧ W.cell? ⟨ad.block, ad.off + 2, none⟩ = some (.int .u8 d2) ∧ W.cell? ⟨ad.block, ad.off + 3, none⟩ = some (.int .u8 d3) ∧ W.cell? ⟨ad.block, ad.off + 4, none⟩ = some (.int .u8 d4) ∧ W.cell? ⟨ad.block, ad.off + 5, none⟩ = some (.int .u8 d5) := by
          intro W hC
          have h0 := hS W hC 0 (by omega)
          have h1 := hS W hC 1 (by omega)
          have h2 := hS W hC 2 (by omega)
          have h3 := hS W hC 3 (by omega)
          have h4 := hS W hC 4 (by omega)
          have h5 := hS W hC 5 (by omega)
          simp only [Addr.add, Nat.reduceEqDiff, if_false, if_true, List.getD_cons_zero, List.getD_cons_succ] at h0 h1 h2 h3 h4 h5 ⊢
          exact ⟨h0, h1, h2, h3, h4, h5⟩
        clear hC8 ho8 hb8 hS
        have hn6 : ∀ W, (binOp .neq 106 (.agg #[.int .u8 d0, .int .u8 d1, .int .u8 d2, .int .u8 d3, .int .u8 d4, .int .u8 d5]) (.agg #[.int .u8 (a1 / 256 % 256), .int .u8 (a1 % 256), .int .u8 (a2 / 16777216 % 256), .int .u8 (a2 / 65536 % 256), .int .u8 (a2 / 256 % 256), .int .u8 (a2 % 256)])).run Tryd.prog W = .ok (.bool (!(p.take 6 == hd a1 a2))) W := by
          intro W
          rw [HD6.out]
          exact neq_ints W 106 5 6 .u8 Tryd.underlying106 Tryd.underlying5 (by kernel_rfl) [d0, d1, d2, d3, d4, d5] (hd a1 a2) rfl rfl
        have hcut13 : ∀ W, (Instr.arrayAt 106 (.slice (some ad) 6 6)).run Tryd.prog W = .ok (.pointer (some ad)) W := fun W => run_arrayAt W 106 5 6 _ _ _ Tryd.underlying106 (Nat.le_refl _)
        generalize hb : (!(p.take 6 == hd a1 a2)) = b at hn6
        have HHB := Aside0.mk hb
        have HTR := Aside0.mk hS6
        have hc8a : (6 ≤ c8) = True := eq_true (by omega)
        have hc8b : ((6 : Int) ≤ (c8 : Int)) = True := eq_true (by omega)
        have hc8c : (c8 = 6) = False := eq_false (by omega)
        have hlp : p.length = 60 := HL.out
        rw [hlp] at HC8 HR8 HTR ⊢
        clear hb hS6 hc8 hlp HO HD6
        go_upto_region 6 with (fail)
        refine start_ (n := 9) (S := fun w' => w'.cell? ad = some (.int .u8 d0) ∧ w'.cell? ⟨ad.block, ad.off + 1, none⟩ = some (.int .u8 d1) ∧ w'.cell? ⟨ad.block, ad.off + 2, none⟩ = some (.int .u8 d2) ∧ w'.cell? ⟨ad.block, ad.off + 3, none⟩ = some (.int .u8 d3) ∧ w'.cell? ⟨ad.block, ad.off + 4, none⟩ = some (.int .u8 d4) ∧ w'.cell? ⟨ad.block, ad.off + 5, none⟩ = some (.int .u8 d5)) (ds := []) #[false, false, false, false, false, false, false, false, false] (by kernel_rfl) rfl rfl ⟨(HTR.out _ (Kd.C_drew HC8.out)).1, (HTR.out _ (Kd.C_drew HC8.out)).2.1, (HTR.out _ (Kd.C_drew HC8.out)).2.2.1, (HTR.out _ (Kd.C_drew HC8.out)).2.2.2.1, (HTR.out _ (Kd.C_drew HC8.out)).2.2.2.2.1, (HTR.out _ (Kd.C_drew HC8.out)).2.2.2.2.2⟩ (fun hHeld => ?_)
        refine pure_ (i := 0) (N := some 23) (v := ?_) (a' := ?_) #[true, false, false, false, false, false, false, false, false] rfl rfl (by kernel_rfl) (fun _ _ _ h => h) (Or.inl ⟨by rfl, ?_⟩) ?_ ?_
        rotate_left
        · intro w'
          go_simp
          with_reducible rfl
        rotate_left
        · simp only [Act.put, List.setIfInBounds_toArray, List.set_cons_zero, List.set_cons_succ, i64_w, i32_w]
          rfl
        refine pure_ (i := 1) (N := some 24) (v := ?_) (a' := ?_) #[true, true, false, false, false, false, false, false, false] rfl rfl (by kernel_rfl) (fun _ _ _ h => h) (Or.inl ⟨by rfl, ?_⟩) ?_ ?_
        rotate_left
        · intro w'
          go_simp
          with_reducible rfl
        rotate_left
        · simp only [Act.put, List.setIfInBounds_toArray, List.set_cons_zero, List.set_cons_succ, i64_w, i32_w]
          rfl
        refine pure_ (i := 2) (N := some 25) (v := ?_) (a' := ?_) #[true, true, true, false, false, false, false, false, false] rfl rfl (by kernel_rfl) (fun _ _ _ h => h) (Or.inl ⟨by rfl, ?_⟩) ?_ ?_
        rotate_left
        · intro w'
          go_simp
          with_reducible rfl
        rotate_left
        · simp only [Act.put, List.setIfInBounds_toArray, List.set_cons_zero, List.set_cons_succ, i64_w, i32_w]
          rfl
        refine pure_ (i := 4) (N := some 27) (v := ?_) (a' := ?_) #[true, true, true, false, true, false, false, false, false] rfl rfl (by kernel_rfl) (fun _ _ _ h => h) (Or.inl ⟨by rfl, ?_⟩) ?_ ?_
        rotate_left
        · intro w'
          go_simp
          with_reducible rfl
        rotate_left
        · simp only [Act.put, List.setIfInBounds_toArray, List.set_cons_zero, List.set_cons_succ, i64_w, i32_w]
          rfl
        refine pure_ (i := 5) (N := some 28) (v := ?_) (a' := ?_) #[true, true, true, false, true, true, false, false, false] rfl rfl (by kernel_rfl) (fun _ _ _ h => h) (Or.inl ⟨by rfl, ?_⟩) ?_ ?_
        rotate_left
        · intro w'
          go_simp
          with_reducible rfl
        rotate_left
        · simp only [Act.put, List.setIfInBounds_toArray, List.set_cons_zero, List.set_cons_succ, i64_w, i32_w]
          rfl
        refine take_ (i := 3) (N := some 26) (v := ?_) (a' := ?_) #[true, true, true, true, true, true, false, false, false] rfl rfl (by kernel_rfl) (fun _ _ _ h => h) (Or.inl ⟨by rfl, ?_⟩) hHeld ?_ ?_
        rotate_left
        · rintro w' ⟨s0, s1, s2, s3, s4, s5⟩
          go_simp
          with_reducible rfl
        rotate_left
        · simp only [Act.put, List.setIfInBounds_toArray, List.set_cons_zero, List.set_cons_succ, i64_w, i32_w]
          rfl
        refine one_ (i := 6) (N := some 29) #[true, true, true, true, true, true, true, false, false] rfl rfl (by kernel_rfl) (by decide) (fun K hK => ?_)
        refine goes_ Tryd.func46 (by kernel_rfl) rfl #[.int .i64 a1, .int .i64 a2] (by rfl) rfl rfl (by simp only [List.map_toArray, List.map_cons, List.map_nil]; rfl) ?_
        with_reducible refine (chunk_headed.calls a1 a2 _).mono ?_
        rintro e w4 ⟨rfl, hb4⟩
        refine ⟨_, rfl, ?_⟩
        have HR4 := Aside0.mk (Kd.C_below (Kd.C_drew HC8.out) hb4)
        have HB4 := Aside0.mk (below_step (below_drew1 (Below.refl W1.heap.size W1)) hb4)
        clear hb4
        refine hK.out _ _ ⟨(HTR.out _ HR4.out).1, (HTR.out _ HR4.out).2.1, (HTR.out _ HR4.out).2.2.1, (HTR.out _ HR4.out).2.2.2.1, (HTR.out _ HR4.out).2.2.2.2.1, (HTR.out _ HR4.out).2.2.2.2.2⟩ (fun hHeld => ?_)
        clear hK K
        refine norm_ (a' := ?_) ?_ ?_
        rotate_left
        · show Act.put _ (some 29) _ = _
          simp only [Act.put, List.setIfInBounds_toArray, List.set_cons_zero, List.set_cons_succ, i64_w, i32_w]
          rfl
        refine pure_ (i := 7) (N := some 30) (v := ?_) (a' := ?_) #[true, true, true, true, true, true, true, true, false] rfl rfl (by kernel_rfl) (fun _ _ _ h => h) (Or.inl ⟨by rfl, ?_⟩) ?_ ?_
        rotate_left
        · intro w'
          go_simp
          with_reducible rfl
        rotate_left
        · simp only [Act.put, List.setIfInBounds_toArray, List.set_cons_zero, List.set_cons_succ, i64_w, i32_w]
          rfl
        refine pure_ (i := 8) (N := some 22) (v := ?_) (a' := ?_) #[true, true, true, true, true, true, true, true, true] rfl rfl (by kernel_rfl) (fun _ _ _ h => h) (Or.inl ⟨by rfl, ?_⟩) ?_ ?_
        rotate_left
        · intro w'
          go_simp
          with_reducible rfl
        rotate_left
        · simp only [Act.put, List.setIfInBounds_toArray, List.set_cons_zero, List.set_cons_succ, i64_w, i32_w]
          rfl
        refine done_ (by kernel_rfl) ?_
        have HB5 := Aside0.mk (below_step HB8.out HB4.out)
        have HQ5 := Aside0.mk (Kd.Q_drop (k := 6) (Kd.Q_below (Kd.Q_of_R HR8.out) HB4.out) (by have := HL.out; omega))
        cases b with
        | true =>
          have hne : ¬ (p.take 6 = hd a1 a2) := by have := HHB.out; simpa using this
          have HH2 := HH.out
          rw [if_neg hne] at HH2
          injection HH2 with HH2
          injection HH2 with h1 h2
          subst h1 h2
          go_wp2
          go_ret2
          exact ⟨_, rfl, Kd.Q_nil _ _ _ _ _, HB5.out⟩
        | false =>
          have hne : p.take 6 = hd a1 a2 := by have := HHB.out; simpa using this
          have HH2 := HH.out
          rw [if_pos hne] at HH2
          injection HH2 with HH2
          injection HH2 with h1 h2
          subst h1 h2
          go_wp2
          go_ret2
          have hq := HQ5.out
          rw [if_neg (fun h => by rw [h] at hc8c; simp at hc8c)] at hq
          exact ⟨_, rfl, hq, HB5.out⟩
      · rw [if_neg hl] at h
        exact absurd h (by simp)
    · rw [if_neg he] at h
      injection h with h
      injection h with h1 h2
      subst h1 h2
      have f1 : (e == 0) = false := beq_eq_false_iff_ne.2 he
      go_enter Tryd.func64, Tryd.ntmps64
      go_wp2_with (first | (go_at_call 74; refine (HO.out _ HT.out HR.out).mono ?_; rintro e W1 ⟨v8, rfl, ho8, hb8⟩; obtain ⟨A8, c8, rfl⟩ := Kd.R_slice ho8))
      go_ret2
      exact ⟨_, rfl, Kd.Q_nil _ _ _ _ _, hb8⟩
  · rw [chunk_open.f, if_neg h6] at h
    injection h with h
    injection h with h1 h2
    subst h1 h2
    have f1 : (((l0.length : Int)) == 64) = false := beq_eq_false_iff_ne.2 (by omega)
    go_enter Tryd.func64, Tryd.ntmps64
    go_wp2
    go_ret2
    exact ⟨_, rfl, Kd.Q_nil _ _ _ _ _, Below.refl _ _⟩
end Go.Proofs.YthpholjelfajiaaDoor.G
/- chunk.Cut by hand. -/
namespace Go.Proofs.YthpholjelfajiaaDoor.G
open Go.RowKit Go.Proofs.YthpholjelfajiaaDoorW.PrintWords Go.Proofs.YthpholjelfajiaaDoorW.PrintLast Go.Proofs.YthpholjelfajiaaDoorW.PrintMore Go.Proofs.YthpholjelfajiaaDoor.T
set_option linter.unusedVariables false
set_option linter.unusedSimpArgs false

/-- what chunk k holds of the bytes, filled up with noughts -/
def body (l0 : List Int) (k : Nat) : List Int := (l0.drop (k * 54)).take 54 ++ List.replicate (54 - min 54 (l0.length - k * 54)) 0
def piece (l0 : List Int) (t : Int) (k : Nat) : List Int := hd k t ++ body l0 k
def chunkOf (l0 : List Int) (t : Int) (k : Nat) : List Int := piece l0 t k ++ bytes4 (crc (piece l0 t k))
def chunks (l0 : List Int) (t : Int) : List (List Int) := (List.range ((l0.length + 53) / 54)).map (chunkOf l0 t)
theorem body_length (l0 : List Int) (k : Nat) : (body l0 k).length = 54 := by simp [body]; omega
theorem piece_length (l0 : List Int) (t : Int) (k : Nat) : (piece l0 t k).length = 60 := by simp [piece, hd, body_length]
theorem chunkOf_length (l0 : List Int) (t : Int) (k : Nat) : (chunkOf l0 t k).length = 64 := by simp [chunkOf, piece_length, bytes4]
def chunk_Cut.f (l0 : List Int) (a1 : Int) : Option (List (List Int) × Int) :=
  if 1 ≤ a1 ∧ a1 ≤ 2147483647 then (if l0.length ≤ 221184 then some (chunks l0 a1, 0) else some ([], 3)) else some ([], 2)
theorem splice_piece (l0 : List Int) (t : Int) (k : Nat) (h : k * 54 < l0.length) : splice (splice ((List.replicate 60 (0 : Int)).map (Value.int .u8)) 0 ((hd k t).map (Value.int .u8))) 6 (((l0.drop (k * 54)).take 54).map (Value.int .u8)) = (piece l0 t k).map (Value.int .u8) := by
  have e1 : ((hd k t).map (Value.int .u8)).length = 6 := rfl
  have e2 : splice ((List.replicate 60 (0 : Int)).map (Value.int .u8)) 0 ((hd k t).map (Value.int .u8)) = (hd k t ++ List.replicate 54 0).map (Value.int .u8) := rfl
  rw [e2, splice, piece, body, List.map_append, List.map_append, List.map_append, List.take_left' e1, List.drop_append, e1]
  have e3 : (List.drop (6 + (((l0.drop (k * 54)).take 54).map (Value.int .u8)).length) ((hd k t).map (Value.int .u8))) = [] := List.drop_eq_nil_of_le (by rw [e1]; omega)
  rw [e3, List.nil_append, Nat.add_sub_cancel_left]
  congr 2
  rw [List.map_replicate, List.map_replicate, List.drop_replicate, List.length_map, List.length_take, List.length_drop]
theorem range_map_succ {α : Type} (f : Nat → α) (k : Nat) : (List.range (k + 1)).map f = (List.range k).map f ++ [f k] := by rw [List.range_succ, List.map_append]; rfl
set_option maxHeartbeats 8000000 in
set_option maxRecDepth 100000 in
theorem chunk_Cut.calls (A0 : Option Addr) (c0 : Nat) (l0 : List Int) (a1 : Int) (r1 : List (List Int)) (r2 : Int) (w : World) (hT : Tab w) (hr0 : Kd.C (Kd.int .u8) w A0 l0.length l0) (hc0 : l0.length ≤ c0) (h : chunk_Cut.f l0 a1 = some (r1, r2)) :
    Calls Tryd.prog 25 #[.slice A0 l0.length c0, .int .i64 a1] w fun e w' => ∃ v0_ : Value, e = .returned (.tuple #[v0_, .int .i64 r2]) ∧ Kd.S (Kd.slice 5 (Kd.int .u8)) 22 w' w.heap.size (fun _ => True) v0_ r1 ∧ Below w.heap.size w w' := by
  have info22 : (Tryd.prog.info? 22).map (fun i => (i.zero, i.size, i.bytes)) = some (some (.slice none 0 0), 1, 24) := by kernel_rfl
  by_cases ht : 1 ≤ a1 ∧ a1 ≤ 2147483647
  · rw [chunk_Cut.f, if_pos ht] at h
    have f1 : decide (a1 < 1) = false := decide_eq_false (by omega)
    have f2 : decide (2147483647 < a1) = false := decide_eq_false (by omega)
    by_cases hl : l0.length ≤ 221184
    · rw [if_pos hl] at h
      injection h with h
      injection h with h1 h2
      have f3 : decide (221184 < (l0.length : Int)) = false := decide_eq_false (by omega)
      have f4 : decide (221184 < l0.length) = false := decide_eq_false (by omega)
      have HR := Aside0.mk hr0
      have HT := Aside0.mk hT
      have HL := Aside0.mk hl
      have H1 := Aside0.mk h1
      have HT1 := Aside0.mk ht
      have HC0 := Aside0.mk hc0
      subst h2
      clear h1 hr0 hT hl ht hc0
      go_enter Tryd.func25, Tryd.ntmps25
      go_wp2
      go_loopg [6, 7] ((l0.length + 53) / 54 + 1) (fun kq v6 v7 w' => ∃ k : Nat, v7 = .int .i64 (k : Int) ∧ Aside0 (k ≤ (l0.length + 53) / 54) ∧ Aside0 (kq + k = (l0.length + 53) / 54 + 1) ∧ Aside0 (Kd.S (Kd.slice 5 (Kd.int .u8)) 22 w' w.heap.size (fun _ => True) v6 ((List.range k).map (chunkOf l0 a1))) ∧ Aside0 (Below w.heap.size w w'))
      case atStart => exact ⟨0, rfl, ⟨Nat.zero_le _⟩, ⟨rfl⟩, ⟨Kd.S_nil _ _ _ _ _⟩, ⟨Below.refl _ _⟩⟩
      case round =>
        clear f1 f2 f3 f4
        obtain ⟨k, rfl, HN, HK, HO, HB⟩ := hrel
        have e1 : wrap64 ((k : Int) * 54) = (k : Int) * 54 := by have := HN.out; have := HL.out; unfold wrap64; omega
        have e2 : wrap64 ((k : Int) + 1) = (k : Int) + 1 := by have := HN.out; have := HL.out; unfold wrap64; omega
        by_cases c2 : (k : Int) * 54 < (l0.length : Int)
        · have c2b : decide ((k : Int) * 54 < (l0.length : Int)) = true := decide_eq_true c2
          have hkl : k * 54 < l0.length := by omega
          obtain ⟨ad, rfl⟩ : ∃ ad, A0 = some ad := by
            obtain ⟨ad, e, _⟩ := Kd.at_int HR.out 0 (by omega) (by omega)
            exact ⟨ad, e⟩
          have info5 : (Tryd.prog.info? 5).map (fun i => (i.zero, i.size, i.bytes)) = some (some (.int .u8 0), 1, 1) := by kernel_rfl
          obtain ⟨i5, hi5, hi5z, hi5s, hi5b⟩ := info_parts info5
          obtain ⟨pk, hpk⟩ : ∃ x, x = ad.add (k * 54) := ⟨_, rfl⟩
          obtain ⟨m, hm⟩ : ∃ x, x = l0.length - k * 54 := ⟨_, rfl⟩
          have hc0 := HC0.out
          have hcutB : ∀ W, (Instr.slice 22 (.slice (some ad) l0.length c0) (some (.int .i64 ((k : Int) * 54))) none none).run Tryd.prog W = .ok (.slice (some pk) m (c0 - k * 54)) W := fun W => by
            have ek : ((k : Int) * 54).toNat = k * 54 := by omega
            rw [cut_from 22 5 .i64 Tryd.underlying22 hi5 1 hi5s (some ad) l0.length c0 ((k : Int) * 54) (by omega) (by omega) W, ek, if_neg (by omega), hpk, hm, Nat.mul_one]; rfl
          obtain ⟨cs, hcs⟩ : ∃ x, x = (((l0.drop (k * 54)).take 54).map (Value.int .u8)) := ⟨_, rfl⟩
          have hcl : cs.length = Nat.min m 54 := by rw [hcs, List.length_map, List.length_take, List.length_drop, ← hm]; exact Nat.min_comm _ _
          have hsrc : ∀ W, Kd.C (Kd.int .u8) W (some ad) l0.length l0 → ∀ j v, cs[j]? = some v → W.cell? (pk.add j) = some v := by
            intro W hC j v hv
            rw [hcs, List.getElem?_map] at hv
            obtain ⟨x, hx, rfl⟩ := Option.map_eq_some_iff.1 hv
            rw [List.getElem?_take] at hx
            split at hx
            · rw [List.getElem?_drop] at hx
              obtain ⟨hlt, hx2⟩ := List.getElem?_eq_some_iff.1 hx
              obtain ⟨ad', e, hy⟩ := Kd.at_int hC ((k * 54 + j : Nat) : Int) (by omega) (by omega)
              injection e with e
              subst e
              rw [Int.toNat_natCast] at hy
              rw [hpk, Addr.add_add, hy]
              congr 2
              simp only [rd, Int.toNat_natCast, List.getD_eq_getElem?_getD, hx, Option.getD_some]
            · cases hx
          obtain ⟨pc, hpc⟩ : ∃ x, x = piece l0 a1 k := ⟨_, rfl⟩
          have hpl : pc.length = 60 := by rw [hpc]; exact piece_length _ _ _
          obtain ⟨ck, hck⟩ : ∃ x, x = chunkOf l0 a1 k := ⟨_, rfl⟩
          have hsf : sums_Seal.f pc = some ck := by rw [Seal_f pc (by omega), hck, hpc]; rfl
          have hsp := splice_piece l0 a1 k hkl
          rw [← hpc, ← hcs] at hsp
          obtain ⟨Z, hZ⟩ : ∃ x, x = (List.replicate 60 (0 : Int)).map (Value.int .u8) := ⟨_, rfl⟩
          obtain ⟨D, hD⟩ : ∃ x, x = (hd k a1).map (Value.int .u8) := ⟨_, rfl⟩
          rw [← hZ, ← hD] at hsp
          have hZl : Z.length = 60 := by rw [hZ]; rfl
          have hDl : D.length = 6 := by rw [hD]; rfl
          have hD1 : ∀ v ∈ D, v.oneCell' = true := by rw [hD]; intro v hv; obtain ⟨x, _, rfl⟩ := List.mem_map.1 hv; rfl
          have hC1 : ∀ v ∈ cs, v.oneCell' = true := by rw [hcs]; intro v hv; obtain ⟨x, _, rfl⟩ := List.mem_map.1 hv; rfl
          have HSeal := Aside0.mk (fun W g hT hh => by
            have := sums_Seal.calls (some ⟨g, 0, none⟩) 60 pc ck W hT (C_block (ty := 105) (fr := (0, 0)) pc hh rfl (by omega)) (by omega) hsf
            rwa [hpl] at this)
          have HM := Aside0.mk (And.intro hpk (And.intro hm (And.intro hcs hpc)))
          have HSP := Aside0.mk hsp
          have HSRC := Aside0.mk hsrc
          have HCL := Aside0.mk hcl
          have HZD := Aside0.mk (And.intro hZl (And.intro hDl (And.intro hD1 hC1)))
          have HCK := Aside0.mk hck
          have HDD := Aside0.mk hD
          have hg8 := heap_alloc_new wr (Obj.cells (Z.toArray) 105)
          have HPL := Aside0.mk hpl
          rw [hZ] at hg8
          clear hpk hm hcs hsp hsrc hcl hZl hDl hD1 hC1 hck hpc hsf hpl hc0 hD hi5 hi5z hi5s hi5b hkl
          go_upto_region 11 with (first | (go_at_call 46; refine (chunk_headed.calls k a1 _).mono ?_; rintro e w1 ⟨rfl, hb1⟩))
          have hW0 : wr.heap.size < (wr.alloc (Obj.cells (((List.replicate 60 (0 : Int)).map (Value.int .u8)).toArray) 105)).heap.size := blk_lt hg8
          have hb1' : Below (wr.alloc (Obj.cells (((List.replicate 60 (0 : Int)).map (Value.int .u8)).toArray) 105)).heap.size (wr.alloc (Obj.cells (((List.replicate 60 (0 : Int)).map (Value.int .u8)).toArray) 105)) w1 := hb1
          have hg1 : w1.heap[wr.heap.size]? = some (.cells Z.toArray 105 (0, 0)) := by rw [hb1'.block _ hW0, hg8, hZ]
          have hbw1 : Below wr.heap.size wr w1 := below_step (below_alloc (Below.refl wr.heap.size wr) _) hb1'
          have hgh : wr.heap.size < w1.heap.size := blk_lt hg1
          clear hb1 hb1' hg8 hW0 hZ
          have hD2 : (#[.int .u8 ((k : Int) / 256 % 256), .int .u8 ((k : Int) % 256), .int .u8 (a1 / 16777216 % 256), .int .u8 (a1 / 65536 % 256), .int .u8 (a1 / 256 % 256), .int .u8 (a1 % 256)] : Array Value) = D.toArray := by rw [HDD.out]; rfl
          rw [hD2]
          have hh2 := heap_alloc_new w1 (Obj.cells D.toArray 106)
          have hg2 : (w1.alloc (Obj.cells D.toArray 106)).heap[wr.heap.size]? = some (.cells Z.toArray 105 (0, 0)) := by rw [(below_alloc (Below.refl w1.heap.size w1) _).block _ hgh]; exact hg1
          have hbw2 := (below_step hbw1 (below_alloc (Below.refl w1.heap.size w1) (Obj.cells D.toArray 106)))
          clear hg1 hbw1 hD2
          have HG2 := Aside0.mk hg2
          have HH2 := Aside0.mk hh2
          have HB2 := Aside0.mk hbw2
          have HGH := Aside0.mk hgh
          have HWR := Aside0.mk (Nat.le_refl wr.heap.size)
          clear hg2 hh2 hbw2 hgh
          generalize hgg : wr.heap.size = g at *
          generalize w1.heap.size = hb at *
          generalize (w1.alloc (Obj.cells D.toArray 106)) = W2 at *
          have hsz : (Tryd.prog.info? 5).map (·.size) = some 1 := by kernel_rfl
          refine start_ (n := 3) (S := fun w' => True) (ds := []) #[false, false, false] (by kernel_rfl) rfl rfl trivial (fun hHeld => ?_)
          refine pure_ (i := 0) (N := some 31) (v := ?_) (a' := ?_) #[true, false, false] rfl rfl (by kernel_rfl) (fun _ _ _ h => h) (Or.inl ⟨by rfl, ?_⟩) ?_ ?_
          rotate_left
          · intro w'
            go_simp
            with_reducible rfl
          rotate_left
          · simp only [Act.put, List.setIfInBounds_toArray, List.set_cons_zero, List.set_cons_succ, i64_w, i32_w]
            rfl
          refine pure_ (i := 1) (N := some 32) (v := ?_) (a' := ?_) #[true, true, false] rfl rfl (by kernel_rfl) (fun _ _ _ h => h) (Or.inl ⟨by rfl, ?_⟩) ?_ ?_
          rotate_left
          · intro w'
            go_simp
            with_reducible rfl
          rotate_left
          · simp only [Act.put, List.setIfInBounds_toArray, List.set_cons_zero, List.set_cons_succ, i64_w, i32_w]
            rfl
          refine one_ (i := 2) (N := some 33) #[true, true, true] rfl rfl (by kernel_rfl) (by decide) (fun K hK => ?_)
          refine step_copy_splice (by rfl) (.tmp 31) (.tmp 32) 22 22 rfl 5 Tryd.underlying22 hsz (some ⟨g, 0, none⟩) (some ⟨hb, 0, none⟩) 6 6 6 6 rfl rfl g 0 Z 105 (blk_drew HG2.out) D (by rw [HZD.out.2.1]; rfl) (fun _ => ⟨rfl, _, rfl, fun j v hv => ?_⟩) (by rw [HZD.out.2.1, HZD.out.1]; omega) HZD.out.2.2.1 g wr (below_drew1 (by rw [← hgg] at HB2 ⊢; exact HB2.out)) (Nat.le_refl _) ?_
          · rw [show (Addr.add ⟨hb, 0, none⟩ j) = ⟨hb, j, none⟩ by cases j <;> simp [Addr.add], cell_of_row _ hb j _ _ _ (blk_drew HH2.out)]; simpa using hv
          intro W3 HG3 HB3
          refine hK.out _ _ trivial (fun hHeld => ?_)
          clear hK K
          refine norm_ (a' := ?_) ?_ ?_
          rotate_left
          · show Act.put _ (some 33) _ = _
            simp only [Act.put, List.setIfInBounds_toArray, List.set_cons_zero, List.set_cons_succ, i64_w, i32_w]
            rfl
          refine done_ (by kernel_rfl) ?_
          have HB3w := Aside0.mk (show Below wr.heap.size wr W3 by rw [hgg]; exact HB3)
          have HR3 := Aside0.mk (Kd.C_below HR.out (below_step HB.out HB3w.out))
          have HG3' := Aside0.mk HG3.out
          have HS3l : (splice Z 0 D).length = 60 := by rw [length_splice _ _ _ (by rw [HZD.out.1, HZD.out.2.1]; omega), HZD.out.1]
          clear HG3 HB3 HG2 HH2 HB2
          go_upto_region 12 with (fail)
          refine start_ (n := 6) (S := fun w' => True) (ds := []) #[false, false, false, false, false, false] (by kernel_rfl) rfl rfl trivial (fun hHeld => ?_)
          refine pure_ (i := 0) (N := some 34) (v := ?_) (a' := ?_) #[true, false, false, false, false, false] rfl rfl (by kernel_rfl) (fun _ _ _ h => h) (Or.inl ⟨by rfl, ?_⟩) ?_ ?_
          rotate_left
          · intro w'
            go_simp
            with_reducible rfl
          rotate_left
          · simp only [Act.put, List.setIfInBounds_toArray, List.set_cons_zero, List.set_cons_succ, i64_w, i32_w]
            rfl
          refine pure_ (i := 1) (N := some 35) (v := ?_) (a' := ?_) #[true, true, false, false, false, false] rfl rfl (by kernel_rfl) (fun _ _ _ h => h) (Or.inl ⟨by rfl, ?_⟩) ?_ ?_
          rotate_left
          · intro w'
            go_simp
            with_reducible rfl
          rotate_left
          · simp only [Act.put, List.setIfInBounds_toArray, List.set_cons_zero, List.set_cons_succ, i64_w, i32_w]
            rfl
          refine pure_ (i := 2) (N := some 36) (v := ?_) (a' := ?_) #[true, true, true, false, false, false] rfl rfl (by kernel_rfl) (fun _ _ _ h => h) (Or.inl ⟨by rfl, ?_⟩) ?_ ?_
          rotate_left
          · intro w'
            go_simp
            with_reducible rfl
          rotate_left
          · simp only [Act.put, List.setIfInBounds_toArray, List.set_cons_zero, List.set_cons_succ, i64_w, i32_w]
            rfl
          refine pure_ (i := 3) (N := some 37) (v := ?_) (a' := ?_) #[true, true, true, true, false, false] rfl rfl (by kernel_rfl) (fun _ _ _ h => h) (Or.inl ⟨by rfl, ?_⟩) ?_ ?_
          rotate_left
          · intro w'
            go_simp
            with_reducible rfl
          rotate_left
          · simp only [Act.put, List.setIfInBounds_toArray, List.set_cons_zero, List.set_cons_succ, i64_w, i32_w]
            rfl
          refine pure_ (i := 4) (N := some 38) (v := ?_) (a' := ?_) #[true, true, true, true, true, false] rfl rfl (by kernel_rfl) (fun _ _ _ h => h) (Or.inl ⟨by rfl, ?_⟩) ?_ ?_
          rotate_left
          · intro w'
            go_simp
            with_reducible rfl
          rotate_left
          · simp only [Act.put, List.setIfInBounds_toArray, List.set_cons_zero, List.set_cons_succ, i64_w, i32_w]
            rfl
          refine one_ (i := 5) (N := some 39) #[true, true, true, true, true, true] rfl rfl (by kernel_rfl) (by decide) (fun K hK => ?_)
          refine step_copy_splice (by rfl) (.tmp 34) (.tmp 38) 22 22 rfl 5 Tryd.underlying22 hsz (some ⟨g, 6, none⟩) (some pk) 54 54 m (c0 - k * 54) rfl rfl g 6 (splice Z 0 D) 105 (blk_drew HG3'.out) cs HCL.out (fun _ => ⟨rfl, _, rfl, fun j v hv => HSRC.out _ (Kd.C_drew HR3.out) j v hv⟩) (by rw [HS3l, HCL.out]; exact Nat.add_le_add_left (Nat.min_le_right m 54) 6) HZD.out.2.2.2 g wr (below_drew1 (by rw [← hgg]; exact HB3w.out)) (Nat.le_refl _) ?_
          intro W4 HG4 HB4
          refine hK.out _ _ trivial (fun hHeld => ?_)
          clear hK K
          refine norm_ (a' := ?_) ?_ ?_
          rotate_left
          · show Act.put _ (some 39) _ = _
            simp only [Act.put, List.setIfInBounds_toArray, List.set_cons_zero, List.set_cons_succ, i64_w, i32_w]
            rfl
          refine done_ (by kernel_rfl) ?_
          have HB4w := Aside0.mk (show Below wr.heap.size wr W4 by rw [hgg]; exact HB4)
          have HG4' := Aside0.mk (show W4.heap[g]? = some (.cells (pc.map (Value.int .u8)).toArray 105 (0, 0)) by rw [← HSP.out]; exact HG4.out)
          have HBw4 := Aside0.mk (below_step HB.out HB4w.out)
          have HO4 := Aside0.mk (Kd.S_below HO.out HB4w.out)
          clear HG4 HB4 HG3' HR3 HB3w HS3l HO HB
          have HS4 := Aside0.mk (HSeal.out W4 g (Kd.C_below HT.out HBw4.out) HG4'.out)
          go_wp2_with (first | (go_at_call 47; refine HS4.out.mono ?_; rintro e W5 ⟨v5, rfl, ho5, hb5⟩; refine of_halt ?_))
          unfold Halt
          have n0_ := Aside0.mk (Kd.S_elder' HO4.out (Kd.R_base ho5) hb5)
          have n1_ := Aside0.mk (Kd.R_lower ho5 (below_size HBw4.out))
          have n2_ := Aside0.mk (below_step HBw4.out hb5)
          obtain ⟨A5, c5, eo⟩ := Kd.R_slice n1_.out
          subst eo
          clear ho5 hb5 HO4 HBw4 HB4w HG4' HS4
          have hPa := Kd.R_mono (ok' := fun k_ => (True) ∧ some k_ ≠ (u6 : Value).ownBlock) (Kd.R_apart' (n1_.out) (Kd.S_typed n0_.out) (by decide)) (fun k_ hk => ⟨trivial, hk.2⟩)
          have HPA := Aside0.mk hPa
          clear hPa
          go_wp2_with (first | ((with_reducible refine gate_dst (N := 44) rfl ?_); refine of_halt ?_))
          unfold Halt
          refine Kd.S_append (Kd.slice 5 (Kd.int .u8)) (w0 := w) w.heap.size rfl (.tmp 40) (.tmp 43) 46 22 (.slice none 0 0) 24 rfl Tryd.underlying46 info22 rfl (by decide) (by omega) u6 ((List.range k).map (chunkOf l0 a1)) ck [.slice A5 ck.length c5] (fun _ => True) (fun k_ => some k_ = (.slice A5 ck.length c5 : Value).ownBlock) rfl rfl ?aP (fun k_ hk_ => HPA.out.1 k_ hk_.symm) ?aF ?aO ?aB ?aS ?aL ?_
          case aP => exact Kd.M_row (Kd.R_mono (Kd.R_tight rfl HPA.out) (fun _ h_ => h_))
          case aB => exact n2_.out
          case aF => exact (fun _ _ => trivial)
          case aO => exact Kd.S_mono n0_.out (fun k_ hk => ⟨trivial, fun e_ => hk.2 e_⟩)
          case aS => exact below_size n2_.out
          case aL => have := HN.out; have := HL.out; rw [List.length_map, List.length_range]; omega
          intro v6 W7 ho hb7 hg7 hat7
          rw [show (List.range k).map (chunkOf l0 a1) ++ [ck] = (List.range (k + 1)).map (chunkOf l0 a1) by rw [range_map_succ, HCK.out]] at ho
          have HO7 := Aside0.mk ho
          have HB7 := Aside0.mk hb7
          clear ho hb7 hg7 hat7
          have c3 := of_decide_eq_true c2b
          go_wp2
          go_roundg (gk - 1)
          case measure => have := HK.out; have := HN.out; omega
          case rel => exact ⟨k + 1, by rw [e2]; rfl, ⟨by omega⟩, ⟨by have := HK.out; have := HN.out; omega⟩, HO7, HB7⟩
        · have c2b : decide ((k : Int) * 54 < (l0.length : Int)) = false := decide_eq_false c2
          have hk : (l0.length + 53) / 54 = k := by have := HN.out; omega
          have hr : r1 = (List.range k).map (chunkOf l0 a1) := by rw [← H1.out, chunks, hk]
          go_wp2
          go_ret2
          exact ⟨_, rfl, HO.out, HB.out⟩
    · rw [if_neg hl] at h
      injection h with h
      injection h with h1 h2
      subst h1 h2
      have f3 : decide (221184 < (l0.length : Int)) = true := decide_eq_true (by omega)
      have f4 : decide (221184 < l0.length) = true := decide_eq_true (by omega)
      go_enter Tryd.func25, Tryd.ntmps25
      go_wp2
      go_ret2
      exact ⟨_, rfl, Kd.S_nil _ _ _ _ _, Below.refl _ _⟩
  · rw [chunk_Cut.f, if_neg ht] at h
    injection h with h
    injection h with h1 h2
    subst h1 h2
    by_cases hx : a1 < 1
    · have f1 : decide (a1 < 1) = true := decide_eq_true hx
      go_enter Tryd.func25, Tryd.ntmps25
      go_wp2
      go_ret2
      exact ⟨_, rfl, Kd.S_nil _ _ _ _ _, Below.refl _ _⟩
    · have f1 : decide (a1 < 1) = false := decide_eq_false hx
      have f2 : decide (2147483647 < a1) = true := decide_eq_true (by omega)
      go_enter Tryd.func25, Tryd.ntmps25
      go_wp2
      go_ret2
      exact ⟨_, rfl, Kd.S_nil _ _ _ _ _, Below.refl _ _⟩
end Go.Proofs.YthpholjelfajiaaDoor.G
