/- Where a walk stands still, for a hand to go on. -/
import Derived.Test.YtogapedacdnfcaaDoorX0
import Derived.Laws.Cover3
namespace Go.Proofs.YtogapedacdnfcaaDoor.G
def Halt (p : Prop) : Prop := p
theorem of_halt {p : Prop} (h : Halt p) : p := h
end Go.Proofs.YtogapedacdnfcaaDoor.G
/- An append of a whole row in a region that draws its order (for seats without sums/HTab). By hand. -/
namespace Go.Proofs.YtogapedacdnfcaaDoor.G
open Go.RowKit Go.Proofs.YtogapedacdnfcaaDoorW.PrintWords Go.Proofs.YtogapedacdnfcaaDoorW.PrintLast Go.Proofs.YtogapedacdnfcaaDoorW.PrintMore
set_option linter.unusedVariables false
set_option linter.unusedSimpArgs false

/-- An append of a whole row, as one step of a region that draws its order. -/
theorem step_append_row {P : Program} {ops : Array Oper} {o : Oper} {a : Act} {Q : Exit → Act → World → Prop} {K : Act → World → Prop} (k : IntKind) {w0 W : World} (base : Nat) (hw : Region.wanted o (yielded ops a.tmps) = true) (s x : Operand) (t e : TypeId) (bytes : Nat)
    (ho : o.op = .call { callee := .builtin .append, args := #[s, x], argTypes := #[t, t] })
    (ht : P.underlying t = some (.slice e)) (hinfo : (P.info? e).map (fun i => (i.zero, i.size, i.bytes)) = some (some (.int k 0), 1, bytes)) (hb0 : 0 < bytes)
    (v : Value) (xs ys : List Int) (A : Option Addr) (m c : Nat) (ok : Nat → Prop) (hs : a.eval s = v) (hx : a.eval x = .slice A m c) (hfresh : ∀ k, W.heap.size ≤ k → ok k)
    (HO : Kd.R (Kd.int k) e W base ok v xs) (HR : Kd.C (Kd.int k) W A m ys) (HB : Below base w0 W) (hbase : base ≤ W.heap.size) (hl : (xs.length + m) * bytes ≤ 140737488355328)
    (h : ∀ v1 w1, Kd.R (Kd.int k) e w1 base ok v1 (xs ++ ys) → Below base w0 w1 → W.grownBy w1 v.ownBlock → (v1.ownBlock = v.ownBlock ∨ ∃ b, v1.ownBlock = some b ∧ W.heap.size ≤ b) → K (a.put o.dst v1) w1) :
    if Region.wanted o (yielded ops a.tmps) = true then Oper.wp P o a W K Q else K (a.put o.dst undef) W := by
  obtain ⟨i0, hi, hzz⟩ := Option.map_eq_some_iff.1 hinfo
  simp only [Prod.mk.injEq] at hzz
  obtain ⟨hz0, hz1, hz2⟩ := hzz
  have HO' := Kd.own_of_R (enc := Value.int k) (h1 := fun _ => rfl) HO
  have HR' := Kd.reads_of_C (enc := Value.int k) (h1 := fun _ => rfl) (d := (0 : Int)) HR
  have hm : ys.length = m := HR'.1
  have hlen : xs.length + m ≤ 140737488355328 := Nat.le_trans (Nat.le_mul_of_pos_right _ hb0) hl
  have hrun : ∃ v1 w1, (Builtin.append_ #[t, t] o.type #[v, .slice A m c]).run P W = .ok v1 w1 ∧ w1.ownsRow base e 1 v1 (xs ++ ys).length (encs (Value.int k) (xs ++ ys)) ∧ W.grownBy w1 v.ownBlock ∧ (v1.ownBlock = v.ownBlock ∨ v1.ownBlock = some W.heap.size) := by
    rcases A with _ | ad
    · have h0 : m = 0 := by
        rcases Nat.eq_zero_or_pos m with h0 | h0
        · exact h0
        · obtain ⟨ad, h, _⟩ := HR'.2.2 h0
          cases h
      subst h0
      obtain rfl : ys = [] := List.eq_nil_of_length_eq_zero hm
      refine ⟨v, W, ?_, by simpa using HO', World.grownBy.refl W _, .inl rfl⟩
      rcases HO'.2 with ⟨rfl, hn⟩ | ⟨g, cap, cur, rfl, _, _, hnc, _⟩
      · simp [Builtin.append_, run_underlying ht, sizeOf, typeInfo, hi, Builtin.lenOf, Builtin.firstCells]
      · simp [Builtin.append_, run_underlying ht, sizeOf, typeInfo, hi, Builtin.lenOf, Builtin.firstCells, hnc, storeCells]
    · have hcells : ∀ j u, (encs (Value.int k) ys)[j]? = some u → W.cell? (ad.add j) = some u := by
        intro j u hu
        have hj : j < ys.length := by
          rcases Nat.lt_or_ge j ys.length with h | h
          · exact h
          · simp [encs, List.getElem?_eq_none h] at hu
        obtain ⟨ad', h', hc⟩ := HR'.2.2 (by omega)
        injection h' with h'
        subst h'
        rw [encs_get (d := (0 : Int)) ys j hj] at hu
        rw [← hu]
        exact hc j (by omega)
      obtain ⟨v1, w1, hr, h2, h3, _, h5⟩ := run_append_own_at (P := P) W base t o.type e i0 (.int k 0) 1 bytes ht hi hz0 hz1 hz2 rfl (by omega) v xs.length (encs (Value.int k) xs) HO' ad m c (encs (Value.int k) ys) (by simp [encs, hm]) hcells
        (by intro u hu; simp only [encs, List.mem_map] at hu; obtain ⟨q, _, rfl⟩ := hu; rfl) (by simp only [maxLen]; omega) hl hbase
      exact ⟨v1, w1, hr, by simpa [encs, hm] using h2, h3, h5⟩
  obtain ⟨v1, w1, hr, hown, hg, hat⟩ := hrun
  rw [if_pos hw]
  unfold Oper.wp execOp
  simp only [ho, resolve, invoke, builtin, Sem.run_bind, Sem.run_pure, Result.andThen_ok, List.map_toArray, List.map_cons, List.map_nil, hs, hx, hr]
  have hat' : v1.ownBlock = v.ownBlock ∨ ∃ b, v1.ownBlock = some b ∧ W.heap.size ≤ b := hat.imp id (fun h => ⟨_, h, Nat.le_refl _⟩)
  refine h v1 w1 (Kd.R_of_own hown (fun j hk => ?_)) (HB.grown hg hbase (own_base HO')) hg hat'
  rcases hat' with e1 | ⟨b, e1, hbb⟩
  · exact HO.1 j (by rw [← e1]; exact hk)
  · rw [e1] at hk
    injection hk with hk
    subst hk
    exact hfresh _ hbb
end Go.Proofs.YtogapedacdnfcaaDoor.G
/- The table of halves: what the world must hold, in the form of a row that is read. -/
namespace Go.Proofs.YtogapedacdnfcaaDoor.G
open Go.RowKit Go.Proofs.YtogapedacdnfcaaDoorW.PrintWords Go.Proofs.YtogapedacdnfcaaDoorW.PrintLast Go.Proofs.YtogapedacdnfcaaDoorW.PrintMore

def halves : List Int := [0, 498536548, 997073096, 651767980, 1994146192, 1802195444, 1303535960, 1342533948, 3988292384, 4027552580, 3604390888, 3412177804, 2607071920, 2262029012, 2685067896, 3183342108]
/-- The table's cells lie in block 0. -/
abbrev Tab (w : World) : Prop := Kd.C (Kd.int .u32) w (some ⟨0, 0, none⟩) 16 halves
theorem Tab.at_ {w : World} (h : Tab w) (j : Int) (h0 : 0 ≤ j) (h1 : j < 16) : w.cell? ⟨0, j.toNat, none⟩ = some (.int .u32 (rd halves j)) := by
  obtain ⟨ad, e, hx⟩ := Kd.at_int h j h0 h1
  injection e with e
  subst e
  obtain ⟨n, rfl⟩ := Int.eq_ofNat_of_zero_le h0
  rw [← hx]
  congr 1
  cases n <;> simp [Addr.add]
/-- Out of the sixteen cells. -/
theorem Tab.of_cells {w : World} (h : ∀ i, i < 16 → w.cell? ⟨0, i, none⟩ = some (.int .u32 (halves.getD i 0))) : Tab w := by
  refine Kd.C_of_reads (d := (0 : Int)) (h1 := fun _ => rfl) (enc := fun x => Value.int .u32 x) ⟨rfl, by decide, fun _ => ⟨_, rfl, fun j hj => ?_⟩⟩
  rw [← h j hj]
  congr 1
  cases j <;> simp [Addr.add]

/-- The cells of a block, as a row that is read. -/
theorem C_block {k : IntKind} {w : World} {g : Nat} {ty : TypeId} {fr : Nat × Nat} {cs : Array Value} (xs : List Int) (h : w.heap[g]? = some (.cells cs ty fr)) (hc : cs = (xs.map (Value.int k)).toArray) (hl : xs.length ≤ 9223372036854775807) : Kd.C (Kd.int k) w (some ⟨g, 0, none⟩) xs.length xs := by
  refine Kd.C_of_reads (d := (0 : Int)) (h1 := fun _ => rfl) (enc := fun x => Value.int k x) ⟨rfl, hl, fun _ => ⟨_, rfl, fun j hj => ?_⟩⟩
  rw [show (Addr.add ⟨g, 0, none⟩ j) = ⟨g, j, none⟩ by cases j <;> simp [Addr.add], cell_of_row w g j cs ty fr h, hc]
  simp [hj]
end Go.Proofs.YtogapedacdnfcaaDoor.G
/- sums.More by hand. -/
namespace Go.Proofs.YtogapedacdnfcaaDoor.G
open Go.RowKit Go.Proofs.YtogapedacdnfcaaDoorW.PrintWords Go.Proofs.YtogapedacdnfcaaDoorW.PrintLast Go.Proofs.YtogapedacdnfcaaDoorW.PrintMore
set_option linter.unusedVariables false
set_option linter.unusedSimpArgs false

theorem bits32_range (op : BinOp) (x y : Int) : 0 ≤ Go.bits op .u32 x y ∧ Go.bits op .u32 x y < 4294967296 := by
  have : ∀ n : Int, 0 ≤ IntKind.u32.wrap n ∧ IntKind.u32.wrap n < 4294967296 := fun n => by
    rw [show IntKind.u32.wrap n = n % 4294967296 by simp [IntKind.wrap, IntKind.bits, IntKind.signed]]; omega
  unfold Go.bits
  exact this _
theorem and15 (s : Int) (h0 : 0 ≤ s) (h1 : s < 4294967296) : Go.bits .and .u32 s 15 = s % 16 := by
  have := bits_mask .u32 32 (by decide) (fun n a b => by rw [IntKind.wrap_u32]; omega) 4 (by decide) s h0 (by omega)
  simpa using this
/-- half of a byte -/
def nib (s : Int) : Int := Go.bits .xor .u32 (s / 16) (rd halves (Go.bits .and .u32 s 15))
/-- a byte -/
def more1 (s c : Int) : Int := nib (nib (Go.bits .xor .u32 s (c % 4294967296)))
def not32 (s : Int) : Int := Go.bits .xor .u32 IntKind.u32.max s
def sums_More.f (a0 : Int) (l1 : List Int) : Option Int := if l1.length < 4611686018427387904 then some (not32 (l1.foldl more1 (not32 a0))) else none
theorem nib_at {w : World} (hT : Tab w) (s : Int) (h : 0 ≤ s ∧ s < 4294967296) : (0 ≤ Go.bits .and .u32 s 15) ∧ (Go.bits .and .u32 s 15 < 16) ∧ w.cell? ⟨0, (Go.bits .and .u32 s 15).toNat, none⟩ = some (.int .u32 (rd halves (Go.bits .and .u32 s 15))) := by
  have := and15 s h.1 h.2
  have h0 : 0 ≤ Go.bits .and .u32 s 15 := by omega
  have h1 : Go.bits .and .u32 s 15 < 16 := by omega
  exact ⟨h0, h1, hT.at_ _ h0 h1⟩
theorem foldl_rd {α : Type} {f : α → Int → α} {l : List Int} {x : Int} (h0 : 0 ≤ x) (h1 : x < (l.length : Int)) (a : α) : (l.drop x.toNat).foldl f a = (l.drop (x + 1).toNat).foldl f (f a (rd l x)) := by
  have hx : x.toNat < l.length := by omega
  rw [List.drop_eq_getElem_cons hx, List.foldl_cons, show (x + 1).toNat = x.toNat + 1 by omega]
  congr 2
  simp [rd, hx]
set_option maxHeartbeats 8000000 in
set_option maxRecDepth 100000 in
theorem sums_More.calls (a0 : Int) (A1 : Option Addr) (c1 : Nat) (l1 : List Int) (r : Int) (w : World) (hT : Tab w) (hr1 : Kd.C (Kd.int .u8) w A1 l1.length l1) (hc1 : l1.length ≤ c1) (h : sums_More.f a0 l1 = some r) :
    Calls Tryd.prog 78 #[.int .u32 a0, .slice A1 l1.length c1] w fun e w' => e = .returned (.int .u32 r) ∧ Drawn0 w w' := by
  have HR1 := Aside0.mk hr1
  have HC1 := Aside0.mk hc1
  have HT := Aside0.mk hT
  clear hr1 hc1 hT
  have HLN : Aside0 (l1.length < 4611686018427387904) := ⟨by unfold sums_More.f at h; split at h; assumption; simp at h⟩
  have H : Aside0 (not32 (l1.foldl more1 (not32 a0)) = r) := ⟨by unfold sums_More.f at h; split at h; exact Option.some.inj h; simp at h⟩
  clear h
  have hsg : IntKind.u32.signed = false := rfl
  go_enter Tryd.func78, Tryd.ntmps78
  go_wp2
  go_loopg [0, 11] (l1.length + 1) (fun kq v0 v11 w' => ∃ (x0 : Int) (x11 : Int), v0 = .int .u32 x0 ∧ v11 = .int .i64 x11 ∧ Aside0 (0 ≤ x0 ∧ x0 < 4294967296) ∧ Aside0 (0 ≤ x11 ∧ x11 ≤ l1.length) ∧ Aside0 (kq + x11.toNat = l1.length + 1) ∧ Aside0 (not32 ((l1.drop x11.toNat).foldl more1 x0) = r) ∧ Drawn0 w w')
  case atStart => exact ⟨_, 0, rfl, rfl, ⟨bits32_range _ _ _⟩, ⟨by omega⟩, ⟨rfl⟩, ⟨H.out⟩, Drawn0.refl _⟩
  case round =>
    obtain ⟨x0, x11, rfl, rfl, HX, HI, HK, HA, ⟨m, rfl⟩⟩ := hrel
    have HC := Aside0.mk (show Kd.C (Kd.int .u8) (w.drewN m) A1 l1.length l1 from HR1.out)
    have HT2 := Aside0.mk (show Tab (w.drewN m) from HT.out)
    by_cases c2 : x11 < (l1.length : Int)
    · have c2b : decide (x11 < (l1.length : Int)) = true := decide_eq_true c2
      obtain ⟨ad, e, hx⟩ := Kd.at_int HC.out x11 HI.out.1 c2
      cases e
      have p1 : (0 ≤ x11) = True := eq_true HI.out.1
      have q1 : (x11 < (l1.length : Int)) = True := eq_true c2
      have HC2 := Aside0.mk c2
      clear c2
      obtain ⟨p2, q2, hx2⟩ := nib_at HT2.out _ (bits32_range .xor x0 (rd l1 x11 % 4294967296))
      replace p2 := eq_true p2
      replace q2 := eq_true q2
      obtain ⟨p3, q3, hx3⟩ := nib_at HT2.out _ (bits32_range .xor (Go.bits .xor .u32 x0 (rd l1 x11 % 4294967296) / 16) (rd halves (Go.bits .and .u32 (Go.bits .xor .u32 x0 (rd l1 x11 % 4294967296)) 15)))
      replace p3 := eq_true p3
      replace q3 := eq_true q3
      go_wp2
      go_roundg (gk - 1)
      case measure => have := HK.out; have := HI.out; have := HC2.out; omega
      case rel => exact ⟨_, x11 + 1, rfl, by rw [show wrap64 (x11 + 1) = x11 + 1 from by have := HI.out; have := HLN.out; unfold wrap64; omega], ⟨bits32_range _ _ _⟩, ⟨by have := HI.out; have := HC2.out; omega⟩, ⟨by have := HK.out; have := HI.out; have := HC2.out; omega⟩, ⟨by rw [← HA.out, foldl_rd HI.out.1 HC2.out x0]; rfl⟩, ⟨m, rfl⟩⟩
    · have h4 : x11 = l1.length := by have := HI.out; omega
      have c2b : decide (x11 < (l1.length : Int)) = false := decide_eq_false c2
      go_wp2
      go_ret
      refine ⟨?_, ⟨m, rfl⟩⟩
      rw [← HA.out, h4]
      simp [not32]
end Go.Proofs.YtogapedacdnfcaaDoor.G
/- sums.four, sums.Crc and sums.Seal by hand. -/
namespace Go.Proofs.YtogapedacdnfcaaDoor.G
open Go.RowKit Go.Proofs.YtogapedacdnfcaaDoorW.PrintWords Go.Proofs.YtogapedacdnfcaaDoorW.PrintLast Go.Proofs.YtogapedacdnfcaaDoorW.PrintMore
set_option linter.unusedVariables false
set_option linter.unusedSimpArgs false

def sums_Crc.f (l0 : List Int) : Option Int := sums_More.f 0 l0
set_option maxHeartbeats 8000000 in
set_option maxRecDepth 100000 in
theorem sums_Crc.calls (A0 : Option Addr) (c0 : Nat) (l0 : List Int) (r : Int) (w : World) (hT : Tab w) (hr0 : Kd.C (Kd.int .u8) w A0 l0.length l0) (hc0 : l0.length ≤ c0) (h : sums_Crc.f l0 = some r) :
    Calls Tryd.prog 62 #[.slice A0 l0.length c0] w fun e w' => e = .returned (.int .u32 r) ∧ Drawn0 w w' := by
  have C := Aside0.mk (sums_More.calls 0 A0 c0 l0 r w hT hr0 hc0 h)
  go_enter Tryd.func62, Tryd.ntmps62
  go_wp2_with (first | ((with_reducible refine gate_callee (f := 78) rfl ?_); refine goesL_ (some 4) rfl rfl Tryd.func78 (by kernel_rfl) rfl #[.int .u32 0, .slice A0 l0.length c0] rfl (by (try simp only [List.map_toArray, List.map_cons, List.map_nil]); first | done | rfl) ?_; refine (C.out).mono ?_; rintro e w' ⟨rfl, ⟨nd, rfl⟩⟩; refine ⟨_, rfl, ?_⟩))
  go_ret
  exact ⟨rfl, ⟨nd, rfl⟩⟩

/-- a sum's bytes -/
def bytes4 (s : Int) : List Int := [s % 256, s / 256 % 256, s / 65536 % 256, s / 16777216 % 256]
set_option maxHeartbeats 8000000 in
set_option maxRecDepth 100000 in
theorem sums_four.calls (a0 : Int) (w : World) :
    Calls Tryd.prog 61 #[.int .u32 a0] w fun e w' => e = .returned (.agg #[.int .u8 (a0 % 256), .int .u8 (a0 / 256 % 256), .int .u8 (a0 / 65536 % 256), .int .u8 (a0 / 16777216 % 256)]) ∧ Below w.heap.size w w' := by
  go_enter Tryd.func61, Tryd.ntmps61
  go_wp2
  refine bodyPost_ret (results_single rfl (.cell w.heap.size 126 _ (0, 0) _ rfl (blk_new w _) Tryd.underlying126 rfl (by kernel_rfl) .nil)) rfl ?_
  exact ⟨rfl, (Below.refl _ _).alloc (Nat.le_refl _) _⟩

def sums_Seal.f (l0 : List Int) : Option (List Int) := (sums_Crc.f l0).bind fun s => if l0.length < 140737488355324 then some (l0 ++ bytes4 s) else none
set_option maxHeartbeats 8000000 in
set_option maxRecDepth 100000 in
theorem sums_Seal.calls (A0 : Option Addr) (c0 : Nat) (l0 : List Int) (r : List Int) (w : World) (hT : Tab w) (hr0 : Kd.C (Kd.int .u8) w A0 l0.length l0) (hc0 : l0.length ≤ c0) (h : sums_Seal.f l0 = some r) :
    Calls Tryd.prog 31 #[.slice A0 l0.length c0] w fun e w' => ∃ v0_, e = .returned v0_ ∧ Kd.R (Kd.int .u8) 5 w' w.heap.size (fun _ => True) v0_ r ∧ Below w.heap.size w w' := by
  obtain ⟨s, hs, h⟩ := Option.bind_eq_some_iff.1 h
  have hl : l0.length < 140737488355324 := by split at h; assumption; simp at h
  rw [if_pos hl] at h
  obtain rfl := Option.some.inj h
  have C := Aside0.mk (sums_Crc.calls A0 c0 l0 s w hT hr0 hc0 hs)
  have HR := Aside0.mk hr0
  have hl1 : (0 : Int) ≤ (l0.length : Int) + 4 := by omega
  clear h hs hr0
  have info5 : (Tryd.prog.info? 5).map (fun i => (i.zero, i.size, i.bytes)) = some (some (.int .u8 0), 1, 1) := by kernel_rfl
  obtain ⟨i5, hi5, hi5z, hi5s, hi5b⟩ := info_parts info5
  go_enter Tryd.func31, Tryd.ntmps31
  go_upto_region 2 with (first | ((with_reducible refine gate_callee (f := 62) rfl ?_); refine goesL_ (some 6) rfl rfl Tryd.func62 (by kernel_rfl) rfl #[.slice A0 l0.length c0] rfl (by (try simp only [List.map_toArray, List.map_cons, List.map_nil]); first | done | rfl) ?_; refine (C.out).mono ?_; rintro e w' ⟨rfl, ⟨nd, rfl⟩⟩; refine ⟨_, rfl, ?_⟩) | ((with_reducible refine gate_callee (f := 61) rfl ?_); refine goesL_ (some 7) rfl rfl Tryd.func61 (by kernel_rfl) rfl #[.int .u32 s] rfl (by (try simp only [List.map_toArray, List.map_cons, List.map_nil]); first | done | rfl) ?_; refine (sums_four.calls s (w.drewN nd)).mono ?_; rintro e w1 ⟨rfl, hb⟩; refine ⟨_, rfl, ?_⟩))
  have hsz : w.heap.size ≤ w1.heap.size := hb.size
  have hBW : Below w.heap.size w (w1.alloc (Obj.cells #[.int .u8 (s % 256), .int .u8 (s / 256 % 256), .int .u8 (s / 65536 % 256), .int .u8 (s / 16777216 % 256)] 126)) := ((show Below w.heap.size w (w.drewN nd) from ⟨rfl, rfl, rfl, Nat.le_refl _, fun _ _ => rfl⟩).trans hb).alloc hsz _
  have hce := heap_alloc_new w1 (Obj.cells #[.int .u8 (s % 256), .int .u8 (s / 256 % 256), .int .u8 (s / 65536 % 256), .int .u8 (s / 16777216 % 256)] 126)
  clear hb
  generalize w1.heap.size = g at *
  generalize (w1.alloc (Obj.cells #[.int .u8 (s % 256), .int .u8 (s / 256 % 256), .int .u8 (s / 65536 % 256), .int .u8 (s / 16777216 % 256)] 126)) = W2 at *
  have HW := Aside0.mk hBW
  have HCE := Aside0.mk hce
  clear hBW hce
  go_wp2_with (first | ((with_reducible refine gate_dst (N := 11) rfl ?_); refine of_halt ?_))
  unfold Halt
  refine wpList_make_own _ rfl (.const (.int .i64 0)) (.tmp 10) 26 rfl w.heap.size 5 i5 (.int .u8 0) 1 Tryd.underlying26 hi5 hi5z hi5s .i64 .i64 ((l0.length : Int) + 4) (l0.length + 4) rfl rfl (by omega) (by rw [hi5b]; omega) (by unfold maxLen; omega) HW.out.size ?_
  intro w3 hown hgr
  have HW3 := Aside0.mk (HW.out.grown hgr HW.out.size (by simp))
  have HCE3 := Aside0.mk (blk_grown HCE.out hgr (by simp))
  have HO := Aside0.mk (show Kd.R (Kd.int .u8) 5 w3 w.heap.size (fun k => True) _ [] from Kd.R_of_own (enc := Value.int .u8) (h1 := fun _ => rfl) hown (fun _ _ => trivial))
  go_upto_region 3 with (fail)
  have hgne : g ≠ W2.heap.size := Nat.ne_of_lt (blk_lt HCE.out)
  refine start_ (n := 6) (S := fun w' => True) (ds := []) #[false, false, false, false, false, false] (by kernel_rfl) rfl rfl trivial (fun hHeld => ?_)
  refine pure_ (i := 0) (N := some 12) (v := ?_) (a' := ?_) #[true, false, false, false, false, false] rfl rfl (by kernel_rfl) (fun _ _ _ h => h) (Or.inl ⟨by rfl, ?_⟩) ?_ ?_
  rotate_left
  · intro w'
    go_simp
    with_reducible rfl
  rotate_left
  · simp only [Act.put, List.setIfInBounds_toArray, List.set_cons_zero, List.set_cons_succ, i64_w, i32_w]
    rfl
  refine pure_ (i := 1) (N := some 13) (v := ?_) (a' := ?_) #[true, true, false, false, false, false] rfl rfl (by kernel_rfl) (fun _ _ _ h => h) (Or.inl ⟨by rfl, ?_⟩) ?_ ?_
  rotate_left
  · intro w'
    go_simp
    with_reducible rfl
  rotate_left
  · simp only [Act.put, List.setIfInBounds_toArray, List.set_cons_zero, List.set_cons_succ, i64_w, i32_w]
    rfl
  refine pure_ (i := 3) (N := some 15) (v := ?_) (a' := ?_) #[true, true, false, true, false, false] rfl rfl (by kernel_rfl) (fun _ _ _ h => h) (Or.inl ⟨by rfl, ?_⟩) ?_ ?_
  rotate_left
  · intro w'
    go_simp
    with_reducible rfl
  rotate_left
  · simp only [Act.put, List.setIfInBounds_toArray, List.set_cons_zero, List.set_cons_succ, i64_w, i32_w]
    rfl
  refine one_ (i := 2) (N := some 14) #[true, true, true, true, false, false] rfl rfl (by kernel_rfl) (by decide) (fun K hK => ?_)
  refine step_append_row .u8 (w0 := w) w.heap.size (by rfl) (.tmp 12) (.tmp 13) 26 5 1 rfl Tryd.underlying26 info5 (by omega) (.slice (some ⟨W2.heap.size, 0, none⟩) 0 (l0.length + 4)) [] l0 A0 l0.length c0 (fun _ => True) rfl rfl (fun _ _ => trivial) (Kd.R_drew HO.out) (Kd.C_drew (Kd.C_below HR.out HW3.out)) (below_drew1 HW3.out) HW3.out.size (by simp; omega) ?_
  intro v4 w4 ho4 hb4 hg4 hat4
  have HO4 := Aside0.mk ho4
  have HW4 := Aside0.mk hb4
  have HCE4 := Aside0.mk (blk_grown (blk_drew HCE3.out) hg4 (by simp [Value.ownBlock, hgne]))
  clear ho4 hb4 hg4 hat4
  refine hK.out _ _ trivial (fun hHeld => ?_)
  clear hK K
  refine norm_ (a' := ?_) ?_ ?_
  rotate_left
  · show Act.put _ (some 14) _ = _
    simp only [Act.put, List.setIfInBounds_toArray, List.set_cons_zero, List.set_cons_succ, i64_w, i32_w]
    rfl
  refine one_ (i := 4) (N := some 16) #[true, true, true, true, true, false] rfl rfl (by kernel_rfl) (by decide) (fun K hK => ?_)
  refine step_append_row .u8 (w0 := w) w.heap.size (by rfl) (.tmp 14) (.tmp 15) 26 5 1 rfl Tryd.underlying26 info5 (by omega) v4 ([] ++ l0) (bytes4 s) (some ⟨g, 0, none⟩) 4 4 (fun _ => True) rfl rfl (fun _ _ => trivial) HO4.out (C_block (bytes4 s) HCE4.out rfl (by simp [bytes4])) HW4.out HW4.out.size (by simp [bytes4]; omega) ?_
  intro v5 w5 ho5 hb5 hg5 hat5
  have HO5 := Aside0.mk ho5
  have HW5 := Aside0.mk hb5
  clear ho5 hb5 hg5 hat5
  refine hK.out _ _ trivial (fun hHeld => ?_)
  clear hK K
  refine norm_ (a' := ?_) ?_ ?_
  rotate_left
  · show Act.put _ (some 16) _ = _
    simp only [Act.put, List.setIfInBounds_toArray, List.set_cons_zero, List.set_cons_succ, i64_w, i32_w]
    rfl
  refine pure_ (i := 5) (N := some 2) (v := ?_) (a' := ?_) #[true, true, true, true, true, true] rfl rfl (by kernel_rfl) (fun _ _ _ h => h) (Or.inl ⟨by rfl, ?_⟩) ?_ ?_
  rotate_left
  · intro w'
    go_simp
    with_reducible rfl
  rotate_left
  · simp only [Act.put, List.setIfInBounds_toArray, List.set_cons_zero, List.set_cons_succ, i64_w, i32_w]
    rfl
  refine done_ (by kernel_rfl) ?_
  go_wp2
  go_ret
  exact ⟨_, rfl, HO5.out, HW5.out⟩
end Go.Proofs.YtogapedacdnfcaaDoor.G
/- Arrays of whole numbers as values: loading one from a place, comparing two, a slice's array. -/
namespace Go.Proofs.YtogapedacdnfcaaDoor.G
open Go.RowKit Go.Proofs.YtogapedacdnfcaaDoorW.PrintWords Go.Proofs.YtogapedacdnfcaaDoorW.PrintLast Go.Proofs.YtogapedacdnfcaaDoorW.PrintMore

theorem load_ints {P : Program} (w : World) (ty e : TypeId) (n : Nat) (k : IntKind) (ad : Addr) (xs : List Int) (hu : P.underlying ty = some (.array n e)) (hi : (P.info? ty).map (·.size) = some n) (hx : xs.length = n)
    (hc : ∀ j, j < n → w.cell? (ad.add j) = some (.int k (xs.getD j 0))) : (Instr.loadAt ty (.pointer (some ad))).run P w = .ok (.agg (xs.map (Value.int k)).toArray) w := by
  have hl : (loadCells ad (xs.map (Value.int k)).length).run P w = .ok (xs.map (Value.int k)).toArray w :=
    run_loadCells_list (P := P) w ad _ (fun j v hv => by
      rw [List.getElem?_map] at hv
      cases hj : xs[j]? with
      | none => simp [hj] at hv
      | some x =>
        simp only [hj, Option.map_some, Option.some.injEq] at hv
        have hlt := (List.getElem?_eq_some_iff.1 hj).1
        rw [hc j (by omega), ← hv]
        simp [List.getD, hj])
  cases hq : P.info? ty with
  | none => simp [hq] at hi
  | some i =>
    have hs : i.size = (xs.map (Value.int k)).length := by simpa [hq, hx] using hi
    have hagg : (isAgg ty).run P w = .ok true w := by
      unfold isAgg
      rw [Sem.run_bind, run_underlying hu w]
      simp
    simp only [Instr.loadAt, Instr.sureAddr, Sem.run_bind, Sem.run_pure, Result.andThen_ok]
    simp [loadVar, Sem.run_bind, hagg, sizeOf, typeInfo, hq, hs]
    rw [show xs.length = (xs.map (Value.int k)).length by simp, hl]
    simp
theorem all_range_ints : ∀ (xs ys : List Int), xs.length = ys.length → ((List.range xs.length).all fun i => xs.getD i 0 == ys.getD i 0) = (xs == ys)
  | [], [], _ => rfl
  | x :: xs, y :: ys, h => by
    have ih := all_range_ints xs ys (by simpa using h)
    rw [List.length_cons, List.range_succ_eq_map, List.all_cons, List.all_map]
    simp only [List.getD_cons_zero, Function.comp_def, List.getD_cons_succ, ih]
    simp [List.cons_beq_cons]
  | [], _ :: _, h => by simp at h
  | _ :: _, [], h => by simp at h
theorem equal_ints {P : Program} (w : World) (d : Nat) (t e : TypeId) (n : Nat) (k : IntKind) (ht : P.underlying t = some (.array n e)) (he : P.underlying e = some (.int k)) (hsz : (P.info? e).map (·.size) = some 1)
    (xs ys : List Int) (hx : xs.length = n) (hy : ys.length = n) :
    (Op.equalIn (d + 2) t (.agg (xs.map (Value.int k)).toArray) (.agg (ys.map (Value.int k)).toArray)).run P w = .ok (xs == ys) w := by
  have hsz' : ∀ w, (sizeOf e).run P w = .ok 1 w := by
    intro w
    cases hq : P.info? e with
    | none => simp [hq] at hsz
    | some i => simp [sizeOf, typeInfo, hq] at hsz ⊢; exact hsz
  rw [← all_range_ints xs ys (hx.trans hy.symm), hx, List.range_eq_range', Op.equalIn]
  simp only [Sem.run_bind, run_underlying ht, Result.andThen_ok, hsz', Std.Legacy.Range.forIn_eq_forIn_range', Std.Legacy.Range.size, Nat.sub_zero, Nat.add_sub_cancel, Nat.div_one]
  have hl : ∀ i ∈ List.range' 0 n 1, i < n := fun i hi => by simpa using (List.mem_range'_1.1 hi).2
  generalize List.range' 0 n 1 = l at hl ⊢
  induction l with
  | nil => simp
  | cons i l ih =>
    have hi : i < n := hl i (by simp)
    have px : (part e (xs.map (Value.int k)).toArray (i * 1)).run P w = .ok (.int k (xs.getD i 0)) w := by
      simp [part, isAgg, run_underlying he, List.getD, List.getElem?_eq_getElem (show i < xs.length by omega)]
    have py : (part e (ys.map (Value.int k)).toArray (i * 1)).run P w = .ok (.int k (ys.getD i 0)) w := by
      simp [part, isAgg, run_underlying he, List.getD, List.getElem?_eq_getElem (show i < ys.length by omega)]
    have pe : (Op.equalIn (d + 1) e (.int k (xs.getD i 0)) (.int k (ys.getD i 0))).run P w = .ok (xs.getD i 0 == ys.getD i 0) w := by
      rw [run_equalIn_int w d e k k _ _ he]
    simp only [List.forIn_cons, Sem.run_bind, px, py, pe, Result.andThen_ok, List.all_cons]
    cases hb : (xs.getD i 0 == ys.getD i 0)
    · simp
    · simp only [Bool.not_true, Bool.false_eq_true, if_false, Sem.run_pure, Result.andThen_ok, Bool.true_and]
      exact ih fun j hj => hl j (by simp [hj])
theorem neq_ints {P : Program} (w : World) (t e : TypeId) (n : Nat) (k : IntKind) (ht : P.underlying t = some (.array n e)) (he : P.underlying e = some (.int k)) (hsz : (P.info? e).map (·.size) = some 1)
    (xs ys : List Int) (hx : xs.length = n) (hy : ys.length = n) :
    (binOp .neq t (.agg (xs.map (Value.int k)).toArray) (.agg (ys.map (Value.int k)).toArray)).run P w = .ok (.bool (!(xs == ys))) w := by
  rw [run_neq_struct, equal_ints w 9998 t e n k ht he hsz xs ys hx hy]
  rfl
theorem eql_ints {P : Program} (w : World) (t e : TypeId) (n : Nat) (k : IntKind) (ht : P.underlying t = some (.array n e)) (he : P.underlying e = some (.int k)) (hsz : (P.info? e).map (·.size) = some 1)
    (xs ys : List Int) (hx : xs.length = n) (hy : ys.length = n) :
    (binOp .eql t (.agg (xs.map (Value.int k)).toArray) (.agg (ys.map (Value.int k)).toArray)).run P w = .ok (.bool (xs == ys)) w := by
  rw [run_eql_struct, equal_ints w 9998 t e n k ht he hsz xs ys hx hy]
  rfl
end Go.Proofs.YtogapedacdnfcaaDoor.G
/- sums.Open by hand. -/
namespace Go.Proofs.YtogapedacdnfcaaDoor.G
open Go.RowKit Go.Proofs.YtogapedacdnfcaaDoorW.PrintWords Go.Proofs.YtogapedacdnfcaaDoorW.PrintLast Go.Proofs.YtogapedacdnfcaaDoorW.PrintMore
set_option linter.unusedVariables false
set_option linter.unusedSimpArgs false

def sums_Open.f (l0 : List Int) : Option (List Int × Int) :=
  if l0.length < 4 then some ([], 20) else if l0.length < 140737488355324 then (sums_Crc.f (l0.take (l0.length - 4))).bind fun s => some (if l0.drop (l0.length - 4) = bytes4 s then (l0.take (l0.length - 4), 0) else ([], 21)) else none
set_option maxHeartbeats 8000000 in
set_option maxRecDepth 100000 in
theorem sums_Open.calls (A0 : Option Addr) (c0 : Nat) (l0 : List Int) (r1 : List Int) (r2 : Int) (w : World) (hT : Tab w) (hr0 : Kd.C (Kd.int .u8) w A0 l0.length l0) (hc0 : l0.length ≤ c0) (h : sums_Open.f l0 = some (r1, r2)) :
    Calls Tryd.prog 34 #[.slice A0 l0.length c0] w fun e w' => ∃ v0_, e = .returned (.tuple #[v0_, .int .i64 r2]) ∧ Kd.R (Kd.int .u8) 5 w' w.heap.size (fun _ => True) v0_ r1 ∧ Below w.heap.size w w' := by
  have info5 : (Tryd.prog.info? 5).map (fun i => (i.zero, i.size, i.bytes)) = some (some (.int .u8 0), 1, 1) := by kernel_rfl
  by_cases h4 : l0.length < 4
  · rw [sums_Open.f, if_pos h4] at h
    injection h with h
    injection h with h1 h2
    subst h1 h2
    have hs : ((l0.length : Int) - 4 < 0) := by omega
    go_enter Tryd.func34, Tryd.ntmps34
    go_wp2
    go_ret2
    exact ⟨_, rfl, Kd.R_nil _ _ _ _ _, Below.refl _ _⟩
  · rw [sums_Open.f, if_neg h4] at h
    have hl : l0.length < 140737488355324 := by split at h; assumption; simp at h
    rw [if_pos hl] at h
    obtain ⟨s, hs, h⟩ := Option.bind_eq_some_iff.1 h
    obtain ⟨ad, rfl⟩ : ∃ ad, A0 = some ad := by
      obtain ⟨ad, e, _⟩ := Kd.at_int hr0 0 (by omega) (by omega)
      exact ⟨ad, e⟩
    obtain ⟨n, hn⟩ : ∃ n : Nat, l0.length = n + 4 := ⟨l0.length - 4, by omega⟩
    have HR := Aside0.mk hr0
    have HT := Aside0.mk hT
    have HH := Aside0.mk h
    have HC := Aside0.mk hs
    clear hr0 hT h hs
    have hi : (l0.length : Int) - 4 = (n : Int) := by omega
    have e1 : wrap64 ((l0.length : Int) - 4) = (n : Int) := by unfold wrap64; omega
    have n0 : (0 : Int) ≤ (n : Int) := by omega
    obtain ⟨i5, hi5, hi5z, hi5s, hi5b⟩ := info_parts info5
    have hn0 : (n : Int).toNat = n := by omega
    have f1 : ((n : Int) ≤ (n : Int) + 4) = True := eq_true (by omega)
    have f2 : (n ≤ c0) = True := eq_true (by omega)
    have f3 : (c0 = n) = False := eq_false (by omega)
    have hcut13 : ∀ W, (Instr.arrayAt 126 (.slice (some (ad.add n)) 4 (c0 - n))).run Tryd.prog W = .ok (.pointer (some (ad.add n))) W := fun W => run_arrayAt W 126 5 4 _ _ _ Tryd.underlying126 (Nat.le_refl _)
    have hdl : (l0.drop n).length = 4 := by rw [List.length_drop]; omega
    have hS : ∀ W, Kd.C (Kd.int .u8) W (some ad) l0.length l0 → ∀ j, j < 4 → W.cell? ((ad.add n).add j) = some (.int .u8 ((l0.drop n).getD j 0)) := by
      intro W hC j hj
      obtain ⟨ad', e, hx⟩ := Kd.at_int hC ((n + j : Nat) : Int) (by omega) (by omega)
      injection e with e
      subst e
      rw [Addr.add_add, ← Int.toNat_natCast (n + j), hx]
      congr 2
      simp only [rd, Int.toNat_natCast, List.getD_eq_getElem?_getD, List.getElem?_drop]
    obtain ⟨d0, d1, d2, d3, hd⟩ : ∃ d0 d1 d2 d3, l0.drop n = [d0, d1, d2, d3] := by
      generalize l0.drop n = d at hdl
      match d, hdl with
      | [d0, d1, d2, d3], _ => exact ⟨d0, d1, d2, d3, rfl⟩
    rw [hd] at hS
    have hS4 : ∀ W, Kd.C (Kd.int .u8) W (some ad) l0.length l0 → W.cell? (ad.add n) = some (.int .u8 d0) ∧ W.cell? ⟨(ad.add n).block, (ad.add n).off + 1, none⟩ = some (.int .u8 d1) ∧ W.cell? ⟨(ad.add n).block, (ad.add n).off + 2, none⟩ = some (.int .u8 d2) ∧ W.cell? ⟨(ad.add n).block, (ad.add n).off + 3, none⟩ = some (.int .u8 d3) := by
      intro W hC
      have h0 := hS W hC 0 (by omega)
      have h1 := hS W hC 1 (by omega)
      have h2 := hS W hC 2 (by omega)
      have h3 := hS W hC 3 (by omega)
      simp only [Addr.add, Nat.reduceEqDiff, if_false, if_true, List.getD_cons_zero, List.getD_cons_succ] at h0 h1 h2 h3 ⊢
      exact ⟨h0, h1, h2, h3⟩
    have hneq : ∀ W, (binOp .neq 126 (.agg #[.int .u8 d0, .int .u8 d1, .int .u8 d2, .int .u8 d3]) (.agg #[.int .u8 (s % 256), .int .u8 (s / 256 % 256), .int .u8 (s / 65536 % 256), .int .u8 (s / 16777216 % 256)])).run Tryd.prog W = .ok (.bool (!(l0.drop n == bytes4 s))) W := by
      intro W
      rw [hd]
      exact neq_ints W 126 5 4 .u8 Tryd.underlying126 Tryd.underlying5 (by kernel_rfl) [d0, d1, d2, d3] (bytes4 s) rfl rfl
    have HTC : ∀ W, Kd.C (Kd.int .u8) W (some ad) l0.length l0 → Kd.C (Kd.int .u8) W (some ad) n (l0.take n) := by
      intro W hC
      have := Kd.C_take (m := n) hC (by omega)
      rwa [List.length_take, Nat.min_eq_left (by omega)] at this
    have htl : (l0.take n).length = n := by rw [List.length_take]; omega
    have CC : ∀ W, Tab W → Kd.C (Kd.int .u8) W (some ad) l0.length l0 → Calls Tryd.prog 62 #[.slice (some ad) n c0] W fun e w' => e = .returned (.int .u32 s) ∧ Drawn0 W w' := by
      intro W hT hC
      have := sums_Crc.calls (some ad) c0 (l0.take n) s W hT (by rw [htl]; exact HTC W hC) (by omega) (by have := HC.out; rwa [show l0.length - 4 = n by omega] at this)
      rwa [htl] at this
    generalize hb : (!(l0.drop n == bytes4 s)) = b at hneq
    have HTR := Aside0.mk hS4
    have HCC := Aside0.mk CC
    have HHB := Aside0.mk hb
    have HDL := Aside0.mk hdl
    clear hS hS4 CC HTC hb hdl htl HC
    go_enter Tryd.func34, Tryd.ntmps34
    go_upto_region 4 with (fail)
    refine start_ (n := 11) (S := fun w' => w'.cell? (ad.add n) = some (.int .u8 d0) ∧ w'.cell? ⟨(ad.add n).block, (ad.add n).off + 1, none⟩ = some (.int .u8 d1) ∧ w'.cell? ⟨(ad.add n).block, (ad.add n).off + 2, none⟩ = some (.int .u8 d2) ∧ w'.cell? ⟨(ad.add n).block, (ad.add n).off + 3, none⟩ = some (.int .u8 d3)) (ds := []) #[false, false, false, false, false, false, false, false, false, false, false] (by kernel_rfl) rfl rfl ⟨(HTR.out _ (Kd.C_drew HR.out)).1, (HTR.out _ (Kd.C_drew HR.out)).2.1, (HTR.out _ (Kd.C_drew HR.out)).2.2.1, (HTR.out _ (Kd.C_drew HR.out)).2.2.2⟩ (fun hHeld => ?_)
    refine pure_ (i := 0) (N := some 10) (v := ?_) (a' := ?_) #[true, false, false, false, false, false, false, false, false, false, false] rfl rfl (by kernel_rfl) (fun _ _ _ h => h) (Or.inl ⟨by rfl, ?_⟩) ?_ ?_
    rotate_left
    · intro w'
      go_simp
      with_reducible rfl
    rotate_left
    · simp only [Act.put, List.setIfInBounds_toArray, List.set_cons_zero, List.set_cons_succ, i64_w, i32_w]
      rfl
    refine pure_ (i := 1) (N := some 11) (v := ?_) (a' := ?_) #[true, true, false, false, false, false, false, false, false, false, false] rfl rfl (by kernel_rfl) (fun _ _ _ h => h) (Or.inl ⟨by rfl, ?_⟩) ?_ ?_
    rotate_left
    · intro w'
      go_simp
      with_reducible rfl
    rotate_left
    · simp only [Act.put, List.setIfInBounds_toArray, List.set_cons_zero, List.set_cons_succ, i64_w, i32_w]
      rfl
    refine pure_ (i := 2) (N := some 12) (v := ?_) (a' := ?_) #[true, true, true, false, false, false, false, false, false, false, false] rfl rfl (by kernel_rfl) (fun _ _ _ h => h) (Or.inl ⟨by rfl, ?_⟩) ?_ ?_
    rotate_left
    · intro w'
      go_simp
      with_reducible rfl
    rotate_left
    · simp only [Act.put, List.setIfInBounds_toArray, List.set_cons_zero, List.set_cons_succ, i64_w, i32_w]
      rfl
    refine pure_ (i := 3) (N := some 13) (v := ?_) (a' := ?_) #[true, true, true, true, false, false, false, false, false, false, false] rfl rfl (by kernel_rfl) (fun _ _ _ h => h) (Or.inl ⟨by rfl, ?_⟩) ?_ ?_
    rotate_left
    · intro w'
      go_simp
      with_reducible rfl
    rotate_left
    · simp only [Act.put, List.setIfInBounds_toArray, List.set_cons_zero, List.set_cons_succ, i64_w, i32_w]
      rfl
    refine pure_ (i := 5) (N := some 15) (v := ?_) (a' := ?_) #[true, true, true, true, false, true, false, false, false, false, false] rfl rfl (by kernel_rfl) (fun _ _ _ h => h) (Or.inl ⟨by rfl, ?_⟩) ?_ ?_
    rotate_left
    · intro w'
      go_simp
      with_reducible rfl
    rotate_left
    · simp only [Act.put, List.setIfInBounds_toArray, List.set_cons_zero, List.set_cons_succ, i64_w, i32_w]
      rfl
    refine pure_ (i := 6) (N := some 16) (v := ?_) (a' := ?_) #[true, true, true, true, false, true, true, false, false, false, false] rfl rfl (by kernel_rfl) (fun _ _ _ h => h) (Or.inl ⟨by rfl, ?_⟩) ?_ ?_
    rotate_left
    · intro w'
      go_simp
      with_reducible rfl
    rotate_left
    · simp only [Act.put, List.setIfInBounds_toArray, List.set_cons_zero, List.set_cons_succ, i64_w, i32_w]
      rfl
    refine pure_ (i := 7) (N := some 17) (v := ?_) (a' := ?_) #[true, true, true, true, false, true, true, true, false, false, false] rfl rfl (by kernel_rfl) (fun _ _ _ h => h) (Or.inl ⟨by rfl, ?_⟩) ?_ ?_
    rotate_left
    · intro w'
      go_simp
      with_reducible rfl
    rotate_left
    · simp only [Act.put, List.setIfInBounds_toArray, List.set_cons_zero, List.set_cons_succ, i64_w, i32_w]
      rfl
    refine take_ (i := 4) (N := some 14) (v := ?_) (a' := ?_) #[true, true, true, true, true, true, true, true, false, false, false] rfl rfl (by kernel_rfl) (fun _ _ _ h => h) (Or.inl ⟨by rfl, ?_⟩) hHeld ?_ ?_
    rotate_left
    · rintro w' ⟨s0, s1, s2, s3⟩
      go_simp
      with_reducible rfl
    rotate_left
    · simp only [Act.put, List.setIfInBounds_toArray, List.set_cons_zero, List.set_cons_succ, i64_w, i32_w]
      rfl
    refine one_ (i := 8) (N := some 18) #[true, true, true, true, true, true, true, true, true, false, false] rfl rfl (by kernel_rfl) (by decide) (fun K hK => ?_)
    refine goes_ Tryd.func62 (by kernel_rfl) rfl #[.slice (some ad) n c0] (by rfl) rfl rfl (by simp only [List.map_toArray, List.map_cons, List.map_nil]; rfl) ?_
    with_reducible refine (HCC.out _ (Kd.C_drew HT.out) (Kd.C_drew HR.out)).mono ?_
    rintro e w3 ⟨rfl, ⟨nd, rfl⟩⟩
    refine ⟨_, rfl, ?_⟩
    refine hK.out _ _ ⟨(HTR.out _ (Kd.C_drewN (Kd.C_drew HR.out) _)).1, (HTR.out _ (Kd.C_drewN (Kd.C_drew HR.out) _)).2.1, (HTR.out _ (Kd.C_drewN (Kd.C_drew HR.out) _)).2.2.1, (HTR.out _ (Kd.C_drewN (Kd.C_drew HR.out) _)).2.2.2⟩ (fun hHeld => ?_)
    clear hK K
    refine norm_ (a' := ?_) ?_ ?_
    rotate_left
    · show Act.put _ (some 18) _ = _
      simp only [Act.put, List.setIfInBounds_toArray, List.set_cons_zero, List.set_cons_succ, i64_w, i32_w]
      rfl
    refine one_ (i := 9) (N := some 19) #[true, true, true, true, true, true, true, true, true, true, false] rfl rfl (by kernel_rfl) (by decide) (fun K hK => ?_)
    refine goes_ Tryd.func61 (by kernel_rfl) rfl #[.int .u32 s] (by rfl) rfl rfl (by simp only [List.map_toArray, List.map_cons, List.map_nil]; rfl) ?_
    with_reducible refine (sums_four.calls s _).mono ?_
    rintro e w4 ⟨rfl, hb4⟩
    refine ⟨_, rfl, ?_⟩
    have HR4 := Aside0.mk (Kd.C_below (Kd.C_drewN (Kd.C_drew HR.out) _) hb4)
    have HB4 := Aside0.mk (below_step (pw_below_drewN (below_drew1 (Below.refl w.heap.size w)) nd) hb4)
    clear hb4
    refine hK.out _ _ ⟨(HTR.out _ HR4.out).1, (HTR.out _ HR4.out).2.1, (HTR.out _ HR4.out).2.2.1, (HTR.out _ HR4.out).2.2.2⟩ (fun hHeld => ?_)
    clear hK K
    refine norm_ (a' := ?_) ?_ ?_
    rotate_left
    · show Act.put _ (some 19) _ = _
      simp only [Act.put, List.setIfInBounds_toArray, List.set_cons_zero, List.set_cons_succ, i64_w, i32_w]
      rfl
    refine pure_ (i := 10) (N := some 20) (v := ?_) (a' := ?_) #[true, true, true, true, true, true, true, true, true, true, true] rfl rfl (by kernel_rfl) (fun _ _ _ h => h) (Or.inl ⟨by rfl, ?_⟩) ?_ ?_
    rotate_left
    · intro w'
      go_simp
      with_reducible rfl
    rotate_left
    · simp only [Act.put, List.setIfInBounds_toArray, List.set_cons_zero, List.set_cons_succ, i64_w, i32_w]
      rfl
    refine done_ (by kernel_rfl) ?_
    cases b with
    | true =>
      have hne : l0.drop n ≠ bytes4 s := by have := HHB.out; simpa using this
      have HH2 := HH.out
      rw [show l0.length - 4 = n by omega, if_neg hne] at HH2
      injection HH2 with HH2
      injection HH2 with h1 h2
      subst h1 h2
      go_wp2
      go_ret2
      exact ⟨_, rfl, Kd.R_nil _ _ _ _ _, HB4.out⟩
    | false =>
      have hne : l0.drop n = bytes4 s := by have := HHB.out; simpa using this
      have HH2 := HH.out
      rw [show l0.length - 4 = n by omega, if_pos hne] at HH2
      injection HH2 with HH2
      injection HH2 with h1 h2
      subst h1 h2
      go_wp2_with (first | ((with_reducible refine gate_dst (N := 25) rfl ?_); refine of_halt ?_))
      unfold Halt
      have hO : Kd.R (Kd.int .u8) 5 (w4.alloc (Obj.cells #[] 5)) w.heap.size (fun _ => True) (.slice (some ⟨w4.heap.size, 0, none⟩) 0 0) [] := ⟨fun _ _ => trivial, OwnRow.lit w4 w.heap.size (ps := []) (inner := []) (Reps.none _ _) HB4.out.size (by simp)⟩
      have hR : Kd.C (Kd.int .u8) (w4.alloc (Obj.cells #[] 5)) (some ad) n (l0.take n) := by
        have := Kd.C_take (m := n) (Kd.C_alloc HR4.out (Obj.cells #[] 5)) (by omega)
        rwa [List.length_take, Nat.min_eq_left (by omega)] at this
      refine Kd.R_append_row (w0 := w) (Value.int .u8) 0 w.heap.size rfl (.tmp 21) (.tmp 24) 26 5 (.int .u8 0) 1 rfl Tryd.underlying26 info5 rfl (by omega) (.slice (some ⟨w4.heap.size, 0, none⟩) 0 0) [] (l0.take n) (some ad) n c0 (fun _ => True) rfl rfl (fun _ _ => trivial) hO hR (below_alloc HB4.out _) ((below_alloc HB4.out (Obj.cells #[] 5)).size) (by simp; omega) ?_
      intro v5 w5 ho5 hb5 hg5 hat5
      go_wp2
      go_ret2
      exact ⟨_, rfl, ho5, hb5⟩
end Go.Proofs.YtogapedacdnfcaaDoor.G
