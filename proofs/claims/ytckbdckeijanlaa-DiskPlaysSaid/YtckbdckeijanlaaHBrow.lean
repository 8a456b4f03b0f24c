/- Rows of bytes of the law's own, disks, and what stays: the words in which laws over disks are walked. -/
import Derived.Test.YtckbdckeijanlaaHDskK
namespace Go.Proofs.Ytckbdckeijanlaa.G
open Go.RowKit Go.Shelf Go.Proofs.YtckbdckeijanlaaW.PrintWords Go.Proofs.YtckbdckeijanlaaW.PrintLast Go.Proofs.YtckbdckeijanlaaW.PrintMore Go.Proofs.Ytckbdckeijanlaa.Dsk
set_option linter.unusedVariables false
set_option linter.unusedSimpArgs false
/-- A row of bytes at block g. -/
def Brow (g c : Nat) (xs : List Int) (W : World) : Prop := Kd.R (Kd.int .u8) 5 W 0 (fun k => k = g) (.slice (some ⟨g, 0, none⟩) xs.length c) xs
theorem Brow.of_R {W : World} {base g c : Nat} {ok : Nat → Prop} {xs : List Int} (h : Kd.R (Kd.int .u8) 5 W base ok (.slice (some ⟨g, 0, none⟩) xs.length c) xs) : Brow g c xs W :=
  Kd.R_mono (Kd.R_tight rfl (Kd.R_lower h (Nat.zero_le _))) (fun k hk => by simpa [Value.ownBlock] using hk)
theorem Brow.lt {g c : Nat} {xs : List Int} {W : World} (h : Brow g c xs W) : g < W.heap.size := Kd.R_lt h g rfl
theorem Brow.kp {G : Nat → Prop} {g c : Nat} {xs : List Int} {W W' : World} (h : Brow g c xs W) (hk : Kp G W W') (hg : ¬ G g) : Brow g c xs W' := Kp.R hk h (fun k e => by rw [e]; exact hg)
theorem Brow.below {g c : Nat} {xs : List Int} {W W' : World} (h : Brow g c xs W) (hb : Below W.heap.size W W') : Brow g c xs W' := Kd.R_below h hb
theorem Brow.C {g c : Nat} {xs : List Int} {W : World} (h : Brow g c xs W) : Kd.C (Kd.int .u8) W (some ⟨g, 0, none⟩) xs.length xs := (Kd.R_reads' h).2.2
theorem Brow.cap {g c : Nat} {xs : List Int} {W : World} (h : Brow g c xs W) : xs.length ≤ c := (Kd.R_reads' h).2.1
/-- All that was there stays. -/
abbrev Fr (w W : World) : Prop := Kp (fun k => w.heap.size ≤ k) w W
theorem Fr.below {w W : World} (h : Fr w W) : Below w.heap.size w W := Kp.below h (Nat.le_refl _) (fun k hk hg => by omega)
theorem Fr.then_below {w W W' : World} (h : Fr w W) (hb : Below W.heap.size W W') : Fr w W' := Kp.trans h (Kp.of_below (F := fun _ => False) hb) (fun q _ hq => hq.elim)
theorem Fr.then_kp {G : Nat → Prop} {w W W' : World} (h : Fr w W) (hk : Kp G W W') (hG : ∀ k, G k → w.heap.size ≤ k) : Fr w W' := Kp.trans h hk (fun q _ hq => hG q hq)
theorem Fr.refl (w : World) : Fr w w := Kp.refl _ _
section
variable {P : Program} {ops : Array Oper} {rest : List Oper} {o : Oper} {a : Act} {Q : Exit → Act → World → Prop}
/-- copy into a row of the law's own. -/
theorem copy_brow {W : World} (hgd : o.guard = none) (s x : Operand) (t t' : TypeId)
    (ho : o.op = .call { callee := .builtin .copy, args := #[s, x], argTypes := #[t, t'] }) (ht : P.underlying t = some (.slice 5)) (hinfo : (P.info? 5).map (·.size) = some 1)
    (g c : Nat) (xs ys : List Int) (A : Option Addr) (m n cc : Nat) (hn : n = xs.length) (hs : a.eval s = .slice (some ⟨g, 0, none⟩) n c) (hx : a.eval x = .slice A m cc)
    (HO : Brow g c xs W) (HR : Kd.C (Kd.int .u8) W A m ys)
    (h : ∀ w1, Brow g c (ys.take (min m xs.length) ++ xs.drop (min m xs.length)) w1 → Kp (fun k => k = g) W w1 → wpList P ops Q rest (a.put o.dst (.int .i64 ((min m xs.length : Nat) : Int))) w1) : wpList P ops Q (o :: rest) a W := by
  subst hn
  refine Kd.R_copy (enc := Value.int .u8) (h1 := fun _ => rfl) (0 : Int) (w0 := W) 0 hgd s x t t' 5 ho ht hinfo _ xs ys A m cc _ hs hx HO HR (Below.refl _ _) (Nat.zero_le _) ?_
  intro w1 hR hb hg
  refine h w1 ?_ (Kp.of_grown hg (fun q hq => by simpa [Value.ownBlock, eq_comm] using hq))
  have hl : (ys.take (min m xs.length) ++ xs.drop (min m xs.length)).length = xs.length := by
    have := HR.1
    simp only [List.length_append, List.length_take, List.length_drop]
    omega
  unfold Brow
  rw [hl]
  exact hR
end
end Go.Proofs.Ytckbdckeijanlaa.G
