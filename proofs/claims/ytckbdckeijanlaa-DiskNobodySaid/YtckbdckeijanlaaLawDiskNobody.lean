/- Written by this session's own program over the seat's translation: the row of DiskNobody. -/
import Derived.Test.YtckbdckeijanlaaRows
import Derived.Test.YtckbdckeijanlaaHOpq
import Derived.Test.YtckbdckeijanlaaHDiskNo
import Derived.WalkKit
import Derived.ProofKit
import Derived.OpenShut
import Derived.ShutString
import Derived.ChangeOld
import Derived.Below
import Derived.SizedLaws
import Derived.Lib.SmallJoins
namespace Go.Proofs.Ytckbdckeijanlaa.diskNobody
open Go.ChangeShapes Go.WideShapes Go.ChangeAt Go.RowKit
set_option linter.unusedVariables false
theorem own : ownKnob Try.prog.godebug = none := by kernel_rfl
theorem laidOut : laidOutB Try.prog = true := by kernel_rfl
theorem split {cs : Array Value} (h : cs.size = 5) : ∃ u0 u1 u2 u3 u4, cs = #[u0, u1, u2, u3, u4] := by
  obtain ⟨l⟩ := cs
  match l, h with
  | [u0, u1, u2, u3, u4], _ => exact ⟨u0, u1, u2, u3, u4, rfl⟩
set_option maxRecDepth 100000 in
theorem lifted (os : Os) (started : os.Started) (H : Type) (enc : TypeId × Value → H) :
    ReturnsInHanded {} Try.checked os 7 .any (Rows.diskNobodySpec.pre6 enc Try.prog Try.f7 Rows.diskNobodyRow.domain false) (Rows.diskNobodySpec.post enc Try.prog Try.f7 false true false false) := by
  refine returnsInHanded_of_change_sized (C := Try.checked) own started (by kernel_rfl) Try.func7
    (ChangeSpec.witness6 (enc := enc) (C := Try.checked) false ⟨#[], #[.agg #[.int .i64 0, .int .i64 0, .int .i64 0, .slice none 0 0, .slice none 0 0]], []⟩ 8 (by kernel_rfl) (by kernel_rfl) (by kernel_rfl) (by kernel_rfl)) ?_
  intro W base args ds gs before hval0 hW hcnd hsz0 _
  have hval : ∀ (j : Nat) t v, Try.f7.params[j]? = some t → args[j]? = some v → Value.okWide Try.prog W .any base t v := hval0
  have hW' := hW
  obtain ⟨p, q, hA0, hV, rfl, hfz, hnd⟩ := hW
  have hA : DataW.TrodAll enc Try.prog W 0 (fun _ => true) true Try.f7.params.toList args.toList ds p := hA0
  rw [Try.params7] at hA hval
  obtain ⟨v0, vs0, d0, ds0, p0, q0, hargs, rfl, rfl, h0, r0⟩ := trodAll_cons hA
  obtain ⟨rfl, rfl, rfl⟩ := trodAll_nil r0
  obtain rfl : args = #[v0] := by cases args; simp_all
  obtain ⟨rfl, rfl⟩ := trodVars_none hV
  have k0 := h0
  have lt0 : ∀ x ∈ p0, x.block < W.heap.size := by obtain ⟨m, hm⟩ := k0; exact DataW.trod_lt m _ _ _ hm
  obtain ⟨cs, rfl, hcs, hrow⟩ := R.opqCells Try.underlying38 (hval 0 38 v0 rfl rfl)
  obtain ⟨u0, u1, u2, u3, u4, rfl⟩ := split (hcs.trans (show Try.prog.cellsOf 38 = 5 by kernel_rfl))
  have hts : Try.prog.cellTypes Try.prog.depth 38 = some [3, 3, 3, 22, 32] := by kernel_rfl
  obtain ⟨a0, rfl⟩ := R.cellInt (k := .i64) Try.underlying3 (R.rowCell hts hrow 0 rfl rfl)
  obtain ⟨a1, rfl⟩ := R.cellInt (k := .i64) Try.underlying3 (R.rowCell hts hrow 1 rfl rfl)
  obtain ⟨a2, rfl⟩ := R.cellInt (k := .i64) Try.underlying3 (R.rowCell hts hrow 2 rfl rfl)
  obtain ⟨A3, m3, c3, rfl⟩ := R.cellSlice Try.underlying22 (R.rowCell hts hrow 3 rfl rfl)
  obtain ⟨A4, m4, c4, rfl⟩ := R.cellSlice Try.underlying32 (R.rowCell hts hrow 4 rfl rfl)
  clear hA0 hval0 hsz0
  refine (X.colophonlaw17_DiskNobody.walk a0 a1 a2 A3 m3 c3 A4 m4 c4 W).mono fun e W' ⟨he, bel⟩ => ?_
  subst he
  exact ⟨_, rfl, _, _, _, [], _, [], hW', trodAll_mk1 (shut_bool Try.underlying4 _), (trodAll_cons_mk (Below.trod laidOut (by kernel_rfl) (of_decide_eq_true (by kernel_rfl)) k0 bel lt0) trodAll_mk0), rfl, bel.frame _, fun h => by cases h⟩
theorem over : Rows.diskNobodyRow.holds Try.pinned (OpenSpec.ofChange Rows.diskNobodySpec) :=
  OpenClaim.holds_of_wide 7 Try.f7 rfl rfl rfl rfl rfl rfl rfl ⟨rfl, rfl, rfl, rfl, rfl⟩ rfl rfl rfl rfl rfl (by kernel_rfl) Try.func7 (by kernel_rfl)
    (of_decide_eq_true (by kernel_rfl)) (by unfold Func.isWrapper; first | (rw [if_pos (by decide +kernel)]; kernel_rfl) | (rw [if_neg (by decide +kernel)]; exact ⟨rfl, rfl⟩))
    (fun os started H enc _ => lifted os started H enc)
theorem proved : Rows.DiskNobodySaid := over
#print axioms proved
end Go.Proofs.Ytckbdckeijanlaa.diskNobody
namespace Go.Proofs.Ytckbdckeijanlaa
/-- The row, under a short name, for the claim. -/
theorem diskNobody_holds : Rows.DiskNobodySaid := diskNobody.proved
end Go.Proofs.Ytckbdckeijanlaa
