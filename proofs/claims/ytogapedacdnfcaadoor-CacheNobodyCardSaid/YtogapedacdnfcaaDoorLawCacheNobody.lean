/- Written by this session's own program over the seat's translation: the row of CacheNobody and its tied card. -/
import Derived.Test.YtogapedacdnfcaaDoorCards
import Derived.Test.YtogapedacdnfcaaDoorTie
import Derived.Test.YtogapedacdnfcaaDoorHCacheNo
import Derived.Test.YtogapedacdnfcaaDoorHOpq
import Derived.WalkKit
import Derived.ProofKit
import Derived.OpenShut
import Derived.ShutString
import Derived.ChangeOld
import Derived.Below
import Derived.SizedLaws
import Derived.Deep.DeepHandedRow
import Derived.Lib.LaidTab
namespace Go.Proofs.YtogapedacdnfcaaDoor.cacheNobody
open Go.ChangeShapes Go.WideShapes Go.ChangeAt Go.RowKit
open Go.ChangeMaps (open_string shut_string)
set_option linter.unusedVariables false
theorem own : ownKnob Tryd.prog.godebug = none := by kernel_rfl
theorem laidOut : laidOutB Tryd.prog = true := by kernel_rfl
def IsRow (k : IntKind) (w : World) (a : Option Addr) (len cap : Nat) (zs : List Int) : Prop :=
  (a = none ∧ len = 0 ∧ cap = 0 ∧ zs = []) ∨
  ∃ x, a = some x ∧ len ≤ cap ∧ cap ≤ maxLen ∧ zs.length = cap ∧ (∀ i, i < zs.length → w.cell? (x.add i) = some (.int k (zs.getD i 0))) ∧ ∀ n ∈ zs, (Lit.int k n).wf = true
noncomputable def laidWorld (os : Os) : World :=
  { World.holding Tryd.prog os ⟨#[], #[], []⟩ with heap := (World.holding Tryd.prog os ⟨#[], #[], []⟩).heap.modify 0 fun
      | .cells _ t frozen => .cells #[.int .u32 0, .int .u32 498536548, .int .u32 997073096, .int .u32 651767980, .int .u32 1994146192, .int .u32 1802195444, .int .u32 1303535960, .int .u32 1342533948, .int .u32 3988292384, .int .u32 4027552580, .int .u32 3604390888, .int .u32 3412177804, .int .u32 2607071920, .int .u32 2262029012, .int .u32 2685067896, .int .u32 3183342108] t frozen
      | o => o }
theorem laid_met (os : Os) : laidMet Tryd.prog Rows.cacheNobodyRow.laid ((laidWorld os).forCall (fun _ _ => 0) ⟨#[], #[Value.agg #[.int .i64 0, .int .i64 0, .int .i64 0, .int .u64 0, .int .i64 0, .int .i64 0, .slice none 0 0, .slice none 0 0, .slice none 0 0]], []⟩).memory :=
  laidMet_of_run' 20 (by kernel_rfl) (by kernel_rfl)
theorem reads (os : Os) {H : Type} (enc : TypeId × Value → H) : ∃ places, DataW.whole enc Tryd.prog ((laidWorld os).forCall (fun _ _ => 0) ⟨#[], #[Value.agg #[.int .i64 0, .int .i64 0, .int .i64 0, .int .u64 0, .int .i64 0, .int .i64 0, .slice none 0 0, .slice none 0 0, .slice none 0 0]], []⟩).memory Tryd.f6.params.toList Rows.cacheNobodySpec.vars false #[Value.agg #[.int .i64 0, .int .i64 0, .int .i64 0, .int .u64 0, .int .i64 0, .int .i64 0, .slice none 0 0, .slice none 0 0, .slice none 0 0]].toList 8 = some ([(.agg [.lit (.int .i64 0), .lit (.int .i64 0), .lit (.int .i64 0), .agg [.lit (.int .u64 0), .lit (.int .i64 0), .lit (.int .i64 0), .nil], .nil, .nil])], [], places) :=
  ⟨[], by kernel_rfl⟩
theorem split0 {cs : Array Value} (h : cs.size = 9) : ∃ u0 u1 u2 u3 u4 u5 u6 u7 u8, cs = #[u0, u1, u2, u3, u4, u5, u6, u7, u8] := by
  obtain ⟨l⟩ := cs
  match l, h with
  | [u0, u1, u2, u3, u4, u5, u6, u7, u8], _ => exact ⟨u0, u1, u2, u3, u4, u5, u6, u7, u8, rfl⟩
set_option maxHeartbeats 2000000 in
set_option maxRecDepth 100000 in
theorem lifted (os : Os) (started : os.Started) (H : Type) (enc : TypeId × Value → H) (F : Stop.Interp) :
    ReturnsInHanded {} Tryd.checked os 6 .any ((OpenSpec.ofChange Rows.cacheNobodySpec).preRow enc Tryd.prog Tryd.f6 Rows.cacheNobodyRow.domain false Rows.cacheNobodyRow.laid) (((OpenSpec.ofChange Rows.cacheNobodySpec).at F).post enc Tryd.prog Tryd.f6 false true false false) := by
  obtain ⟨places, hx⟩ := reads os enc
  refine returnsInHanded_of_row (C := Tryd.checked) (s := (OpenSpec.ofChange Rows.cacheNobodySpec)) own started (by kernel_rfl) Tryd.func6
    (witness_row_at (enc := enc) (C := Tryd.checked) false (laidWorld os) #[Value.agg #[.int .i64 0, .int .i64 0, .int .i64 0, .int .u64 0, .int .i64 0, .int .i64 0, .slice none 0 0, .slice none 0 0, .slice none 0 0]] rfl (by kernel_rfl) (by kernel_rfl) (by kernel_rfl)
      (OpenSpec.preRow_of_cond 8 hx (by kernel_rfl) (fun k hk => by cases hk) (by kernel_rfl) (laid_met os))) ?_
  intro W base args ds gs before hval0 hW hcnd hk0 hsz0 hL _ _
  have hsz : (DataW.weightsEach Tryd.prog (Tryd.f6.params.toList ++ Rows.cacheNobodySpec.plain.varTypes Tryd.prog) (ds ++ gs)).all (· ≤ reachBytes) = true := hsz0
  have hval : ∀ (j : Nat) t v, Tryd.f6.params[j]? = some t → args[j]? = some v → Value.okWide Tryd.prog W .any base t v := hval0
  have hW' := hW
  obtain ⟨p, q, hA0, hV, rfl, hfz, hnd⟩ := hW
  have hA : DataW.TrodAll enc Tryd.prog W 0 (fun _ => true) true Tryd.f6.params.toList args.toList ds p := hA0
  rw [Tryd.params6] at hA hval hsz
  obtain ⟨v0, vs0, d0, ds0, p0, q0, hargs, rfl, rfl, h0, r0⟩ := trodAll_cons hA
  obtain ⟨rfl, rfl, rfl⟩ := trodAll_nil r0
  obtain rfl : args = #[v0] := by cases args; simp_all
  obtain ⟨rfl, rfl⟩ := trodVars_none hV
  have k0 := h0
  have lt0 : ∀ x ∈ p0, x.block < W.heap.size := by obtain ⟨m, hm⟩ := k0; exact DataW.trod_lt m _ _ _ hm
  obtain ⟨cs0, rfl, hcs0, hrow0⟩ := R.opqCells Tryd.underlying46 (hval 0 46 v0 rfl rfl)
  obtain ⟨u0_0, u0_1, u0_2, u0_3, u0_4, u0_5, u0_6, u0_7, u0_8, rfl⟩ := split0 (hcs0.trans (show Tryd.prog.cellsOf 46 = 9 by kernel_rfl))
  have hts0 : Tryd.prog.cellTypes Tryd.prog.depth 46 = some [3, 3, 3, 22, 3, 3, 23, 44, 23] := by kernel_rfl
  obtain ⟨a0_0, rfl⟩ := R.cellInt (k := .i64) Tryd.underlying3 (R.rowCell hts0 hrow0 0 rfl rfl)
  obtain ⟨a0_1, rfl⟩ := R.cellInt (k := .i64) Tryd.underlying3 (R.rowCell hts0 hrow0 1 rfl rfl)
  obtain ⟨a0_2, rfl⟩ := R.cellInt (k := .i64) Tryd.underlying3 (R.rowCell hts0 hrow0 2 rfl rfl)
  obtain ⟨a0_3, rfl⟩ := R.cellInt (k := .u64) Tryd.underlying22 (R.rowCell hts0 hrow0 3 rfl rfl)
  obtain ⟨a0_4, rfl⟩ := R.cellInt (k := .i64) Tryd.underlying3 (R.rowCell hts0 hrow0 4 rfl rfl)
  obtain ⟨a0_5, rfl⟩ := R.cellInt (k := .i64) Tryd.underlying3 (R.rowCell hts0 hrow0 5 rfl rfl)
  obtain ⟨A0_6, m0_6, c0_6, rfl⟩ := R.cellSlice Tryd.underlying23 (R.rowCell hts0 hrow0 6 rfl rfl)
  obtain ⟨A0_7, m0_7, c0_7, rfl⟩ := R.cellSlice Tryd.underlying44 (R.rowCell hts0 hrow0 7 rfl rfl)
  obtain ⟨A0_8, m0_8, c0_8, rfl⟩ := R.cellSlice Tryd.underlying23 (R.rowCell hts0 hrow0 8 rfl rfl)
  clear hA0 hval0 hsz0 hsz
  refine (X.colophonlaw25_CacheNobody.walk  a0_0 a0_1 a0_2 a0_3 a0_4 a0_5 A0_6 m0_6 c0_6 A0_7 m0_7 c0_7 A0_8 m0_8 c0_8 W ).mono fun e W' ⟨he, bel⟩ => ?_
  subst he
  exact ⟨_, rfl, _, _, _, [], _, [], hW', trodAll_mk1 (shut_bool Tryd.underlying4 _), (trodAll_cons_mk (Below.trod laidOut (by kernel_rfl) (of_decide_eq_true (by kernel_rfl)) k0 bel lt0) trodAll_mk0), rfl, bel.frame _, fun h => by cases h⟩
theorem said : Rows.CacheNobodySaid :=
  OpenClaim.holds_of_cond 6 Tryd.f6 rfl rfl rfl rfl rfl rfl rfl ⟨rfl, rfl, rfl, rfl, rfl⟩ rfl rfl rfl rfl rfl (by kernel_rfl) Tryd.func6 (by kernel_rfl)
    (of_decide_eq_true (by kernel_rfl)) (by unfold Func.isWrapper; first | (rw [if_pos (by decide +kernel)]; kernel_rfl) | (rw [if_neg (by decide +kernel)]; exact ⟨rfl, rfl⟩))
    (fun os started H enc _ F => by rw [OpenClaim.pre_eq_preRow]; exact lifted os started H enc F)
theorem plain (f : FuncId) (fn : Func) (hf : Tryd.pinned.checked.prog.funcNamed "colophon/colophonlaw25.CacheNobody" = some f) (hfn : Tryd.pinned.checked.prog.funcs[f]? = some fn) :
    false = Tryd.pinned.checked.prog.looks [] ∧ ∀ (j : Nat) t, fn.params[j]? = some t → Tryd.pinned.checked.prog.wantsStandIn t = false := by
  obtain rfl : f = 6 := Option.some.inj ((show Tryd.prog.funcNamed "colophon/colophonlaw25.CacheNobody" = some 6 by kernel_rfl).symm.trans hf) |>.symm
  obtain rfl : fn = Tryd.f6 := (Option.some.inj (Tryd.func6.symm.trans hfn)).symm
  refine ⟨by kernel_rfl, fun j t ht => ?_⟩
  rw [Tryd.params6] at ht
  obtain rfl : t = 46 := by simpa using Array.mem_of_getElem? ht
  exact (show Tryd.prog.wantsStandIn 46 = false by kernel_rfl)
theorem card : Rows.CacheNobodyCardSaid :=
  Claim7.holds_tied_plain_at .later [] _ _ _ _ said (fun _ h => by cases h) (by kernel_rfl) (fun _ h => by cases h) cacheNobody_row_tie rfl ⟨rfl, rfl⟩ (by kernel_rfl) rfl plain (by kernel_rfl)
#print axioms card
end Go.Proofs.YtogapedacdnfcaaDoor.cacheNobody
namespace Go.Proofs.YtogapedacdnfcaaDoor
/-- The card, under a short name, for the claim. -/
theorem cacheNobody_holds : Rows.CacheNobodyCardSaid := cacheNobody.card
end Go.Proofs.YtogapedacdnfcaaDoor
