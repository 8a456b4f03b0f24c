/- The pure statement of SumsParts. -/
import Derived.Test.YthhpndnambffjaaDoorX2
import Derived.Test.YthhpndnambffjaaDoorCrcF
namespace Go.Proofs.YthhpndnambffjaaDoor.Pure
open Go.RowKit Go.Proofs.YthhpndnambffjaaDoor.X Go.Proofs.YthhpndnambffjaaDoor.G Go.Proofs.YthhpndnambffjaaDoor.T Go.Proofs.YthhpndnambffjaaDoorW.PrintWords Go.Proofs.YthhpndnambffjaaDoorW.PrintLast Go.Proofs.YthhpndnambffjaaDoorW.PrintMore

theorem wrap_u64_eq (n : Int) : IntKind.u64.wrap n = n % 18446744073709551616 := by simp [IntKind.wrap, IntKind.bits, IntKind.signed]
theorem SumsParts : colophonlaw02_SumsParts.Pure := by
  intro l a hm hb hw ha
  have hlen : l.length ≤ 140737488351232 := by omega
  have e1 : wrap64 ((l.length : Int) + 1) = (l.length : Int) + 1 := by unfold wrap64; omega
  have e2 : IntKind.u64.wrap ((l.length : Int) + 1) = (l.length : Int) + 1 := by rw [wrap_u64_eq]; omega
  have hu := wrap_u64_eq a
  have hu0 : 0 ≤ IntKind.u64.wrap a := by omega
  obtain ⟨k, hk0, hk⟩ : ∃ k : Nat, k ≤ l.length ∧ wrap64 (Int.tmod (IntKind.u64.wrap a) ((l.length : Int) + 1)) = (k : Int) := by
    have h1 := Int.tmod_nonneg ((l.length : Int) + 1) hu0
    have h2 := Int.tmod_lt_of_pos (IntKind.u64.wrap a) (show (0 : Int) < (l.length : Int) + 1 by omega)
    refine ⟨(Int.tmod (IntKind.u64.wrap a) ((l.length : Int) + 1)).toNat, by omega, ?_⟩
    unfold wrap64
    omega
  simp only [colophonlaw02_SumsParts.f, works_f, Option.bind_some, if_true, e1, e2, hk]
  rw [if_neg (by omega), if_pos (by omega), if_pos (by omega), Int.toNat_natCast, Crc_f _ (by rw [List.length_take]; omega), Option.bind_some, More_f _ _ (by rw [List.length_drop]; omega), Option.bind_some, Crc_f _ (by omega), Option.bind_some, More_f _ _ (by omega), Option.bind_some, Option.bind_some]
  have key : not32 ((l.drop k).foldl more1 (not32 (crc (l.take k)))) = crc l := by
    unfold crc
    rw [not32_not32 _ (fold_range _ _ (not32_range _)), ← List.foldl_append, List.take_append_drop]
  rw [key, if_pos rfl]
  simp [crc]
end Go.Proofs.YthhpndnambffjaaDoor.Pure
