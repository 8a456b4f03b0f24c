/- What the sums' functions come to, in the words of CrcT. -/
import Derived.Test.YtogapedacdnfcaaDoorCrcT
import Derived.Test.YtogapedacdnfcaaDoorSumsM
namespace Go.Proofs.YtogapedacdnfcaaDoor.T
open Go.Proofs.YtogapedacdnfcaaDoor.G Go.Proofs.YtogapedacdnfcaaDoorW.PrintWords

theorem More_f (a : Int) (l : List Int) (h : l.length < 4611686018427387904) : sums_More.f a l = some (not32 (l.foldl more1 (not32 a))) := if_pos h
theorem Crc_f (l : List Int) (h : l.length < 4611686018427387904) : sums_Crc.f l = some (crc l) := if_pos h
theorem Seal_f (l : List Int) (h : l.length < 140737488355324) : sums_Seal.f l = some (l ++ bytes4 (crc l)) := by
  unfold sums_Seal.f
  rw [Crc_f l (by omega), Option.bind_some, if_pos h]
theorem bytes4_length (s : Int) : (bytes4 s).length = 4 := rfl
theorem Open_f (l : List Int) (h4 : 4 ≤ l.length) (h : l.length < 140737488355324) : sums_Open.f l = some (if l.drop (l.length - 4) = bytes4 (crc (l.take (l.length - 4))) then (l.take (l.length - 4), 0) else ([], 21)) := by
  unfold sums_Open.f
  rw [if_neg (by omega), if_pos h, Crc_f _ (by rw [List.length_take]; omega), Option.bind_some]
theorem Open_Seal (l : List Int) (h : l.length < 140737488355320) : sums_Open.f (l ++ bytes4 (crc l)) = some (l, 0) := by
  have hl : (l ++ bytes4 (crc l)).length = l.length + 4 := by rw [List.length_append, bytes4_length]
  rw [Open_f _ (by omega) (by omega), hl, Nat.add_sub_cancel, List.take_left', List.drop_left', if_pos rfl]
  all_goals rfl
end Go.Proofs.YtogapedacdnfcaaDoor.T
