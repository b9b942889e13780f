/- The shelf's contracts at this program: sorts, sorted keys, compact. -/
import Derived.Test.YtfpojkoddcdojaaGreatDoorKe
import Derived.Test.YtfpojkoddcdojaaGreatDoorSf
import Derived.Test.YtfpojkoddcdojaaGreatDoorCh
import Derived.Shelf.Slices.CompactS
import Derived.Lib.RowBridge
set_option linter.unusedVariables false
set_option linter.unusedSimpArgs false
namespace Go.Proofs.YtfpojkoddcdojaaGreatDoor
open Go Go.Proofs Sy Go.Shelf Go.Maps Go.Sort
theorem sortS_c : SortC Tryz.prog 51 encStr (fun ss => ss.mergeSort leB) where
  some_ := fun blk off cap ss w h1 h2 h3 => AnyM.slices_Sort_string Tryz.sortS blk off cap ss w h1 h2 h3
  none_ := fun p cap w => AnyM.slices_Sort_string_none Tryz.sortS p cap w
  len := fun ss => List.length_mergeSort ss
theorem compS_c : CompC Tryz.prog 44 encStr [] Lib.compact where
  some_ := fun blk off cap ss w h1 h2 h3 => Any.slices_Compact_string Tryz.compS blk off cap ss w h1 h2 h3
  none_ := fun p cap w => Any.slices_Compact_string_empty Tryz.compS p cap w
  len := fun ss => Lib.compact_length_le ss
theorem sortsS (m : Nat) : AnyZ.SortsIn Tryz.prog Tryz.sortedS_ren Fence.wide m :=
  ⟨fun blk off cap ss W hH hblk hsz => callsIn_wide.2 (AnyM.slices_Sort_string Tryz.sortS blk off cap ss W hH hblk hsz),
   fun p cap W => callsIn_wide.2 (AnyM.slices_Sort_string_none Tryz.sortS p cap W)⟩
theorem sortsI (m : Nat) : AnyZI.SortsIn Tryz.prog Tryz.sortedI_ren Fence.wide m :=
  ⟨fun blk off cap ss W hH hblk hsz => callsIn_wide.2 (AnyM.slices_Sort_int Tryz.sortI blk off cap ss W hH hblk hsz),
   fun p cap W => callsIn_wide.2 (AnyM.slices_Sort_int_none Tryz.sortI p cap W)⟩
theorem keysSet_c : KeysC Tryz.prog 69 88 97 where
  keys := fun mb W => (callsIn_wide (n := 5)).1 (AnyZ.keys_in Tryz.keys_agora_relation_set_string_bool Fence.wide 5 trivial rfl mb W)
theorem sortedSet_c : SortedSC Tryz.prog 39 88 9 where
  key := Tryz.underlying9
  sorted := fun w Bm q nn D0 hB hc hown h1 h2 => (callsIn_wide (n := 5)).1 (AnyZ.sorted_in Tryz.sortedS Fence.wide 5 trivial trivial trivial trivial rfl (by omega) (sortsS _) (enters_of Tryz.func51 (by kernel_rfl) rfl) _ _ trivial (enters_of Tryz.func88 (by kernel_rfl) rfl) _ _ h1 h2 _
    (AnyZ.keys_gives (ρ := Tryz.keys_agora_relation_set_string_bool_ren) { Tryz.keys_agora_relation_set_string_bool with } Fence.wide _ trivial rfl (by omega) Bm q nn D0 w hB hc hown))
end Go.Proofs.YtfpojkoddcdojaaGreatDoor
