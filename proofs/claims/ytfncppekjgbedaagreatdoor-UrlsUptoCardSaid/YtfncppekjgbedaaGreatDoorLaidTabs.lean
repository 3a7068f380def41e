/- What a row's listed variables give: unicode/utf8's two tables, cell for cell; and a world that holds them. -/
import Derived.Test.YtfncppekjgbedaaGreatDoorRows
import Derived.Test.YtfncppekjgbedaaGreatDoorUtf
import Derived.Lib.LaidU8T
import Derived.Deep.DeepHandedRow
import Derived.LaidMore
import Derived.Lay
namespace Go.Proofs.YtfncppekjgbedaaGreatDoor.Ext
open Go.RowKit Go.Lib Go.Shelf

theorem firstData_eq : Go.Pinned.utf8First = firstData := by kernel_rfl
theorem acceptData_eq : (Rows.laid_unicode_utf8_acceptRanges : DataW Unit) = acceptData := by kernel_rfl
theorem tabs_of_laid {W : World} {l : List (String × DataW Unit)} (h : laidMetH Tryz.prog l W) (hp : (l.all fun x => x.2.handleName?.isNone) = true)
    (h1 : ("unicode/utf8.first", Rows.laid_unicode_utf8_first) ∈ l) (h2 : ("unicode/utf8.acceptRanges", Rows.laid_unicode_utf8_acceptRanges) ∈ l) : Tabs W := by
  rw [MakeChecks.laidMetH_plain _ _ _ hp] at h
  have r1 := Lib.laidMet.reads h h1
  have r2 := Lib.laidMet.reads h h2
  rw [acceptData_eq] at r2
  have r1' : VarReads Tryz.prog W "unicode/utf8.first" firstData := by rw [← firstData_eq]; exact r1
  exact utf8Tabs_of_readsT (ρ := Tryz.lays260_ren) (U8Types.of260 Tryz.lays260) ⟨by kernel_rfl, by kernel_rfl, by kernel_rfl, by kernel_rfl, by kernel_rfl, by kernel_rfl, by kernel_rfl⟩ r1' r2
end Go.Proofs.YtfncppekjgbedaaGreatDoor.Ext
