/- The error numbers and limits have the specified values: Names answers true. No condition. -/
import Derived.Test.YtdmlapkindoghaaPNamesx1
namespace Go.Proofs.Ytdmlapkindoghaa.Pure
open Go.RowKit Go.Proofs.Ytdmlapkindoghaa.PNames Go.Proofs.YtdmlapkindoghaaW.PrintWords Go.Proofs.YtdmlapkindoghaaW.PrintLast

theorem Names : tourlaw1_Names.Pure := by
  refine ⟨20, ?_⟩
  decide +kernel

end Go.Proofs.Ytdmlapkindoghaa.Pure
