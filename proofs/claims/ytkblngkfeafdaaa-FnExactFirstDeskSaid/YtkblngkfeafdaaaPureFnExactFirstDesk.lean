/- FirstDesk: program and reference tell the same desk (one computation). -/
import Derived.Test.YtkblngkfeafdaaaPFnExactFirstDeskx3
namespace Go.Proofs.Ytkblngkfeafdaaa.Pure
open Go.RowKit Go.Proofs.Ytkblngkfeafdaaa.PFnExactFirstDesk Go.Proofs.YtkblngkfeafdaaaW.PrintWords Go.Proofs.YtkblngkfeafdaaaW.PrintLast

theorem FnExactFirstDesk : laws_FnExactFirstDesk.Pure := ⟨10, by decide +kernel⟩

end Go.Proofs.Ytkblngkfeafdaaa.Pure
