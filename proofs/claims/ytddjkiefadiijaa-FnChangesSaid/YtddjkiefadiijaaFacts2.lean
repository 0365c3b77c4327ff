/- Closed facts on the conversions of this seat. Written by a program (gotypes.py). No statement of the claim stands here. -/
import Derived.Test.YtddjkiefadiijaaProg
import Derived.Test.YtddjkiefadiijaaCur
import Derived.KernelRfl
namespace Go.Proofs.Ytddjkiefadiijaa
open Go Go.RowKit
theorem CV5_3 : Cv8 Try.prog 5 3 := ⟨by kernel_rfl, by kernel_rfl⟩
end Go.Proofs.Ytddjkiefadiijaa
