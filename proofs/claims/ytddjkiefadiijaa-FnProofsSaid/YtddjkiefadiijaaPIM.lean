/- Plain laws over the models: marks of tables of numbers. No program, no statement of the claim. -/
import Derived.Test.YtddjkiefadiijaaPI
namespace Go.Proofs.Ytddjkiefadiijaa
end Go.Proofs.Ytddjkiefadiijaa
