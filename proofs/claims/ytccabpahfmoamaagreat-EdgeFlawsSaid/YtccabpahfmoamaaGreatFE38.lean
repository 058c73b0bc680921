/- Contracts that the laws lean on: R3P. -/
import Derived.Test.YtccabpahfmoamaaGreatFE35
import Derived.Test.YtccabpahfmoamaaGreatFE24
section
namespace Go.Proofs.YtccabpahfmoamaaGreat
open Go.RowKit Go.Proofs Go.Shelf
end Go.Proofs.YtccabpahfmoamaaGreat
end
