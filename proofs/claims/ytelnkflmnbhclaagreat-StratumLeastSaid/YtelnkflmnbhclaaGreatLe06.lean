/- Contracts that the laws lean on: Fresh, Same. -/
import Derived.Test.YtelnkflmnbhclaaGreatK01
import Derived.Test.YtelnkflmnbhclaaGreatLe02
import Derived.Test.YtelnkflmnbhclaaGreatK04
section
namespace Go.Proofs.YtelnkflmnbhclaaGreat
open Go.RowKit Go.Proofs
end Go.Proofs.YtelnkflmnbhclaaGreat
end
section
namespace Go.Proofs.YtelnkflmnbhclaaGreat
open Go.RowKit Go.Proofs Go.Shelf
end Go.Proofs.YtelnkflmnbhclaaGreat
end
