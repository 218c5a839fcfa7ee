import Derived.Test.YtolholkjeehamaaDoorR40
set_option linter.all false
set_option maxRecDepth 100000
set_option maxHeartbeats 4000000
namespace Go.Proofs.YtolholkjeehamaaDoor
open Go.RowKit
end Go.Proofs.YtolholkjeehamaaDoor

