/- law31: num, same, submits; umsend: Next. -/
import Derived.Test.YtbjajboodohabaaGreatJ5
namespace Go.Proofs.YtbjajboodohabaaGreat
open Go.RowKit Go.Shelf
attribute [local go_sem] Oper.semAt_some

end Go.Proofs.YtbjajboodohabaaGreat
