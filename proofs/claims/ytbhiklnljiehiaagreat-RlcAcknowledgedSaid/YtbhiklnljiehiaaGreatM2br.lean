/- law37: num, same, lists, few. -/
import Derived.Test.YtbhiklnljiehiaaGreatM2ak
namespace Go.Proofs.YtbhiklnljiehiaaGreat
section
open Go.RowKit Go.Shelf
attribute [local go_sem] Oper.semAt_some
end
end Go.Proofs.YtbhiklnljiehiaaGreat
