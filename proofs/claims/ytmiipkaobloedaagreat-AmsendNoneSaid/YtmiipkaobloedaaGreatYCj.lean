/- law35: AmsendNone answers true. -/
import Derived.Test.YtmiipkaobloedaaGreatYCh
import Derived.Test.YtmiipkaobloedaaGreatZi
namespace Go.Proofs.YtmiipkaobloedaaGreat
open Go.RowKit Go.Shelf
theorem amsendNone_all (x : ActQ) (zero : Bool) (w : World) (hx : ActI w w.heap.size x) :
    Calls Tryz.prog 5 #[.agg #[.int .i64 x.k, .int .i64 x.now, .int .i64 x.n, .slice x.A x.b.length x.c, .int .i64 x.ack, .slice x.Ar x.nks.length x.cr], .bool zero] w (TrueW w) :=
  amsendNone_walk works35_any x zero w hx
end Go.Proofs.YtmiipkaobloedaaGreat
