import Derived.Test.YtaegfljpodhnhaaR42
import Derived.Shelf.SlSortCmp.WholeK
import Derived.Shelf.Lay
import Derived.Ground.SlsfProg
namespace Go.Proofs.Ytaegfljpodhnhaa
open Go.Shelf Go.RowKit Go.Lib Go.Sort
shelf_lay_g SlLaysF0.n6 Slsf 6 at Try 72 as Try.sortTri
end Go.Proofs.Ytaegfljpodhnhaa
