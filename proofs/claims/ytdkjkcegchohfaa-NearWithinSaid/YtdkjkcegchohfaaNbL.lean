/-
  This seat lays the kit's shelf for slices.SortFunc at []api.Near and cmp.Compare at int.
-/
import Derived.Test.YtdkjkcegchohfaaLibA
import Derived.Shelf.SlSortCmp.NoneTotal
import Derived.Shelf.SlicesG.Cmp
import Derived.Shelf.SlGeneric
import Derived.Shelf.Lay
import Derived.Ground.SlsfProg
import Derived.Ground.SlgcProg
namespace Go.Proofs.Ytdkjkcegchohfaa
open Go.RowKit Go.Shelf Go.Lib Go.Sort
shelf_lay_g SlLaysF0.n6 Slsf 6 at Try 48 as sortN
shelf_lay_g SlLaysC2.n5 Slgc 5 at Try 42 as cmpN
end Go.Proofs.Ytdkjkcegchohfaa
