/- strconv.Itoa at numbers of at most two digits, as the shelf has it, laid at this program. -/
import Derived.Shelf.Strconv.Itoa3
import Derived.Shelf.Lay
import Derived.Ground.NamesProg
import Derived.Test.YtbcphkblieeemaaDoorProg
import Derived.WalkKit
namespace Go.Proofs.YtbcphkblieeemaaDoor.P
open Go.Shelf Go.RowKit
shelf_lay Lays.n171 Nm 171 at Tryd as lays171
theorem Itoa_small (i : Nat) (hi : i < 100) (w : World) : Calls Tryd.prog 30 #[.int .i64 i] w fun e w' => e = .returned (.string ⟨(Lib.decDigits i).toArray⟩) ∧ w' = w :=
  Any.strconv_Itoa_small { lays171 with } i hi w
end Go.Proofs.YtbcphkblieeemaaDoor.P
