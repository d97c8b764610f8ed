/- PutPiece (reference): for every argument. -/
import Derived.Test.YtpjbnfpadbknpaaSPut2
namespace Go.Proofs.Ytpjbnfpadbknpaa
set_option linter.unusedSimpArgs false
set_option linter.unusedVariables false
open Go.RowKit
theorem sPutPiece (r : Int) (s : ByteArray) (A : Option Addr) (cap : Nat) (L : List PieceD) (a : Int) (t : ByteArray) (w : World) (hr : Rd PieceD.cells 2 w 0 w.heap.size A L) (hs : s.size + sumT L ≤ 4611686018427387904) (hm : L.length ≤ 4294967296) (ht : t.size ≤ 1048576) :
    Calls Try.prog 14 #[pv r s A L.length cap, .int .i64 a, .string t] w (RetRd w r (putV r s L a t).1 (putV r s L a t).2 fun v => v) := by
  cases h3 : put3 r s L a t with
  | false => exact sPutPiece_no r s A cap L a t w hr hs hm ht h3
  | true => exact sPutPiece_yes r s A cap L a t w hr hs hm ht h3
end Go.Proofs.Ytpjbnfpadbknpaa
