/- What draws of treaties, of what sites have added, of forms and lines come to. -/
import Derived.Test.YtjmimbpcajogoaaGreatPB
namespace Go.Proofs.YtjmimbpcajogoaaGreat
open Go Go.Tm

end Go.Proofs.YtjmimbpcajogoaaGreat
