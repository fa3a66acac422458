/- What draws of treaties, of what sites have added, of forms and lines come to. -/
import Derived.Test.YtjmimbpcajogoaaPB
namespace Go.Proofs.Ytjmimbpcajogoaa
open Go Go.Tm

end Go.Proofs.Ytjmimbpcajogoaa
