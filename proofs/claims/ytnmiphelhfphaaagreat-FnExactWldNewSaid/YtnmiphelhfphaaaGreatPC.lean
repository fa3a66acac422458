/- What draws of treaties, of what sites have added, of forms and lines come to. -/
import Derived.Test.YtnmiphelhfphaaaGreatPB
namespace Go.Proofs.YtnmiphelhfphaaaGreat
open Go Go.Tm

end Go.Proofs.YtnmiphelhfphaaaGreat
