/- Parts of the proof. -/
import Derived.Test.YtbojljpldcijgaaGreatR01
import Derived.Test.YtbojljpldcijgaaGreatR14
namespace Hb
open Go Go.RowKit
theorem wE {l:List OpR} (h:ea l=true):∀a∈l,mu a=true:=by
 intro a b
 obtain ⟨j,c,rfl⟩:=List.getElem_of_mem b
 exact xI h j c
end Hb
