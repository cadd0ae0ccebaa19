/- Parts of the proof. -/
import Derived.Test.YtbojljpldcijgaaGreatH01
import Derived.Test.YtbojljpldcijgaaGreatH14
namespace Hb
open Go Go.RowKit
theorem valid_all {l:List OpR} (h:opsValid l=true):∀a∈l,opOk a=true:=by
 intro a ha
 obtain ⟨j,hj,rfl⟩:=List.getElem_of_mem ha
 exact valid_ok h j hj
end Hb
