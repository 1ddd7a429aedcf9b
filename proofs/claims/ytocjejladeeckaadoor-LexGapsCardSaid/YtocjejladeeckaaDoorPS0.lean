import Derived.Test.YtocjejladeeckaaDoorPalT
import Derived.Test.YtocjejladeeckaaDoorPalC
import Derived.Test.YtocjejladeeckaaDoorPT1
set_option linter.all false
section
namespace Go.Vs
end Go.Vs
end
section
namespace Go.Vs
local instance tabPalShow1:Tab:=⟨fun _=>none⟩
theorem zhf{α:Type}[Inhabited α]{l:List α}{i:Nat}{x:α}(h:l[i]?=some x):rd l (i:Int)=x:=by
 simp [rd,h]
end Go.Vs
end
section
namespace Go.Vs
local instance tabPalShow2:Tab:=⟨fun _=>none⟩
end Go.Vs
end
