import Derived.Test.YtkgpofmbegonfaaGreatDoorPalPk1
set_option linter.all false
namespace Go.Vs
noncomputable def strings_Split(p0 p1:ByteArray):Option (List ByteArray):=if p1=(⟨#[32]⟩:ByteArray)/\p0.size<=1000000 then some ((zcd p0.data.toList).map bs) else none
noncomputable def strings_CutSuffix(p0 p1:ByteArray):Option (ByteArray × Bool):=if p1=(⟨#[102]⟩:ByteArray)/\p0.size<=1000000 then some (bs (cutF p0.data.toList),sufF p0.data.toList) else none
end Go.Vs
