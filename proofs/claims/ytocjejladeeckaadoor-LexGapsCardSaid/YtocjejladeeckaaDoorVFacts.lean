import Derived.Test.YtocjejladeeckaaDoorProg
import Derived.Test.YtocjejladeeckaaDoorVu3
import Derived.KernelRfl
set_option linter.all false
set_option maxRecDepth 100000
namespace Go.Proofs.YtocjejladeeckaaDoor
open Go.Vs
@[go_sem] theorem zj6:zaJ Tryd.prog 3=some false/\tsz Tryd.prog 3=some 1/\zcj Tryd.prog 3=false/\zak Tryd.prog 3=none/\zbv Tryd.prog 3=some false/\zaJ Tryd.prog 4=some false/\tsz Tryd.prog 4=some 1/\zaJ Tryd.prog 9=some false/\tsz Tryd.prog 9=some 1/\zbf Tryd.prog 9=some [.str ⟨#[]⟩]/\zcj Tryd.prog 9=false/\zcF Tryd.prog 9=true:=⟨by kernel_rfl,by kernel_rfl,by kernel_rfl,by kernel_rfl,by kernel_rfl,by kernel_rfl,by kernel_rfl,by kernel_rfl,by kernel_rfl,by kernel_rfl,by kernel_rfl,by kernel_rfl⟩
@[go_sem] theorem zkb:zak Tryd.prog 9=none/\zbv Tryd.prog 9=some false/\zaJ Tryd.prog 21=some false/\tsz Tryd.prog 21=some 1/\zcj Tryd.prog 21=false/\zak Tryd.prog 21=none/\zbv Tryd.prog 21=some false/\zak Tryd.prog 23=some 43/\zaJ Tryd.prog 24=some false/\tsz Tryd.prog 24=some 1/\zcj Tryd.prog 24=false/\zak Tryd.prog 24=none:=⟨by kernel_rfl,by kernel_rfl,by kernel_rfl,by kernel_rfl,by kernel_rfl,by kernel_rfl,by kernel_rfl,by kernel_rfl,by kernel_rfl,by kernel_rfl,by kernel_rfl,by kernel_rfl⟩
@[go_sem] theorem zj3:zbv Tryd.prog 24=some false/\zaJ Tryd.prog 26=some true/\tsz Tryd.prog 26=some 3/\zbf Tryd.prog 26=some [.int .i64 0,.int .i64 0,.int .i64 0]/\plc Tryd.prog 26=some [(0,1),(1,1),(2,1)]/\zcj Tryd.prog 26=false/\zak Tryd.prog 26=none/\zbv Tryd.prog 26=some false/\zaJ Tryd.prog 43=some true/\tsz Tryd.prog 43=some 4/\za8 Tryd.prog 43=some 40/\zbf Tryd.prog 43=some [.int .i64 0,.int .i64 0,.int .i64 0,.str ⟨#[]⟩]:=⟨by kernel_rfl,by kernel_rfl,by kernel_rfl,by kernel_rfl,by kernel_rfl,by kernel_rfl,by kernel_rfl,by kernel_rfl,by kernel_rfl,by kernel_rfl,by kernel_rfl,by kernel_rfl⟩
@[go_sem] theorem zjP:plc Tryd.prog 43=some [(0,1),(1,1),(2,1),(3,1)]/\zcj Tryd.prog 43=false/\zak Tryd.prog 43=none/\zbv Tryd.prog 43=some false/\zak Tryd.prog 44=some 9/\zak Tryd.prog 72=some 74/\zaJ Tryd.prog 74=some true/\tsz Tryd.prog 74=some 6/\za8 Tryd.prog 74=some 48/\zbf Tryd.prog 74=some [.int .i32 0,.int .i64 0,.int .i64 0,.int .i64 0,.int .i64 0,.bool false]/\plc Tryd.prog 74=some [(0,1),(1,1),(2,1),(3,1),(4,1),(5,1)]/\eqOk Tryd.prog 26=some [1,1,1]:=⟨by kernel_rfl,by kernel_rfl,by kernel_rfl,by kernel_rfl,by kernel_rfl,by kernel_rfl,by kernel_rfl,by kernel_rfl,by kernel_rfl,by kernel_rfl,by kernel_rfl,by kernel_rfl⟩
@[go_sem] theorem zj5:eqOk Tryd.prog 43=some [1,1,1,2]/\fnOk Tryd.prog 15=true/\fnOk Tryd.prog 16=true/\fnOk Tryd.prog 19=true/\fnOk Tryd.prog 22=true/\fnOk Tryd.prog 35=true/\fnOk Tryd.prog 36=true/\fnOk Tryd.prog 37=true/\fnOk Tryd.prog 38=true/\fnOk Tryd.prog 39=true/\fnOk Tryd.prog 40=true/\fnOk Tryd.prog 71=true:=⟨by kernel_rfl,by kernel_rfl,by kernel_rfl,by kernel_rfl,by kernel_rfl,by kernel_rfl,by kernel_rfl,by kernel_rfl,by kernel_rfl,by kernel_rfl,by kernel_rfl,by kernel_rfl⟩
@[go_sem] theorem zj4:fnOk Tryd.prog 72=true/\fnOk Tryd.prog 73=true/\fnOk Tryd.prog 74=true/\fnOk Tryd.prog 75=true/\fnOk Tryd.prog 76=true:=⟨by kernel_rfl,by kernel_rfl,by kernel_rfl,by kernel_rfl,by kernel_rfl⟩
@[go_sem] theorem zj2:Tryd.f5.results.toList=[.tmp 4]:=rfl
@[go_sem] theorem zjO:Tryd.f15.results.toList=[.tmp 4]:=rfl
@[go_sem] theorem zjN:Tryd.f16.results.toList=[.tmp 2,.cell 3 26]:=rfl
@[go_sem] theorem zjM:Tryd.f19.results.toList=[.tmp 0]:=rfl
@[go_sem] theorem zjL:Tryd.f22.results.toList=[.tmp 4]:=rfl
@[go_sem] theorem zjK:Tryd.f35.results.toList=[.tmp 2]:=rfl
@[go_sem] theorem zjJ:Tryd.f36.results.toList=[.cell 4 26]:=rfl
@[go_sem] theorem zjI:Tryd.f37.results.toList=[.tmp 2]:=rfl
@[go_sem] theorem zjH:Tryd.f38.results.toList=[.tmp 4,.tmp 5]:=rfl
@[go_sem] theorem zjG:Tryd.f39.results.toList=[.tmp 4]:=rfl
@[go_sem] theorem zjF:Tryd.f40.results.toList=[.tmp 2,.tmp 3]:=rfl
@[go_sem] theorem zjE:Tryd.f73.results.toList=[.tmp 6,.tmp 7]:=rfl
@[go_sem] theorem zjD:Tryd.f74.results.toList=[.tmp 2]:=rfl
@[go_sem] theorem zjC:Tryd.f75.results.toList=[.tmp 2]:=rfl
theorem zeW:Tryd.prog.follows .mixedOrders=true:=by kernel_rfl
end Go.Proofs.YtocjejladeeckaaDoor
