import Derived.Test.YtocjejladeeckaaDoorProg
import Derived.Test.YtocjejladeeckaaDoorVu3
import Derived.KernelRfl
set_option linter.all false
set_option maxRecDepth 100000
namespace Go.Proofs.YtocjejladeeckaaDoor
open Go.Vs
@[go_sem] theorem zqK:zbh Tryd.prog 2=some false/\tsz Tryd.prog 2=some 1/\zbI Tryd.prog 2=some 8/\zbu Tryd.prog 2=some [.int .i64 0]/\zea Tryd.prog 2=false/\zaB Tryd.prog 2=none/\zca Tryd.prog 2=some false/\zbh Tryd.prog 3=some false/\tsz Tryd.prog 3=some 1/\zea Tryd.prog 3=false/\zaB Tryd.prog 3=none/\zca Tryd.prog 3=some false:=⟨by kernel_rfl,by kernel_rfl,by kernel_rfl,by kernel_rfl,by kernel_rfl,by kernel_rfl,by kernel_rfl,by kernel_rfl,by kernel_rfl,by kernel_rfl,by kernel_rfl,by kernel_rfl⟩
@[go_sem] theorem zqJ:zbh Tryd.prog 4=some false/\tsz Tryd.prog 4=some 1/\zea Tryd.prog 4=true/\zaB Tryd.prog 4=none/\zca Tryd.prog 4=some false/\zbh Tryd.prog 9=some false/\tsz Tryd.prog 9=some 1/\zbI Tryd.prog 9=some 16/\zbu Tryd.prog 9=some [.str ⟨#[]⟩]/\zea Tryd.prog 9=false/\zds Tryd.prog 9=true/\zaB Tryd.prog 9=none:=⟨by kernel_rfl,by kernel_rfl,by kernel_rfl,by kernel_rfl,by kernel_rfl,by kernel_rfl,by kernel_rfl,by kernel_rfl,by kernel_rfl,by kernel_rfl,by kernel_rfl,by kernel_rfl⟩
@[go_sem] theorem zqS:zca Tryd.prog 9=some false/\zbh Tryd.prog 21=some false/\tsz Tryd.prog 21=some 1/\zea Tryd.prog 21=false/\zaB Tryd.prog 21=none/\zca Tryd.prog 21=some false/\zbh Tryd.prog 23=some false/\tsz Tryd.prog 23=some 1/\zds Tryd.prog 23=false/\zaB Tryd.prog 23=some 43/\zbh Tryd.prog 24=some false/\tsz Tryd.prog 24=some 1:=⟨by kernel_rfl,by kernel_rfl,by kernel_rfl,by kernel_rfl,by kernel_rfl,by kernel_rfl,by kernel_rfl,by kernel_rfl,by kernel_rfl,by kernel_rfl,by kernel_rfl,by kernel_rfl⟩
@[go_sem] theorem zo3:zea Tryd.prog 24=false/\zaB Tryd.prog 24=none/\zca Tryd.prog 24=some false/\zbh Tryd.prog 26=some true/\tsz Tryd.prog 26=some 3/\zbu Tryd.prog 26=some [.int .i64 0,.int .i64 0,.int .i64 0]/\plc Tryd.prog 26=some [(0,1),(1,1),(2,1)]/\zea Tryd.prog 26=false/\zaB Tryd.prog 26=none/\zca Tryd.prog 26=some false/\zbh Tryd.prog 35=some false/\tsz Tryd.prog 35=some 1:=⟨by kernel_rfl,by kernel_rfl,by kernel_rfl,by kernel_rfl,by kernel_rfl,by kernel_rfl,by kernel_rfl,by kernel_rfl,by kernel_rfl,by kernel_rfl,by kernel_rfl,by kernel_rfl⟩
@[go_sem] theorem zpE:zds Tryd.prog 35=false/\zaB Tryd.prog 35=some 86/\zbh Tryd.prog 36=some false/\tsz Tryd.prog 36=some 1/\zds Tryd.prog 36=false/\zaB Tryd.prog 36=some 65/\zbh Tryd.prog 38=some true/\tsz Tryd.prog 38=some 2/\zbu Tryd.prog 38=some [.nils,.nils]/\plc Tryd.prog 38=some [(0,1),(1,1)]/\zbh Tryd.prog 43=some true/\tsz Tryd.prog 43=some 4:=⟨by kernel_rfl,by kernel_rfl,by kernel_rfl,by kernel_rfl,by kernel_rfl,by kernel_rfl,by kernel_rfl,by kernel_rfl,by kernel_rfl,by kernel_rfl,by kernel_rfl,by kernel_rfl⟩
@[go_sem] theorem zqI:zbI Tryd.prog 43=some 40/\zbu Tryd.prog 43=some [.int .i64 0,.int .i64 0,.int .i64 0,.str ⟨#[]⟩]/\plc Tryd.prog 43=some [(0,1),(1,1),(2,1),(3,1)]/\zbh Tryd.prog 44=some false/\tsz Tryd.prog 44=some 1/\zds Tryd.prog 44=false/\zaB Tryd.prog 44=some 9/\zbh Tryd.prog 53=some true/\tsz Tryd.prog 53=some 4/\zbu Tryd.prog 53=some [.int .i64 0,.int .i64 0,.int .i64 0,.int .i64 0]/\plc Tryd.prog 53=some [(0,1),(1,1),(2,1),(3,1)]/\zea Tryd.prog 53=false:=⟨by kernel_rfl,by kernel_rfl,by kernel_rfl,by kernel_rfl,by kernel_rfl,by kernel_rfl,by kernel_rfl,by kernel_rfl,by kernel_rfl,by kernel_rfl,by kernel_rfl,by kernel_rfl⟩
@[go_sem] theorem zqH:zaB Tryd.prog 53=none/\zca Tryd.prog 53=some false/\zbh Tryd.prog 55=some true/\tsz Tryd.prog 55=some 13/\zbI Tryd.prog 55=some 128/\zbu Tryd.prog 55=some [.int .i64 0,.bool false,.int .i64 0,.int .i64 0,.int .i64 0,.int .i64 0,.int .i64 0,.int .i64 0,.int .i64 0,.int .i64 0,.int .i64 0,.str ⟨#[]⟩,.nils]/\plc Tryd.prog 55=some [(0,1),(1,1),(2,1),(3,4),(7,4),(11,1),(12,1)]/\zbh Tryd.prog 63=some false/\tsz Tryd.prog 63=some 1/\zaB Tryd.prog 63=some 55/\tsz Tryd.prog 65=some 1/\zbI Tryd.prog 65=some 24:=⟨by kernel_rfl,by kernel_rfl,by kernel_rfl,by kernel_rfl,by kernel_rfl,by kernel_rfl,by kernel_rfl,by kernel_rfl,by kernel_rfl,by kernel_rfl,by kernel_rfl,by kernel_rfl⟩
@[go_sem] theorem zoL:zbu Tryd.prog 65=some [.nils]/\plc Tryd.prog 65=some [(0,1)]/\zaB Tryd.prog 72=some 74/\zbh Tryd.prog 74=some true/\tsz Tryd.prog 74=some 6/\zbI Tryd.prog 74=some 48/\zbu Tryd.prog 74=some [.int .i32 0,.int .i64 0,.int .i64 0,.int .i64 0,.int .i64 0,.bool false]/\plc Tryd.prog 74=some [(0,1),(1,1),(2,1),(3,1),(4,1),(5,1)]/\zbh Tryd.prog 84=some false/\tsz Tryd.prog 84=some 1/\zds Tryd.prog 84=false/\zaB Tryd.prog 84=some 2:=⟨by kernel_rfl,by kernel_rfl,by kernel_rfl,by kernel_rfl,by kernel_rfl,by kernel_rfl,by kernel_rfl,by kernel_rfl,by kernel_rfl,by kernel_rfl,by kernel_rfl,by kernel_rfl⟩
@[go_sem] theorem zqd:zbh Tryd.prog 86=some true/\tsz Tryd.prog 86=some 3/\zbI Tryd.prog 86=some 48/\zbu Tryd.prog 86=some [.str ⟨#[]⟩,.int .i64 0,.nils]/\plc Tryd.prog 86=some [(0,1),(1,1),(2,1)]/\zbh Tryd.prog 113=some false/\tsz Tryd.prog 113=some 1/\zds Tryd.prog 113=false/\zaB Tryd.prog 113=some 135/\zbu Tryd.prog 115=some [.nils,.int .i64 0,.nils,.nils,.nils,.int .i64 0,.int .i64 0,.int .i64 0]/\plc Tryd.prog 115=some [(0,1),(1,1),(2,2),(4,1),(5,3)]/\zbh Tryd.prog 122=some false:=⟨by kernel_rfl,by kernel_rfl,by kernel_rfl,by kernel_rfl,by kernel_rfl,by kernel_rfl,by kernel_rfl,by kernel_rfl,by kernel_rfl,by kernel_rfl,by kernel_rfl,by kernel_rfl⟩
@[go_sem] theorem zpD:tsz Tryd.prog 122=some 1/\zbh Tryd.prog 135=some true/\tsz Tryd.prog 135=some 8/\zbI Tryd.prog 135=some 120/\zbu Tryd.prog 135=some [.int .i64 0,.int .i64 0,.int .i64 0,.str ⟨#[]⟩,.nilmap,.nils,.nils,.nils]/\plc Tryd.prog 135=some [(0,4),(4,1),(5,1),(6,1),(7,1)]/\tsz Tryd.prog 145=some 1/\zbu Tryd.prog 145=some [.int .i64 0]/\plc Tryd.prog 145=some [(0,1)]/\zca Tryd.prog 145=some false/\zbu Tryd.prog 147=some [.int .i64 0]/\plc Tryd.prog 147=some [(0,1)]:=⟨by kernel_rfl,by kernel_rfl,by kernel_rfl,by kernel_rfl,by kernel_rfl,by kernel_rfl,by kernel_rfl,by kernel_rfl,by kernel_rfl,by kernel_rfl,by kernel_rfl,by kernel_rfl⟩
@[go_sem] theorem zqa:zca Tryd.prog 147=some false/\tsz Tryd.prog 149=some 2/\zbu Tryd.prog 149=some [.int .i64 0,.int .i64 0]/\plc Tryd.prog 149=some [(0,1),(1,1)]/\zca Tryd.prog 149=some false/\tsz Tryd.prog 151=some 2/\zbu Tryd.prog 151=some [.int .i64 0,.int .i64 0]/\plc Tryd.prog 151=some [(0,1),(1,1)]/\zca Tryd.prog 151=some false/\zkU Tryd.prog 122=some (9,4)/\zlN Tryd.prog 4=some (.bool false)/\eqOk Tryd.prog 26=some [1,1,1]:=⟨by kernel_rfl,by kernel_rfl,by kernel_rfl,by kernel_rfl,by kernel_rfl,by kernel_rfl,by kernel_rfl,by kernel_rfl,by kernel_rfl,by kernel_rfl,by kernel_rfl,by kernel_rfl⟩
@[go_sem] theorem zqG:eqOk Tryd.prog 53=some [1,1,1,1]/\fnOk Tryd.prog 15=true/\fnOk Tryd.prog 16=true/\fnOk Tryd.prog 22=true/\fnOk Tryd.prog 31=true/\fnOk Tryd.prog 32=true/\fnOk Tryd.prog 33=true/\fnOk Tryd.prog 35=true/\fnOk Tryd.prog 36=true/\fnOk Tryd.prog 37=true/\fnOk Tryd.prog 38=true/\fnOk Tryd.prog 39=true:=⟨by kernel_rfl,by kernel_rfl,by kernel_rfl,by kernel_rfl,by kernel_rfl,by kernel_rfl,by kernel_rfl,by kernel_rfl,by kernel_rfl,by kernel_rfl,by kernel_rfl,by kernel_rfl⟩
@[go_sem] theorem zqF:fnOk Tryd.prog 40=true/\fnOk Tryd.prog 57=true/\fnOk Tryd.prog 67=true/\fnOk Tryd.prog 68=true/\fnOk Tryd.prog 69=true/\fnOk Tryd.prog 70=true/\fnOk Tryd.prog 71=true/\fnOk Tryd.prog 72=true/\fnOk Tryd.prog 73=true/\fnOk Tryd.prog 74=true/\fnOk Tryd.prog 75=true/\fnOk Tryd.prog 76=true:=⟨by kernel_rfl,by kernel_rfl,by kernel_rfl,by kernel_rfl,by kernel_rfl,by kernel_rfl,by kernel_rfl,by kernel_rfl,by kernel_rfl,by kernel_rfl,by kernel_rfl,by kernel_rfl⟩
@[go_sem] theorem zqE:fnOk Tryd.prog 79=true/\fnOk Tryd.prog 83=true/\fnOk Tryd.prog 84=true/\fnOk Tryd.prog 85=true/\fnOk Tryd.prog 86=true/\fnOk Tryd.prog 92=true/\fnOk Tryd.prog 93=true/\fnOk Tryd.prog 94=true/\fnOk Tryd.prog 95=true/\fnOk Tryd.prog 96=true/\fnOk Tryd.prog 104=true/\fnOk Tryd.prog 109=true:=⟨by kernel_rfl,by kernel_rfl,by kernel_rfl,by kernel_rfl,by kernel_rfl,by kernel_rfl,by kernel_rfl,by kernel_rfl,by kernel_rfl,by kernel_rfl,by kernel_rfl,by kernel_rfl⟩
@[go_sem] theorem zqc:fnOk Tryd.prog 110=true/\fnOk Tryd.prog 111=true/\fnOk Tryd.prog 112=true/\fnOk Tryd.prog 113=true/\fnOk Tryd.prog 117=true/\fnOk Tryd.prog 118=true/\fnOk Tryd.prog 119=true/\fnOk Tryd.prog 122=true/\fnOk Tryd.prog 123=true/\fnOk Tryd.prog 128=true/\fnOk Tryd.prog 129=true/\fnOk Tryd.prog 130=true:=⟨by kernel_rfl,by kernel_rfl,by kernel_rfl,by kernel_rfl,by kernel_rfl,by kernel_rfl,by kernel_rfl,by kernel_rfl,by kernel_rfl,by kernel_rfl,by kernel_rfl,by kernel_rfl⟩
@[go_sem] theorem zqb:fnOk Tryd.prog 136=true/\fnOk Tryd.prog 142=true/\fnOk Tryd.prog 150=true/\zV Tryd.prog 145=some (.agg [.int .i64 0])/\zV Tryd.prog 149=some (.agg [.int .i64 0,.int .i64 0])/\zV Tryd.prog 151=some (.agg [.int .i64 0,.int .i64 0]):=⟨by kernel_rfl,by kernel_rfl,by kernel_rfl,by kernel_rfl,by kernel_rfl,by kernel_rfl⟩
@[go_sem] theorem zp9:Tryd.f13.results.toList=[.tmp 4]:=rfl
@[go_sem] theorem zp8:Tryd.f15.results.toList=[.tmp 4]:=rfl
@[go_sem] theorem zp7:Tryd.f16.results.toList=[.tmp 2,.cell 3 26]:=rfl
@[go_sem] theorem zp6:Tryd.f22.results.toList=[.tmp 4]:=rfl
@[go_sem] theorem zp5:Tryd.f31.results.toList=[.tmp 4]:=rfl
@[go_sem] theorem zp4:Tryd.f32.results.toList=[.cell 2 38,.cell 3 26]:=rfl
@[go_sem] theorem zp3:Tryd.f33.results.toList=[.tmp 0]:=rfl
@[go_sem] theorem zp2:Tryd.f35.results.toList=[.tmp 2]:=rfl
@[go_sem] theorem zp1:Tryd.f36.results.toList=[.cell 4 26]:=rfl
@[go_sem] theorem zp0:Tryd.f37.results.toList=[.tmp 2]:=rfl
@[go_sem] theorem zpZ:Tryd.f38.results.toList=[.tmp 4,.tmp 5]:=rfl
@[go_sem] theorem zpY:Tryd.f39.results.toList=[.tmp 4]:=rfl
@[go_sem] theorem zpX:Tryd.f40.results.toList=[.tmp 2,.tmp 3]:=rfl
@[go_sem] theorem zpW:Tryd.f57.results.toList=[.tmp 2]:=rfl
@[go_sem] theorem zpV:Tryd.f67.results.toList=[.tmp 4]:=rfl
@[go_sem] theorem zpU:Tryd.f68.results.toList=[.tmp 4]:=rfl
@[go_sem] theorem zpT:Tryd.f69.results.toList=[.tmp 2]:=rfl
@[go_sem] theorem zpS:Tryd.f70.results.toList=[.tmp 4]:=rfl
@[go_sem] theorem zpR:Tryd.f73.results.toList=[.tmp 6,.tmp 7]:=rfl
@[go_sem] theorem zpQ:Tryd.f74.results.toList=[.tmp 2]:=rfl
@[go_sem] theorem zpP:Tryd.f75.results.toList=[.tmp 2]:=rfl
@[go_sem] theorem zpO:Tryd.f79.results.toList=[.tmp 2]:=rfl
@[go_sem] theorem zpN:Tryd.f83.results.toList=[.tmp 2]:=rfl
@[go_sem] theorem zpM:Tryd.f84.results.toList=[.tmp 0]:=rfl
@[go_sem] theorem zpL:Tryd.f85.results.toList=[.tmp 0]:=rfl
@[go_sem] theorem zpK:Tryd.f86.results.toList=[.tmp 2,.tmp 3]:=rfl
@[go_sem] theorem zpJ:Tryd.f92.results.toList=[.tmp 4]:=rfl
@[go_sem] theorem zpI:Tryd.f93.results.toList=[.tmp 4]:=rfl
@[go_sem] theorem zpH:Tryd.f94.results.toList=[.tmp 6]:=rfl
@[go_sem] theorem zpG:Tryd.f95.results.toList=[.tmp 2]:=rfl
@[go_sem] theorem zpF:Tryd.f96.results.toList=[.tmp 4]:=rfl
@[go_sem] theorem zo2:Tryd.f104.results.toList=[.tmp 2]:=rfl
@[go_sem] theorem zo1:Tryd.f109.results.toList=[.tmp 2]:=rfl
@[go_sem] theorem zo0:Tryd.f110.results.toList=[.tmp 2]:=rfl
@[go_sem] theorem zoZ:Tryd.f111.results.toList=[.tmp 2]:=rfl
@[go_sem] theorem zoY:Tryd.f112.results.toList=[.tmp 2]:=rfl
@[go_sem] theorem zoX:Tryd.f113.results.toList=[.tmp 2]:=rfl
@[go_sem] theorem zoW:Tryd.f117.results.toList=[.tmp 4,.tmp 5]:=rfl
@[go_sem] theorem zoV:Tryd.f118.results.toList=[.tmp 6]:=rfl
@[go_sem] theorem zoU:Tryd.f119.results.toList=[.cell 4 55,.tmp 5]:=rfl
@[go_sem] theorem zoT:Tryd.f122.results.toList=[.tmp 2,.tmp 3]:=rfl
@[go_sem] theorem zoS:Tryd.f123.results.toList=[.tmp 2,.tmp 3,.tmp 4]:=rfl
@[go_sem] theorem zoR:Tryd.f128.results.toList=[.tmp 2,.tmp 3]:=rfl
@[go_sem] theorem zoQ:Tryd.f129.results.toList=[.tmp 2]:=rfl
@[go_sem] theorem zoP:Tryd.f130.results.toList=[.cell 4 55,.tmp 5]:=rfl
@[go_sem] theorem zoO:Tryd.f136.results.toList=[.tmp 0]:=rfl
@[go_sem] theorem zoN:Tryd.f142.results.toList=[.tmp 4]:=rfl
@[go_sem] theorem zoM:Tryd.f150.results.toList=[.tmp 6]:=rfl
theorem zaC:Tryd.prog.follows .mixedOrders=true:=by kernel_rfl
end Go.Proofs.YtocjejladeeckaaDoor
