import Derived.Test.YtkgpofmbegonfaaGreatDoorProg
import Derived.Test.YtkgpofmbegonfaaGreatDoorVu3
import Derived.KernelRfl
set_option linter.all false
set_option maxRecDepth 100000
namespace Go.Proofs.YtkgpofmbegonfaaGreatDoor
open Go.Vs
@[go_sem] theorem zr9:za5 Tryz.prog 2=some false/\tsz Tryz.prog 2=some 1/\zbC Tryz.prog 2=some 8/\zbq Tryz.prog 2=some [.int .i64 0]/\ziz Tryz.prog 2=some .i64/\zei Tryz.prog 2=false/\zaC Tryz.prog 2=none/\zd4 Tryz.prog 2=false/\zcd Tryz.prog 2=some false/\za5 Tryz.prog 3=some false/\tsz Tryz.prog 3=some 1/\zbq Tryz.prog 3=some [.int .i64 0]:=⟨by kernel_rfl,by kernel_rfl,by kernel_rfl,by kernel_rfl,by kernel_rfl,by kernel_rfl,by kernel_rfl,by kernel_rfl,by kernel_rfl,by kernel_rfl,by kernel_rfl,by kernel_rfl⟩
@[go_sem] theorem zrs:zei Tryz.prog 3=false/\zaC Tryz.prog 3=none/\zcd Tryz.prog 3=some false/\za5 Tryz.prog 4=some false/\tsz Tryz.prog 4=some 1/\zei Tryz.prog 4=true/\zaC Tryz.prog 4=none/\zcd Tryz.prog 4=some false/\tsz Tryz.prog 5=some 1/\zbC Tryz.prog 5=some 1/\zbq Tryz.prog 5=some [.int .u8 0]/\(Tryz.prog.underlying 5).isSome=true:=⟨by kernel_rfl,by kernel_rfl,by kernel_rfl,by kernel_rfl,by kernel_rfl,by kernel_rfl,by kernel_rfl,by kernel_rfl,by kernel_rfl,by kernel_rfl,by kernel_rfl,by kernel_rfl⟩
@[go_sem] theorem zrr:zei Tryz.prog 5=false/\zc5 Tryz.prog 5=false/\zaC Tryz.prog 5=none/\zcd Tryz.prog 5=some false/\za5 Tryz.prog 9=some false/\tsz Tryz.prog 9=some 1/\zbC Tryz.prog 9=some 16/\zbq Tryz.prog 9=some [.str ⟨#[]⟩]/\zei Tryz.prog 9=false/\zc5 Tryz.prog 9=true/\zaC Tryz.prog 9=none/\zcd Tryz.prog 9=some false:=⟨by kernel_rfl,by kernel_rfl,by kernel_rfl,by kernel_rfl,by kernel_rfl,by kernel_rfl,by kernel_rfl,by kernel_rfl,by kernel_rfl,by kernel_rfl,by kernel_rfl,by kernel_rfl⟩
@[go_sem] theorem zrv:za5 Tryz.prog 21=some false/\tsz Tryz.prog 21=some 1/\zei Tryz.prog 21=false/\zaC Tryz.prog 21=none/\zcd Tryz.prog 21=some false/\zaC Tryz.prog 23=some 39/\ixOf Tryz.prog 23=some (none,39)/\za5 Tryz.prog 32=some false/\tsz Tryz.prog 32=some 1/\zc5 Tryz.prog 32=false/\zaC Tryz.prog 32=some 9/\ixOf Tryz.prog 32=some (none,9):=⟨by kernel_rfl,by kernel_rfl,by kernel_rfl,by kernel_rfl,by kernel_rfl,by kernel_rfl,by kernel_rfl,by kernel_rfl,by kernel_rfl,by kernel_rfl,by kernel_rfl,by kernel_rfl⟩
@[go_sem] theorem zru:za5 Tryz.prog 39=some true/\tsz Tryz.prog 39=some 2/\zbC Tryz.prog 39=some 16/\zbq Tryz.prog 39=some [.int .i64 0,.bool false]/\plc Tryz.prog 39=some [(0,1),(1,1)]/\zei Tryz.prog 39=false/\zaC Tryz.prog 39=none/\zcd Tryz.prog 39=some false/\ziz Tryz.prog 48=some .u64/\(Tryz.prog.underlying 48).isSome=true/\zc5 Tryz.prog 48=false/\zd4 Tryz.prog 48=false:=⟨by kernel_rfl,by kernel_rfl,by kernel_rfl,by kernel_rfl,by kernel_rfl,by kernel_rfl,by kernel_rfl,by kernel_rfl,by kernel_rfl,by kernel_rfl,by kernel_rfl,by kernel_rfl⟩
@[go_sem] theorem zrt:za5 Tryz.prog 51=some false/\tsz Tryz.prog 51=some 1/\zc5 Tryz.prog 51=false/\zaC Tryz.prog 51=some 5/\zbq Tryz.prog 53=some [.nilp,.nils]/\plc Tryz.prog 53=some [(0,1),(1,1)]/\za5 Tryz.prog 58=some false/\tsz Tryz.prog 58=some 1/\zc5 Tryz.prog 58=false/\zaC Tryz.prog 58=some 205/\ixOf Tryz.prog 58=some (none,205)/\za5 Tryz.prog 59=some false:=⟨by kernel_rfl,by kernel_rfl,by kernel_rfl,by kernel_rfl,by kernel_rfl,by kernel_rfl,by kernel_rfl,by kernel_rfl,by kernel_rfl,by kernel_rfl,by kernel_rfl,by kernel_rfl⟩
@[go_sem] theorem zrY:tsz Tryz.prog 59=some 1/\zc5 Tryz.prog 59=false/\zaC Tryz.prog 59=some 121/\ixOf Tryz.prog 59=some (none,121)/\za5 Tryz.prog 61=some true/\tsz Tryz.prog 61=some 2/\zbq Tryz.prog 61=some [.nils,.nils]/\plc Tryz.prog 61=some [(0,1),(1,1)]/\za5 Tryz.prog 62=some false/\tsz Tryz.prog 62=some 1/\zei Tryz.prog 62=false/\zaC Tryz.prog 62=none:=⟨by kernel_rfl,by kernel_rfl,by kernel_rfl,by kernel_rfl,by kernel_rfl,by kernel_rfl,by kernel_rfl,by kernel_rfl,by kernel_rfl,by kernel_rfl,by kernel_rfl,by kernel_rfl⟩
@[go_sem] theorem zr6:zcd Tryz.prog 62=some false/\za5 Tryz.prog 64=some true/\tsz Tryz.prog 64=some 3/\zbq Tryz.prog 64=some [.int .i64 0,.int .i64 0,.int .i64 0]/\plc Tryz.prog 64=some [(0,1),(1,1),(2,1)]/\zaC Tryz.prog 72=some 3/\ixOf Tryz.prog 72=some (none,3)/\za5 Tryz.prog 82=some false/\tsz Tryz.prog 82=some 1/\zc5 Tryz.prog 82=false/\zaC Tryz.prog 82=some 2/\za5 Tryz.prog 100=some false:=⟨by kernel_rfl,by kernel_rfl,by kernel_rfl,by kernel_rfl,by kernel_rfl,by kernel_rfl,by kernel_rfl,by kernel_rfl,by kernel_rfl,by kernel_rfl,by kernel_rfl,by kernel_rfl⟩
@[go_sem] theorem zrb:tsz Tryz.prog 100=some 1/\zc5 Tryz.prog 100=false/\zaC Tryz.prog 100=some 192/\ixOf Tryz.prog 100=some (none,192)/\za5 Tryz.prog 104=some false/\tsz Tryz.prog 104=some 1/\zc5 Tryz.prog 104=false/\zaC Tryz.prog 104=some 199/\ixOf Tryz.prog 104=some (none,199)/\zbq Tryz.prog 106=some [.nils,.int .i64 0,.nils,.nils,.nils,.int .i64 0,.int .i64 0,.int .i64 0]/\plc Tryz.prog 106=some [(0,1),(1,1),(2,2),(4,1),(5,3)]/\za5 Tryz.prog 119=some false:=⟨by kernel_rfl,by kernel_rfl,by kernel_rfl,by kernel_rfl,by kernel_rfl,by kernel_rfl,by kernel_rfl,by kernel_rfl,by kernel_rfl,by kernel_rfl,by kernel_rfl,by kernel_rfl⟩
@[go_sem] theorem zra:tsz Tryz.prog 119=some 1/\zaC Tryz.prog 119=some 203/\ixOf Tryz.prog 119=some (none,203)/\tsz Tryz.prog 121=some 1/\zbC Tryz.prog 121=some 24/\zbq Tryz.prog 121=some [.nils]/\plc Tryz.prog 121=some [(0,1)]/\zaC Tryz.prog 183=some 186/\ixOf Tryz.prog 183=some (none,186)/\za5 Tryz.prog 186=some true/\tsz Tryz.prog 186=some 6/\zbC Tryz.prog 186=some 48:=⟨by kernel_rfl,by kernel_rfl,by kernel_rfl,by kernel_rfl,by kernel_rfl,by kernel_rfl,by kernel_rfl,by kernel_rfl,by kernel_rfl,by kernel_rfl,by kernel_rfl,by kernel_rfl⟩
@[go_sem] theorem zoV:zbq Tryz.prog 186=some [.int .i32 0,.int .i64 0,.int .i64 0,.int .i64 0,.int .i64 0,.bool false]/\plc Tryz.prog 186=some [(0,1),(1,1),(2,1),(3,1),(4,1),(5,1)]/\za5 Tryz.prog 192=some true/\tsz Tryz.prog 192=some 4/\zbC Tryz.prog 192=some 40/\zbq Tryz.prog 192=some [.int .i64 0,.int .i64 0,.int .i64 0,.str ⟨#[]⟩]/\plc Tryz.prog 192=some [(0,1),(1,1),(2,1),(3,1)]/\za5 Tryz.prog 197=some false/\tsz Tryz.prog 197=some 1/\za5 Tryz.prog 199=some true/\tsz Tryz.prog 199=some 8/\zbC Tryz.prog 199=some 120:=⟨by kernel_rfl,by kernel_rfl,by kernel_rfl,by kernel_rfl,by kernel_rfl,by kernel_rfl,by kernel_rfl,by kernel_rfl,by kernel_rfl,by kernel_rfl,by kernel_rfl,by kernel_rfl⟩
@[go_sem] theorem zoU:zbq Tryz.prog 199=some [.int .i64 0,.int .i64 0,.int .i64 0,.str ⟨#[]⟩,.nilmap,.nils,.nils,.nils]/\plc Tryz.prog 199=some [(0,4),(4,1),(5,1),(6,1),(7,1)]/\za5 Tryz.prog 201=some true/\tsz Tryz.prog 201=some 4/\zbq Tryz.prog 201=some [.int .i64 0,.int .i64 0,.int .i64 0,.int .i64 0]/\plc Tryz.prog 201=some [(0,1),(1,1),(2,1),(3,1)]/\zei Tryz.prog 201=false/\zaC Tryz.prog 201=none/\zcd Tryz.prog 201=some false/\za5 Tryz.prog 203=some true/\tsz Tryz.prog 203=some 13/\zbC Tryz.prog 203=some 128:=⟨by kernel_rfl,by kernel_rfl,by kernel_rfl,by kernel_rfl,by kernel_rfl,by kernel_rfl,by kernel_rfl,by kernel_rfl,by kernel_rfl,by kernel_rfl,by kernel_rfl,by kernel_rfl⟩
@[go_sem] theorem zoT:zbq Tryz.prog 203=some [.int .i64 0,.bool false,.int .i64 0,.int .i64 0,.int .i64 0,.int .i64 0,.int .i64 0,.int .i64 0,.int .i64 0,.int .i64 0,.int .i64 0,.str ⟨#[]⟩,.nils]/\plc Tryz.prog 203=some [(0,1),(1,1),(2,1),(3,4),(7,4),(11,1),(12,1)]/\za5 Tryz.prog 205=some true/\tsz Tryz.prog 205=some 3/\zbC Tryz.prog 205=some 48/\zbq Tryz.prog 205=some [.str ⟨#[]⟩,.int .i64 0,.nils]/\plc Tryz.prog 205=some [(0,1),(1,1),(2,1)]/\tsz Tryz.prog 343=some 1/\zbq Tryz.prog 343=some [.int .i64 0]/\plc Tryz.prog 343=some [(0,1)]/\zcd Tryz.prog 343=some false/\zbq Tryz.prog 345=some [.int .i64 0]:=⟨by kernel_rfl,by kernel_rfl,by kernel_rfl,by kernel_rfl,by kernel_rfl,by kernel_rfl,by kernel_rfl,by kernel_rfl,by kernel_rfl,by kernel_rfl,by kernel_rfl,by kernel_rfl⟩
@[go_sem] theorem zqs:plc Tryz.prog 345=some [(0,1)]/\zcd Tryz.prog 345=some false/\tsz Tryz.prog 347=some 2/\zbq Tryz.prog 347=some [.int .i64 0,.int .i64 0]/\plc Tryz.prog 347=some [(0,1),(1,1)]/\zcd Tryz.prog 347=some false/\tsz Tryz.prog 349=some 2/\zbq Tryz.prog 349=some [.int .i64 0,.int .i64 0]/\plc Tryz.prog 349=some [(0,1),(1,1)]/\zcd Tryz.prog 349=some false/\zlM Tryz.prog 197=some (9,4)/\zmy Tryz.prog 4=some (.bool false):=⟨by kernel_rfl,by kernel_rfl,by kernel_rfl,by kernel_rfl,by kernel_rfl,by kernel_rfl,by kernel_rfl,by kernel_rfl,by kernel_rfl,by kernel_rfl,by kernel_rfl,by kernel_rfl⟩
@[go_sem] theorem zr5:zkE Tryz.prog 99=some 5/\eqOk Tryz.prog 39=some [1,0]/\eqOk Tryz.prog 201=some [1,1,1,1]/\fnOk Tryz.prog 5=true/\fnOk Tryz.prog 6=true/\fnOk Tryz.prog 7=true/\fnOk Tryz.prog 8=true/\fnOk Tryz.prog 9=true/\fnOk Tryz.prog 10=true/\fnOk Tryz.prog 12=true/\fnOk Tryz.prog 13=true/\fnOk Tryz.prog 14=true:=⟨by kernel_rfl,by kernel_rfl,by kernel_rfl,by kernel_rfl,by kernel_rfl,by kernel_rfl,by kernel_rfl,by kernel_rfl,by kernel_rfl,by kernel_rfl,by kernel_rfl,by kernel_rfl⟩
@[go_sem] theorem zr8:fnOk Tryz.prog 15=true/\fnOk Tryz.prog 16=true/\fnOk Tryz.prog 17=true/\fnOk Tryz.prog 18=true/\fnOk Tryz.prog 24=true/\fnOk Tryz.prog 25=true/\fnOk Tryz.prog 26=true/\fnOk Tryz.prog 27=true/\fnOk Tryz.prog 28=true/\fnOk Tryz.prog 51=true/\fnOk Tryz.prog 53=true/\fnOk Tryz.prog 54=true:=⟨by kernel_rfl,by kernel_rfl,by kernel_rfl,by kernel_rfl,by kernel_rfl,by kernel_rfl,by kernel_rfl,by kernel_rfl,by kernel_rfl,by kernel_rfl,by kernel_rfl,by kernel_rfl⟩
@[go_sem] theorem zr7:fnOk Tryz.prog 55=true/\fnOk Tryz.prog 85=true/\fnOk Tryz.prog 99=true/\fnOk Tryz.prog 100=true/\fnOk Tryz.prog 101=true/\fnOk Tryz.prog 102=true/\fnOk Tryz.prog 103=true/\fnOk Tryz.prog 104=true/\fnOk Tryz.prog 105=true/\fnOk Tryz.prog 106=true/\fnOk Tryz.prog 107=true/\fnOk Tryz.prog 108=true:=⟨by kernel_rfl,by kernel_rfl,by kernel_rfl,by kernel_rfl,by kernel_rfl,by kernel_rfl,by kernel_rfl,by kernel_rfl,by kernel_rfl,by kernel_rfl,by kernel_rfl,by kernel_rfl⟩
@[go_sem] theorem zrq:fnOk Tryz.prog 109=true/\fnOk Tryz.prog 163=true/\fnOk Tryz.prog 164=true/\fnOk Tryz.prog 165=true/\fnOk Tryz.prog 166=true/\fnOk Tryz.prog 167=true/\fnOk Tryz.prog 168=true/\fnOk Tryz.prog 169=true/\fnOk Tryz.prog 170=true/\fnOk Tryz.prog 172=true/\fnOk Tryz.prog 182=true/\fnOk Tryz.prog 209=true:=⟨by kernel_rfl,by kernel_rfl,by kernel_rfl,by kernel_rfl,by kernel_rfl,by kernel_rfl,by kernel_rfl,by kernel_rfl,by kernel_rfl,by kernel_rfl,by kernel_rfl,by kernel_rfl⟩
@[go_sem] theorem zrp:fnOk Tryz.prog 210=true/\fnOk Tryz.prog 211=true/\fnOk Tryz.prog 212=true/\fnOk Tryz.prog 214=true/\fnOk Tryz.prog 215=true/\fnOk Tryz.prog 216=true/\fnOk Tryz.prog 217=true/\fnOk Tryz.prog 232=true/\fnOk Tryz.prog 233=true/\fnOk Tryz.prog 234=true/\fnOk Tryz.prog 235=true/\fnOk Tryz.prog 236=true:=⟨by kernel_rfl,by kernel_rfl,by kernel_rfl,by kernel_rfl,by kernel_rfl,by kernel_rfl,by kernel_rfl,by kernel_rfl,by kernel_rfl,by kernel_rfl,by kernel_rfl,by kernel_rfl⟩
@[go_sem] theorem zro:fnOk Tryz.prog 237=true/\fnOk Tryz.prog 254=true/\fnOk Tryz.prog 255=true/\zV Tryz.prog 343=some (.agg [.int .i64 0])/\zV Tryz.prog 347=some (.agg [.int .i64 0,.int .i64 0])/\zV Tryz.prog 349=some (.agg [.int .i64 0,.int .i64 0]):=⟨by kernel_rfl,by kernel_rfl,by kernel_rfl,by kernel_rfl,by kernel_rfl,by kernel_rfl⟩
@[go_sem] theorem zr4:Tryz.f3.results.toList=[.tmp 2]:=rfl
@[go_sem] theorem zr3:Tryz.f5.results.toList=[.tmp 4]:=rfl
@[go_sem] theorem zr2:Tryz.f6.results.toList=[.tmp 2,.tmp 3]:=rfl
@[go_sem] theorem zr1:Tryz.f7.results.toList=[.tmp 2,.tmp 3]:=rfl
@[go_sem] theorem zr0:Tryz.f8.results.toList=[.tmp 4]:=rfl
@[go_sem] theorem zrZ:Tryz.f9.results.toList=[.tmp 2]:=rfl
@[go_sem] theorem zrn:Tryz.f10.results.toList=[.tmp 0]:=rfl
@[go_sem] theorem zrm:Tryz.f15.results.toList=[.tmp 2,.tmp 3]:=rfl
@[go_sem] theorem zrl:Tryz.f17.results.toList=[.tmp 4]:=rfl
@[go_sem] theorem zrk:Tryz.f18.results.toList=[.tmp 4]:=rfl
@[go_sem] theorem zrj:Tryz.f25.results.toList=[.tmp 4,.tmp 5]:=rfl
@[go_sem] theorem zri:Tryz.f26.results.toList=[.tmp 2]:=rfl
@[go_sem] theorem zrh:Tryz.f27.results.toList=[.cell 2 61,.cell 3 64]:=rfl
@[go_sem] theorem zrg:Tryz.f28.results.toList=[.tmp 4]:=rfl
@[go_sem] theorem zrf:Tryz.f53.results.toList=[.tmp 2,.cell 3 64]:=rfl
@[go_sem] theorem zre:Tryz.f54.results.toList=[.tmp 2]:=rfl
@[go_sem] theorem zrd:Tryz.f55.results.toList=[.tmp 4]:=rfl
@[go_sem] theorem zrc:Tryz.f99.results.toList=[.tmp 2]:=rfl
@[go_sem] theorem zqr:Tryz.f100.results.toList=[.cell 4 64]:=rfl
@[go_sem] theorem zqq:Tryz.f101.results.toList=[.tmp 2]:=rfl
@[go_sem] theorem zqp:Tryz.f102.results.toList=[.tmp 4,.tmp 5]:=rfl
@[go_sem] theorem zqo:Tryz.f103.results.toList=[.tmp 4]:=rfl
@[go_sem] theorem zqn:Tryz.f104.results.toList=[.tmp 2,.tmp 3]:=rfl
@[go_sem] theorem zqm:Tryz.f105.results.toList=[.tmp 4]:=rfl
@[go_sem] theorem zql:Tryz.f106.results.toList=[.tmp 6]:=rfl
@[go_sem] theorem zqk:Tryz.f107.results.toList=[.tmp 2]:=rfl
@[go_sem] theorem zqj:Tryz.f108.results.toList=[.tmp 4]:=rfl
@[go_sem] theorem zqi:Tryz.f109.results.toList=[.tmp 2]:=rfl
@[go_sem] theorem zqh:Tryz.f164.results.toList=[.tmp 6,.tmp 7]:=rfl
@[go_sem] theorem zqg:Tryz.f165.results.toList=[.tmp 2]:=rfl
@[go_sem] theorem zqf:Tryz.f166.results.toList=[.tmp 2]:=rfl
@[go_sem] theorem zqe:Tryz.f167.results.toList=[.tmp 2]:=rfl
@[go_sem] theorem zp9:Tryz.f168.results.toList=[.tmp 4,.tmp 5]:=rfl
@[go_sem] theorem zp8:Tryz.f169.results.toList=[.tmp 6]:=rfl
@[go_sem] theorem zp7:Tryz.f170.results.toList=[.cell 4 203,.tmp 5]:=rfl
@[go_sem] theorem zp6:Tryz.f172.results.toList=[.tmp 2]:=rfl
@[go_sem] theorem zp5:Tryz.f182.results.toList=[.tmp 2]:=rfl
@[go_sem] theorem zp4:Tryz.f209.results.toList=[.tmp 2,.tmp 3]:=rfl
@[go_sem] theorem zp3:Tryz.f210.results.toList=[.tmp 2,.tmp 3,.tmp 4]:=rfl
@[go_sem] theorem zp2:Tryz.f211.results.toList=[.cell 4 203,.tmp 5]:=rfl
@[go_sem] theorem zp1:Tryz.f212.results.toList=[.tmp 2]:=rfl
@[go_sem] theorem zp0:Tryz.f214.results.toList=[.tmp 0]:=rfl
@[go_sem] theorem zpZ:Tryz.f215.results.toList=[.tmp 0]:=rfl
@[go_sem] theorem zpY:Tryz.f216.results.toList=[.tmp 2,.tmp 3]:=rfl
@[go_sem] theorem zpX:Tryz.f217.results.toList=[.tmp 2,.tmp 3]:=rfl
@[go_sem] theorem zpW:Tryz.f232.results.toList=[.tmp 0]:=rfl
@[go_sem] theorem zpV:Tryz.f233.results.toList=[.tmp 4]:=rfl
@[go_sem] theorem zpU:Tryz.f234.results.toList=[.tmp 2]:=rfl
@[go_sem] theorem zpT:Tryz.f235.results.toList=[.tmp 2]:=rfl
@[go_sem] theorem zpS:Tryz.f236.results.toList=[.tmp 2]:=rfl
@[go_sem] theorem zpR:Tryz.f237.results.toList=[.tmp 2]:=rfl
@[go_sem] theorem zpQ:Tryz.f254.results.toList=[.tmp 6]:=rfl
@[go_sem] theorem zpP:Tryz.f255.results.toList=[.tmp 2]:=rfl
theorem zaG:Tryz.prog.follows .mixedOrders=true:=by kernel_rfl
end Go.Proofs.YtkgpofmbegonfaaGreatDoor
