import Derived.Test.YtocjejladeeckaaGreatDoorProg
import Derived.Test.YtocjejladeeckaaGreatDoorVu3
import Derived.KernelRfl
set_option linter.all false
set_option maxRecDepth 100000
namespace Go.Proofs.YtocjejladeeckaaGreatDoor
open Go.Vs
@[go_sem] theorem zy6:zct Tryz.prog 2=some false/\tsz Tryz.prog 2=some 1/\zdq Tryz.prog 2=some 8/\zcM Tryz.prog 2=some [.int .i64 0]/\zkQ Tryz.prog 2=some .i64/\(Tryz.prog.underlying 2).isSome=true/\zg4 Tryz.prog 2=false/\zfg Tryz.prog 2=false/\zaU Tryz.prog 2=none/\zeq Tryz.prog 2=some false/\zct Tryz.prog 3=some false/\tsz Tryz.prog 3=some 1:=⟨by kernel_rfl,by kernel_rfl,by kernel_rfl,by kernel_rfl,by kernel_rfl,by kernel_rfl,by kernel_rfl,by kernel_rfl,by kernel_rfl,by kernel_rfl,by kernel_rfl,by kernel_rfl⟩
@[go_sem] theorem zzi:zdq Tryz.prog 3=some 8/\zcM Tryz.prog 3=some [.int .i64 0]/\(Tryz.prog.underlying 3).isSome=true/\zg4 Tryz.prog 3=false/\zaU Tryz.prog 3=none/\zhN Tryz.prog 3=false/\zeq Tryz.prog 3=some false/\zct Tryz.prog 4=some false/\tsz Tryz.prog 4=some 1/\zg4 Tryz.prog 4=true/\zaU Tryz.prog 4=none/\zeq Tryz.prog 4=some false:=⟨by kernel_rfl,by kernel_rfl,by kernel_rfl,by kernel_rfl,by kernel_rfl,by kernel_rfl,by kernel_rfl,by kernel_rfl,by kernel_rfl,by kernel_rfl,by kernel_rfl,by kernel_rfl⟩
@[go_sem] theorem zzh:tsz Tryz.prog 5=some 1/\zcM Tryz.prog 5=some [.int .u8 0]/\zkQ Tryz.prog 5=some .u8/\(Tryz.prog.underlying 5).isSome=true/\zg4 Tryz.prog 5=false/\zfg Tryz.prog 5=false/\zaU Tryz.prog 5=none/\zhN Tryz.prog 5=false/\zeq Tryz.prog 5=some false/\zct Tryz.prog 9=some false/\tsz Tryz.prog 9=some 1/\zdq Tryz.prog 9=some 16:=⟨by kernel_rfl,by kernel_rfl,by kernel_rfl,by kernel_rfl,by kernel_rfl,by kernel_rfl,by kernel_rfl,by kernel_rfl,by kernel_rfl,by kernel_rfl,by kernel_rfl,by kernel_rfl⟩
@[go_sem] theorem zwW:zcM Tryz.prog 9=some [.str ⟨#[]⟩]/\zg4 Tryz.prog 9=false/\zfg Tryz.prog 9=true/\zaU Tryz.prog 9=none/\zeq Tryz.prog 9=some false/\zct Tryz.prog 21=some false/\tsz Tryz.prog 21=some 1/\zg4 Tryz.prog 21=false/\zaU Tryz.prog 21=none/\zeq Tryz.prog 21=some false/\zaU Tryz.prog 25=some 65/\zct Tryz.prog 27=some false:=⟨by kernel_rfl,by kernel_rfl,by kernel_rfl,by kernel_rfl,by kernel_rfl,by kernel_rfl,by kernel_rfl,by kernel_rfl,by kernel_rfl,by kernel_rfl,by kernel_rfl,by kernel_rfl⟩
@[go_sem] theorem zyU:tsz Tryz.prog 27=some 1/\zfg Tryz.prog 27=false/\zaU Tryz.prog 27=some 54/\zct Tryz.prog 28=some false/\tsz Tryz.prog 28=some 1/\zfg Tryz.prog 28=false/\zaU Tryz.prog 28=some 59/\zct Tryz.prog 30=some true/\tsz Tryz.prog 30=some 2/\zcM Tryz.prog 30=some [.nils,.nils]/\plc Tryz.prog 30=some [(0,1),(1,1)]/\zct Tryz.prog 34=some false:=⟨by kernel_rfl,by kernel_rfl,by kernel_rfl,by kernel_rfl,by kernel_rfl,by kernel_rfl,by kernel_rfl,by kernel_rfl,by kernel_rfl,by kernel_rfl,by kernel_rfl,by kernel_rfl⟩
@[go_sem] theorem zyT:tsz Tryz.prog 34=some 1/\zdq Tryz.prog 34=some 24/\zcM Tryz.prog 34=some [.nils]/\zfg Tryz.prog 34=false/\zaU Tryz.prog 34=some 41/\zct Tryz.prog 35=some false/\tsz Tryz.prog 35=some 1/\zg4 Tryz.prog 35=false/\zaU Tryz.prog 35=none/\zeq Tryz.prog 35=some false/\zct Tryz.prog 37=some true/\tsz Tryz.prog 37=some 3:=⟨by kernel_rfl,by kernel_rfl,by kernel_rfl,by kernel_rfl,by kernel_rfl,by kernel_rfl,by kernel_rfl,by kernel_rfl,by kernel_rfl,by kernel_rfl,by kernel_rfl,by kernel_rfl⟩
@[go_sem] theorem zvZ:zcM Tryz.prog 37=some [.int .i64 0,.int .i64 0,.int .i64 0]/\plc Tryz.prog 37=some [(0,1),(1,1),(2,1)]/\zg4 Tryz.prog 37=false/\zaU Tryz.prog 37=none/\zeq Tryz.prog 37=some false/\zct Tryz.prog 41=some true/\tsz Tryz.prog 41=some 4/\zdq Tryz.prog 41=some 40/\zcM Tryz.prog 41=some [.int .i64 0,.int .i64 0,.int .i64 0,.str ⟨#[]⟩]/\plc Tryz.prog 41=some [(0,1),(1,1),(2,1),(3,1)]/\zct Tryz.prog 42=some false/\tsz Tryz.prog 42=some 1:=⟨by kernel_rfl,by kernel_rfl,by kernel_rfl,by kernel_rfl,by kernel_rfl,by kernel_rfl,by kernel_rfl,by kernel_rfl,by kernel_rfl,by kernel_rfl,by kernel_rfl,by kernel_rfl⟩
@[go_sem] theorem zwX:zfg Tryz.prog 42=false/\zaU Tryz.prog 42=some 9/\zaU Tryz.prog 49=some 50/\zct Tryz.prog 50=some false/\tsz Tryz.prog 50=some 1/\zfg Tryz.prog 50=false/\zaU Tryz.prog 50=some 3/\zct Tryz.prog 52=some false/\tsz Tryz.prog 52=some 1/\zfg Tryz.prog 52=false/\zaU Tryz.prog 52=some 2/\zct Tryz.prog 54=some true:=⟨by kernel_rfl,by kernel_rfl,by kernel_rfl,by kernel_rfl,by kernel_rfl,by kernel_rfl,by kernel_rfl,by kernel_rfl,by kernel_rfl,by kernel_rfl,by kernel_rfl,by kernel_rfl⟩
@[go_sem] theorem zyS:tsz Tryz.prog 54=some 3/\zdq Tryz.prog 54=some 48/\zcM Tryz.prog 54=some [.str ⟨#[]⟩,.int .i64 0,.nils]/\plc Tryz.prog 54=some [(0,1),(1,1),(2,1)]/\zct Tryz.prog 57=some false/\tsz Tryz.prog 57=some 1/\zfg Tryz.prog 57=false/\zaU Tryz.prog 57=some 63/\zct Tryz.prog 59=some true/\tsz Tryz.prog 59=some 1/\zdq Tryz.prog 59=some 24/\zcM Tryz.prog 59=some [.nils]:=⟨by kernel_rfl,by kernel_rfl,by kernel_rfl,by kernel_rfl,by kernel_rfl,by kernel_rfl,by kernel_rfl,by kernel_rfl,by kernel_rfl,by kernel_rfl,by kernel_rfl,by kernel_rfl⟩
@[go_sem] theorem zyj:plc Tryz.prog 59=some [(0,1)]/\zct Tryz.prog 61=some true/\tsz Tryz.prog 61=some 4/\zcM Tryz.prog 61=some [.int .i64 0,.int .i64 0,.int .i64 0,.int .i64 0]/\plc Tryz.prog 61=some [(0,1),(1,1),(2,1),(3,1)]/\zg4 Tryz.prog 61=false/\zaU Tryz.prog 61=none/\zeq Tryz.prog 61=some false/\zct Tryz.prog 63=some true/\tsz Tryz.prog 63=some 13/\zdq Tryz.prog 63=some 128/\zcM Tryz.prog 63=some [.int .i64 0,.bool false,.int .i64 0,.int .i64 0,.int .i64 0,.int .i64 0,.int .i64 0,.int .i64 0,.int .i64 0,.int .i64 0,.int .i64 0,.str ⟨#[]⟩,.nils]:=⟨by kernel_rfl,by kernel_rfl,by kernel_rfl,by kernel_rfl,by kernel_rfl,by kernel_rfl,by kernel_rfl,by kernel_rfl,by kernel_rfl,by kernel_rfl,by kernel_rfl,by kernel_rfl⟩
@[go_sem] theorem zyi:plc Tryz.prog 63=some [(0,1),(1,1),(2,1),(3,4),(7,4),(11,1),(12,1)]/\zct Tryz.prog 65=some false/\tsz Tryz.prog 65=some 1/\zfg Tryz.prog 65=false/\zaU Tryz.prog 65=some 68/\zct Tryz.prog 68=some true/\tsz Tryz.prog 68=some 5/\plc Tryz.prog 68=some [(0,1),(1,1),(2,1),(3,1),(4,1)]/\zaU Tryz.prog 70=some 73/\zct Tryz.prog 73=some true/\tsz Tryz.prog 73=some 6/\zdq Tryz.prog 73=some 48:=⟨by kernel_rfl,by kernel_rfl,by kernel_rfl,by kernel_rfl,by kernel_rfl,by kernel_rfl,by kernel_rfl,by kernel_rfl,by kernel_rfl,by kernel_rfl,by kernel_rfl,by kernel_rfl⟩
@[go_sem] theorem zvY:zcM Tryz.prog 73=some [.int .i32 0,.int .i64 0,.int .i64 0,.int .i64 0,.int .i64 0,.bool false]/\plc Tryz.prog 73=some [(0,1),(1,1),(2,1),(3,1),(4,1),(5,1)]/\zct Tryz.prog 80=some false/\tsz Tryz.prog 80=some 1/\zfg Tryz.prog 80=false/\zaU Tryz.prog 80=some 109/\zcM Tryz.prog 82=some [.nils,.int .i64 0,.nils,.nils,.nils,.int .i64 0,.int .i64 0,.int .i64 0]/\plc Tryz.prog 82=some [(0,1),(1,1),(2,2),(4,1),(5,3)]/\zct Tryz.prog 88=some false/\tsz Tryz.prog 88=some 1/\zaU Tryz.prog 88=some 34/\zcM Tryz.prog 90=some [.nils,.int .i64 0,.nils,.nils,.nils,.nils,.nils,.nils,.nils,.nils,.int .i64 0,.int .i64 0,.int .i64 0]:=⟨by kernel_rfl,by kernel_rfl,by kernel_rfl,by kernel_rfl,by kernel_rfl,by kernel_rfl,by kernel_rfl,by kernel_rfl,by kernel_rfl,by kernel_rfl,by kernel_rfl,by kernel_rfl⟩
@[go_sem] theorem zyh:plc Tryz.prog 90=some [(0,1),(1,1),(2,2),(4,1),(5,1),(6,1),(7,1),(8,1),(9,1),(10,3)]/\zkQ Tryz.prog 91=some .u64/\(Tryz.prog.underlying 91).isSome=true/\zfg Tryz.prog 91=false/\zhN Tryz.prog 91=false/\zaU Tryz.prog 92=some 5/\zhN Tryz.prog 92=true/\zaU Tryz.prog 99=some 101/\zct Tryz.prog 101=some true/\tsz Tryz.prog 101=some 6/\zdq Tryz.prog 101=some 48/\zcM Tryz.prog 101=some [.int .i32 0,.int .i64 0,.int .i64 0,.int .i64 0,.int .i64 0,.bool false]:=⟨by kernel_rfl,by kernel_rfl,by kernel_rfl,by kernel_rfl,by kernel_rfl,by kernel_rfl,by kernel_rfl,by kernel_rfl,by kernel_rfl,by kernel_rfl,by kernel_rfl,by kernel_rfl⟩
@[go_sem] theorem zwi:plc Tryz.prog 101=some [(0,1),(1,1),(2,1),(3,1),(4,1),(5,1)]/\zct Tryz.prog 107=some false/\tsz Tryz.prog 107=some 1/\zct Tryz.prog 109=some true/\tsz Tryz.prog 109=some 8/\zdq Tryz.prog 109=some 120/\zcM Tryz.prog 109=some [.int .i64 0,.int .i64 0,.int .i64 0,.str ⟨#[]⟩,.nilmap,.nils,.nils,.nils]/\plc Tryz.prog 109=some [(0,4),(4,1),(5,1),(6,1),(7,1)]/\tsz Tryz.prog 180=some 1/\zcM Tryz.prog 180=some [.int .i64 0]/\plc Tryz.prog 180=some [(0,1)]/\zeq Tryz.prog 180=some false:=⟨by kernel_rfl,by kernel_rfl,by kernel_rfl,by kernel_rfl,by kernel_rfl,by kernel_rfl,by kernel_rfl,by kernel_rfl,by kernel_rfl,by kernel_rfl,by kernel_rfl,by kernel_rfl⟩
@[go_sem] theorem zuZ:zcM Tryz.prog 185=some [.int .i64 0]/\plc Tryz.prog 185=some [(0,1)]/\zeq Tryz.prog 185=some false/\tsz Tryz.prog 187=some 2/\zcM Tryz.prog 187=some [.int .i64 0,.int .i64 0]/\plc Tryz.prog 187=some [(0,1),(1,1)]/\zeq Tryz.prog 187=some false/\tsz Tryz.prog 189=some 2/\zcM Tryz.prog 189=some [.int .i64 0,.int .i64 0]/\plc Tryz.prog 189=some [(0,1),(1,1)]/\zeq Tryz.prog 189=some false/\zq8 Tryz.prog 107=some (9,4):=⟨by kernel_rfl,by kernel_rfl,by kernel_rfl,by kernel_rfl,by kernel_rfl,by kernel_rfl,by kernel_rfl,by kernel_rfl,by kernel_rfl,by kernel_rfl,by kernel_rfl,by kernel_rfl⟩
@[go_sem] theorem zzg:zrZ Tryz.prog 4=some (.bool false)/\eqOk Tryz.prog 37=some [1,1,1]/\eqOk Tryz.prog 61=some [1,1,1,1]/\fnOk Tryz.prog 9=true/\fnOk Tryz.prog 10=true/\fnOk Tryz.prog 11=true/\fnOk Tryz.prog 12=true/\fnOk Tryz.prog 13=true/\fnOk Tryz.prog 14=true/\fnOk Tryz.prog 15=true/\fnOk Tryz.prog 16=true/\fnOk Tryz.prog 17=true:=⟨by kernel_rfl,by kernel_rfl,by kernel_rfl,by kernel_rfl,by kernel_rfl,by kernel_rfl,by kernel_rfl,by kernel_rfl,by kernel_rfl,by kernel_rfl,by kernel_rfl,by kernel_rfl⟩
@[go_sem] theorem zy5:fnOk Tryz.prog 18=true/\fnOk Tryz.prog 19=true/\fnOk Tryz.prog 20=true/\fnOk Tryz.prog 21=true/\fnOk Tryz.prog 22=true/\fnOk Tryz.prog 23=true/\fnOk Tryz.prog 24=true/\fnOk Tryz.prog 25=true/\fnOk Tryz.prog 26=true/\fnOk Tryz.prog 27=true/\fnOk Tryz.prog 28=true/\fnOk Tryz.prog 29=true:=⟨by kernel_rfl,by kernel_rfl,by kernel_rfl,by kernel_rfl,by kernel_rfl,by kernel_rfl,by kernel_rfl,by kernel_rfl,by kernel_rfl,by kernel_rfl,by kernel_rfl,by kernel_rfl⟩
@[go_sem] theorem zy4:fnOk Tryz.prog 30=true/\fnOk Tryz.prog 31=true/\fnOk Tryz.prog 32=true/\fnOk Tryz.prog 33=true/\fnOk Tryz.prog 34=true/\fnOk Tryz.prog 35=true/\fnOk Tryz.prog 36=true/\fnOk Tryz.prog 37=true/\fnOk Tryz.prog 38=true/\fnOk Tryz.prog 39=true/\fnOk Tryz.prog 40=true/\fnOk Tryz.prog 41=true:=⟨by kernel_rfl,by kernel_rfl,by kernel_rfl,by kernel_rfl,by kernel_rfl,by kernel_rfl,by kernel_rfl,by kernel_rfl,by kernel_rfl,by kernel_rfl,by kernel_rfl,by kernel_rfl⟩
@[go_sem] theorem zy3:fnOk Tryz.prog 42=true/\fnOk Tryz.prog 43=true/\fnOk Tryz.prog 44=true/\fnOk Tryz.prog 45=true/\fnOk Tryz.prog 46=true/\fnOk Tryz.prog 47=true/\fnOk Tryz.prog 48=true/\fnOk Tryz.prog 49=true/\fnOk Tryz.prog 50=true/\fnOk Tryz.prog 51=true/\fnOk Tryz.prog 52=true/\fnOk Tryz.prog 53=true:=⟨by kernel_rfl,by kernel_rfl,by kernel_rfl,by kernel_rfl,by kernel_rfl,by kernel_rfl,by kernel_rfl,by kernel_rfl,by kernel_rfl,by kernel_rfl,by kernel_rfl,by kernel_rfl⟩
@[go_sem] theorem zy2:fnOk Tryz.prog 54=true/\fnOk Tryz.prog 55=true/\fnOk Tryz.prog 56=true/\fnOk Tryz.prog 57=true/\fnOk Tryz.prog 58=true/\fnOk Tryz.prog 59=true/\fnOk Tryz.prog 60=true/\fnOk Tryz.prog 61=true/\fnOk Tryz.prog 62=true/\fnOk Tryz.prog 63=true/\fnOk Tryz.prog 64=true/\fnOk Tryz.prog 65=true:=⟨by kernel_rfl,by kernel_rfl,by kernel_rfl,by kernel_rfl,by kernel_rfl,by kernel_rfl,by kernel_rfl,by kernel_rfl,by kernel_rfl,by kernel_rfl,by kernel_rfl,by kernel_rfl⟩
@[go_sem] theorem zy1:fnOk Tryz.prog 66=true/\fnOk Tryz.prog 67=true/\fnOk Tryz.prog 68=true/\fnOk Tryz.prog 69=true/\fnOk Tryz.prog 70=true/\fnOk Tryz.prog 71=true/\fnOk Tryz.prog 72=true/\fnOk Tryz.prog 73=true/\fnOk Tryz.prog 74=true/\fnOk Tryz.prog 75=true/\fnOk Tryz.prog 76=true/\fnOk Tryz.prog 77=true:=⟨by kernel_rfl,by kernel_rfl,by kernel_rfl,by kernel_rfl,by kernel_rfl,by kernel_rfl,by kernel_rfl,by kernel_rfl,by kernel_rfl,by kernel_rfl,by kernel_rfl,by kernel_rfl⟩
@[go_sem] theorem zy0:fnOk Tryz.prog 78=true/\fnOk Tryz.prog 79=true/\fnOk Tryz.prog 80=true/\fnOk Tryz.prog 81=true/\fnOk Tryz.prog 82=true/\fnOk Tryz.prog 83=true/\fnOk Tryz.prog 84=true/\fnOk Tryz.prog 85=true/\fnOk Tryz.prog 86=true/\fnOk Tryz.prog 87=true/\fnOk Tryz.prog 88=true/\fnOk Tryz.prog 92=true:=⟨by kernel_rfl,by kernel_rfl,by kernel_rfl,by kernel_rfl,by kernel_rfl,by kernel_rfl,by kernel_rfl,by kernel_rfl,by kernel_rfl,by kernel_rfl,by kernel_rfl,by kernel_rfl⟩
@[go_sem] theorem zyZ:fnOk Tryz.prog 93=true/\fnOk Tryz.prog 94=true/\fnOk Tryz.prog 95=true/\fnOk Tryz.prog 96=true/\fnOk Tryz.prog 100=true/\fnOk Tryz.prog 101=true/\fnOk Tryz.prog 102=true/\fnOk Tryz.prog 103=true/\fnOk Tryz.prog 104=true/\fnOk Tryz.prog 105=true/\fnOk Tryz.prog 112=true/\fnOk Tryz.prog 113=true:=⟨by kernel_rfl,by kernel_rfl,by kernel_rfl,by kernel_rfl,by kernel_rfl,by kernel_rfl,by kernel_rfl,by kernel_rfl,by kernel_rfl,by kernel_rfl,by kernel_rfl,by kernel_rfl⟩
@[go_sem] theorem zyk:fnOk Tryz.prog 114=true/\fnOk Tryz.prog 115=true/\fnOk Tryz.prog 125=true/\fnOk Tryz.prog 126=true/\fnOk Tryz.prog 127=true/\fnOk Tryz.prog 128=true/\fnOk Tryz.prog 135=true/\fnOk Tryz.prog 136=true/\fnOk Tryz.prog 137=true/\fnOk Tryz.prog 140=true/\zV Tryz.prog 180=some (.agg [.int .i64 0])/\zV Tryz.prog 187=some (.agg [.int .i64 0,.int .i64 0]):=⟨by kernel_rfl,by kernel_rfl,by kernel_rfl,by kernel_rfl,by kernel_rfl,by kernel_rfl,by kernel_rfl,by kernel_rfl,by kernel_rfl,by kernel_rfl,by kernel_rfl,by kernel_rfl⟩
@[go_sem] theorem zwV:zV Tryz.prog 189=some (.agg [.int .i64 0,.int .i64 0]):=by kernel_rfl
@[go_sem] theorem zyY:Tryz.f4.results.toList=[.tmp 8]:=rfl
@[go_sem] theorem zyX:Tryz.f5.results.toList=[.tmp 6]:=rfl
@[go_sem] theorem zyW:Tryz.f8.results.toList=[.tmp 2]:=rfl
@[go_sem] theorem zyV:Tryz.f9.results.toList=[.tmp 4]:=rfl
@[go_sem] theorem zyg:Tryz.f10.results.toList=[.tmp 2]:=rfl
@[go_sem] theorem zyf:Tryz.f11.results.toList=[.tmp 0]:=rfl
@[go_sem] theorem zye:Tryz.f12.results.toList=[.tmp 2]:=rfl
@[go_sem] theorem zyd:Tryz.f13.results.toList=[.cell 6 30]:=rfl
@[go_sem] theorem zyc:Tryz.f14.results.toList=[.tmp 4]:=rfl
@[go_sem] theorem zyb:Tryz.f15.results.toList=[.tmp 2,.cell 3 37]:=rfl
@[go_sem] theorem zya:Tryz.f16.results.toList=[.cell 2 30,.cell 3 37]:=rfl
@[go_sem] theorem zx9:Tryz.f17.results.toList=[.tmp 4]:=rfl
@[go_sem] theorem zx8:Tryz.f18.results.toList=[.tmp 2]:=rfl
@[go_sem] theorem zx7:Tryz.f19.results.toList=[.cell 2 30,.cell 3 37]:=rfl
@[go_sem] theorem zx6:Tryz.f20.results.toList=[.tmp 2]:=rfl
@[go_sem] theorem zx5:Tryz.f21.results.toList=[.tmp 2]:=rfl
@[go_sem] theorem zx4:Tryz.f22.results.toList=[.tmp 4]:=rfl
@[go_sem] theorem zx3:Tryz.f23.results.toList=[.cell 4 63]:=rfl
@[go_sem] theorem zx2:Tryz.f24.results.toList=[.tmp 2]:=rfl
@[go_sem] theorem zx1:Tryz.f25.results.toList=[.tmp 2]:=rfl
@[go_sem] theorem zx0:Tryz.f26.results.toList=[.tmp 2]:=rfl
@[go_sem] theorem zxZ:Tryz.f27.results.toList=[.tmp 2]:=rfl
@[go_sem] theorem zxY:Tryz.f28.results.toList=[.tmp 2]:=rfl
@[go_sem] theorem zxX:Tryz.f29.results.toList=[.tmp 2,.tmp 3]:=rfl
@[go_sem] theorem zxW:Tryz.f30.results.toList=[.tmp 2,.tmp 3]:=rfl
@[go_sem] theorem zxV:Tryz.f31.results.toList=[.tmp 2,.cell 3 37]:=rfl
@[go_sem] theorem zxU:Tryz.f32.results.toList=[.tmp 2]:=rfl
@[go_sem] theorem zxT:Tryz.f33.results.toList=[.tmp 4]:=rfl
@[go_sem] theorem zxS:Tryz.f34.results.toList=[.tmp 4]:=rfl
@[go_sem] theorem zxR:Tryz.f35.results.toList=[.tmp 4]:=rfl
@[go_sem] theorem zxQ:Tryz.f36.results.toList=[.tmp 2]:=rfl
@[go_sem] theorem zxP:Tryz.f37.results.toList=[.tmp 4]:=rfl
@[go_sem] theorem zxO:Tryz.f38.results.toList=[.tmp 2]:=rfl
@[go_sem] theorem zxN:Tryz.f39.results.toList=[]:=rfl
@[go_sem] theorem zxM:Tryz.f40.results.toList=[.tmp 4]:=rfl
@[go_sem] theorem zxL:Tryz.f41.results.toList=[.tmp 2]:=rfl
@[go_sem] theorem zxK:Tryz.f42.results.toList=[.tmp 4]:=rfl
@[go_sem] theorem zxJ:Tryz.f43.results.toList=[.tmp 2]:=rfl
@[go_sem] theorem zxI:Tryz.f44.results.toList=[.tmp 2]:=rfl
@[go_sem] theorem zxH:Tryz.f45.results.toList=[.tmp 4]:=rfl
@[go_sem] theorem zxG:Tryz.f46.results.toList=[.cell 2 61]:=rfl
@[go_sem] theorem zxF:Tryz.f47.results.toList=[.cell 4 61]:=rfl
@[go_sem] theorem zxE:Tryz.f48.results.toList=[.cell 2 61]:=rfl
@[go_sem] theorem zxD:Tryz.f49.results.toList=[.tmp 2]:=rfl
@[go_sem] theorem zxC:Tryz.f50.results.toList=[.cell 4 37]:=rfl
@[go_sem] theorem zxB:Tryz.f51.results.toList=[.tmp 2]:=rfl
@[go_sem] theorem zxA:Tryz.f52.results.toList=[.tmp 4,.tmp 5]:=rfl
@[go_sem] theorem zxz:Tryz.f53.results.toList=[.tmp 4]:=rfl
@[go_sem] theorem zxy:Tryz.f54.results.toList=[.tmp 2,.tmp 3]:=rfl
@[go_sem] theorem zxx:Tryz.f55.results.toList=[.tmp 4]:=rfl
@[go_sem] theorem zxw:Tryz.f56.results.toList=[.tmp 6]:=rfl
@[go_sem] theorem zxv:Tryz.f57.results.toList=[.tmp 2]:=rfl
@[go_sem] theorem zxu:Tryz.f58.results.toList=[.tmp 4]:=rfl
@[go_sem] theorem zxt:Tryz.f59.results.toList=[.tmp 4]:=rfl
@[go_sem] theorem zxs:Tryz.f60.results.toList=[.tmp 2]:=rfl
@[go_sem] theorem zxr:Tryz.f61.results.toList=[.tmp 2]:=rfl
@[go_sem] theorem zxq:Tryz.f62.results.toList=[.tmp 4]:=rfl
@[go_sem] theorem zxp:Tryz.f63.results.toList=[.tmp 4]:=rfl
@[go_sem] theorem zxo:Tryz.f64.results.toList=[.tmp 4]:=rfl
@[go_sem] theorem zxn:Tryz.f65.results.toList=[.tmp 2]:=rfl
@[go_sem] theorem zxm:Tryz.f66.results.toList=[.tmp 2]:=rfl
@[go_sem] theorem zxl:Tryz.f67.results.toList=[.tmp 2]:=rfl
@[go_sem] theorem zxk:Tryz.f68.results.toList=[.tmp 6]:=rfl
@[go_sem] theorem zxj:Tryz.f69.results.toList=[.tmp 2]:=rfl
@[go_sem] theorem zxi:Tryz.f70.results.toList=[.tmp 0]:=rfl
@[go_sem] theorem zxh:Tryz.f71.results.toList=[.tmp 0]:=rfl
@[go_sem] theorem zxg:Tryz.f72.results.toList=[.tmp 2]:=rfl
@[go_sem] theorem zxf:Tryz.f73.results.toList=[.tmp 2]:=rfl
@[go_sem] theorem zxe:Tryz.f76.results.toList=[.tmp 6,.tmp 7]:=rfl
@[go_sem] theorem zxd:Tryz.f77.results.toList=[.tmp 2]:=rfl
@[go_sem] theorem zxc:Tryz.f78.results.toList=[.tmp 2]:=rfl
@[go_sem] theorem zxb:Tryz.f80.results.toList=[.tmp 2]:=rfl
@[go_sem] theorem zxa:Tryz.f81.results.toList=[.tmp 4,.tmp 5]:=rfl
@[go_sem] theorem zw9:Tryz.f82.results.toList=[.tmp 6]:=rfl
@[go_sem] theorem zw8:Tryz.f83.results.toList=[.cell 4 63,.tmp 5]:=rfl
@[go_sem] theorem zw7:Tryz.f84.results.toList=[.tmp 0]:=rfl
@[go_sem] theorem zw6:Tryz.f85.results.toList=[.tmp 2]:=rfl
@[go_sem] theorem zw5:Tryz.f86.results.toList=[.tmp 2]:=rfl
@[go_sem] theorem zw4:Tryz.f87.results.toList=[.tmp 2]:=rfl
@[go_sem] theorem zw3:Tryz.f88.results.toList=[.tmp 2]:=rfl
@[go_sem] theorem zw2:Tryz.f92.results.toList=[.tmp 2,.tmp 3]:=rfl
@[go_sem] theorem zw1:Tryz.f93.results.toList=[.tmp 2,.tmp 3,.tmp 4]:=rfl
@[go_sem] theorem zw0:Tryz.f94.results.toList=[.cell 4 63,.tmp 5]:=rfl
@[go_sem] theorem zwZ:Tryz.f95.results.toList=[.tmp 2,.tmp 3,.tmp 4]:=rfl
@[go_sem] theorem zwY:Tryz.f96.results.toList=[.tmp 4]:=rfl
@[go_sem] theorem zwh:Tryz.f100.results.toList=[.tmp 0]:=rfl
@[go_sem] theorem zwg:Tryz.f101.results.toList=[.tmp 0]:=rfl
@[go_sem] theorem zwf:Tryz.f102.results.toList=[.tmp 0]:=rfl
@[go_sem] theorem zwe:Tryz.f103.results.toList=[.tmp 4]:=rfl
@[go_sem] theorem zwd:Tryz.f104.results.toList=[.tmp 2]:=rfl
@[go_sem] theorem zwc:Tryz.f105.results.toList=[.cell 2 61,.tmp 3]:=rfl
@[go_sem] theorem zwb:Tryz.f112.results.toList=[.tmp 6]:=rfl
@[go_sem] theorem zwa:Tryz.f113.results.toList=[.tmp 2]:=rfl
@[go_sem] theorem zv9:Tryz.f114.results.toList=[.tmp 2]:=rfl
@[go_sem] theorem zv8:Tryz.f115.results.toList=[.tmp 2,.tmp 3]:=rfl
@[go_sem] theorem zv7:Tryz.f125.results.toList=[.tmp 2]:=rfl
@[go_sem] theorem zv6:Tryz.f126.results.toList=[.tmp 2]:=rfl
@[go_sem] theorem zv5:Tryz.f127.results.toList=[.tmp 2]:=rfl
@[go_sem] theorem zv4:Tryz.f128.results.toList=[.tmp 2]:=rfl
@[go_sem] theorem zv3:Tryz.f135.results.toList=[.tmp 2,.tmp 3]:=rfl
@[go_sem] theorem zv2:Tryz.f136.results.toList=[.tmp 2]:=rfl
@[go_sem] theorem zv1:Tryz.f137.results.toList=[.tmp 2,.tmp 3]:=rfl
@[go_sem] theorem zv0:Tryz.f140.results.toList=[.tmp 2]:=rfl
theorem zaw:Tryz.prog.follows .mixedOrders=true:=by kernel_rfl
end Go.Proofs.YtocjejladeeckaaGreatDoor
