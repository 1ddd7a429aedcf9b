import Derived.Test.YtocjejladeeckaaGreatDoorProg
import Derived.Test.YtocjejladeeckaaGreatDoorVu3
import Derived.KernelRfl
set_option linter.all false
set_option maxRecDepth 100000
namespace Go.Proofs.YtocjejladeeckaaGreatDoor
open Go.Vs
@[go_sem] theorem zxi:zcg Tryz.prog 2=some false/\tsz Tryz.prog 2=some 1/\zdj Tryz.prog 2=some 8/\zcI Tryz.prog 2=some [.int .i64 0]/\zj9 Tryz.prog 2=some .i64/\(Tryz.prog.underlying 2).isSome=true/\zgK Tryz.prog 2=false/\zfg Tryz.prog 2=false/\zaT Tryz.prog 2=none/\zei Tryz.prog 2=some false/\zcg Tryz.prog 3=some false/\tsz Tryz.prog 3=some 1:=⟨by kernel_rfl,by kernel_rfl,by kernel_rfl,by kernel_rfl,by kernel_rfl,by kernel_rfl,by kernel_rfl,by kernel_rfl,by kernel_rfl,by kernel_rfl,by kernel_rfl,by kernel_rfl⟩
@[go_sem] theorem zxt:zdj Tryz.prog 3=some 8/\zcI Tryz.prog 3=some [.int .i64 0]/\(Tryz.prog.underlying 3).isSome=true/\zgK Tryz.prog 3=false/\zaT Tryz.prog 3=none/\zhr Tryz.prog 3=false/\zei Tryz.prog 3=some false/\zcg Tryz.prog 4=some false/\tsz Tryz.prog 4=some 1/\zgK Tryz.prog 4=true/\zaT Tryz.prog 4=none/\zei Tryz.prog 4=some false:=⟨by kernel_rfl,by kernel_rfl,by kernel_rfl,by kernel_rfl,by kernel_rfl,by kernel_rfl,by kernel_rfl,by kernel_rfl,by kernel_rfl,by kernel_rfl,by kernel_rfl,by kernel_rfl⟩
@[go_sem] theorem zxs:tsz Tryz.prog 5=some 1/\zcI Tryz.prog 5=some [.int .u8 0]/\zj9 Tryz.prog 5=some .u8/\(Tryz.prog.underlying 5).isSome=true/\zgK Tryz.prog 5=false/\zfg Tryz.prog 5=false/\zaT Tryz.prog 5=none/\zhr Tryz.prog 5=false/\zei Tryz.prog 5=some false/\zcg Tryz.prog 9=some false/\tsz Tryz.prog 9=some 1/\zdj Tryz.prog 9=some 16:=⟨by kernel_rfl,by kernel_rfl,by kernel_rfl,by kernel_rfl,by kernel_rfl,by kernel_rfl,by kernel_rfl,by kernel_rfl,by kernel_rfl,by kernel_rfl,by kernel_rfl,by kernel_rfl⟩
@[go_sem] theorem zu9:zcI Tryz.prog 9=some [.str ⟨#[]⟩]/\zgK Tryz.prog 9=false/\zfg Tryz.prog 9=true/\zaT Tryz.prog 9=none/\zei Tryz.prog 9=some false/\zcg Tryz.prog 21=some false/\tsz Tryz.prog 21=some 1/\zgK Tryz.prog 21=false/\zaT Tryz.prog 21=none/\zei Tryz.prog 21=some false/\zaT Tryz.prog 25=some 65/\zcg Tryz.prog 27=some false:=⟨by kernel_rfl,by kernel_rfl,by kernel_rfl,by kernel_rfl,by kernel_rfl,by kernel_rfl,by kernel_rfl,by kernel_rfl,by kernel_rfl,by kernel_rfl,by kernel_rfl,by kernel_rfl⟩
@[go_sem] theorem zw7:tsz Tryz.prog 27=some 1/\zfg Tryz.prog 27=false/\zaT Tryz.prog 27=some 54/\zcg Tryz.prog 28=some false/\tsz Tryz.prog 28=some 1/\zfg Tryz.prog 28=false/\zaT Tryz.prog 28=some 59/\zcg Tryz.prog 30=some true/\tsz Tryz.prog 30=some 2/\zcI Tryz.prog 30=some [.nils,.nils]/\plc Tryz.prog 30=some [(0,1),(1,1)]/\zcg Tryz.prog 34=some false:=⟨by kernel_rfl,by kernel_rfl,by kernel_rfl,by kernel_rfl,by kernel_rfl,by kernel_rfl,by kernel_rfl,by kernel_rfl,by kernel_rfl,by kernel_rfl,by kernel_rfl,by kernel_rfl⟩
@[go_sem] theorem zw6:tsz Tryz.prog 34=some 1/\zdj Tryz.prog 34=some 24/\zcI Tryz.prog 34=some [.nils]/\zfg Tryz.prog 34=false/\zaT Tryz.prog 34=some 41/\zcg Tryz.prog 35=some false/\tsz Tryz.prog 35=some 1/\zgK Tryz.prog 35=false/\zaT Tryz.prog 35=none/\zei Tryz.prog 35=some false/\zcg Tryz.prog 37=some true/\tsz Tryz.prog 37=some 3:=⟨by kernel_rfl,by kernel_rfl,by kernel_rfl,by kernel_rfl,by kernel_rfl,by kernel_rfl,by kernel_rfl,by kernel_rfl,by kernel_rfl,by kernel_rfl,by kernel_rfl,by kernel_rfl⟩
@[go_sem] theorem zue:zcI Tryz.prog 37=some [.int .i64 0,.int .i64 0,.int .i64 0]/\plc Tryz.prog 37=some [(0,1),(1,1),(2,1)]/\zgK Tryz.prog 37=false/\zaT Tryz.prog 37=none/\zei Tryz.prog 37=some false/\zcg Tryz.prog 41=some true/\tsz Tryz.prog 41=some 4/\zdj Tryz.prog 41=some 40/\zcI Tryz.prog 41=some [.int .i64 0,.int .i64 0,.int .i64 0,.str ⟨#[]⟩]/\plc Tryz.prog 41=some [(0,1),(1,1),(2,1),(3,1)]/\zcg Tryz.prog 42=some false/\tsz Tryz.prog 42=some 1:=⟨by kernel_rfl,by kernel_rfl,by kernel_rfl,by kernel_rfl,by kernel_rfl,by kernel_rfl,by kernel_rfl,by kernel_rfl,by kernel_rfl,by kernel_rfl,by kernel_rfl,by kernel_rfl⟩
@[go_sem] theorem zvb:zfg Tryz.prog 42=false/\zaT Tryz.prog 42=some 9/\zcg Tryz.prog 50=some false/\tsz Tryz.prog 50=some 1/\zaT Tryz.prog 50=some 3/\zcg Tryz.prog 52=some false/\tsz Tryz.prog 52=some 1/\zfg Tryz.prog 52=false/\zaT Tryz.prog 52=some 2/\zcg Tryz.prog 54=some true/\tsz Tryz.prog 54=some 3/\zdj Tryz.prog 54=some 48:=⟨by kernel_rfl,by kernel_rfl,by kernel_rfl,by kernel_rfl,by kernel_rfl,by kernel_rfl,by kernel_rfl,by kernel_rfl,by kernel_rfl,by kernel_rfl,by kernel_rfl,by kernel_rfl⟩
@[go_sem] theorem zud:zcI Tryz.prog 54=some [.str ⟨#[]⟩,.int .i64 0,.nils]/\plc Tryz.prog 54=some [(0,1),(1,1),(2,1)]/\zcg Tryz.prog 57=some false/\tsz Tryz.prog 57=some 1/\zfg Tryz.prog 57=false/\zaT Tryz.prog 57=some 63/\zcg Tryz.prog 59=some true/\tsz Tryz.prog 59=some 1/\zdj Tryz.prog 59=some 24/\zcI Tryz.prog 59=some [.nils]/\plc Tryz.prog 59=some [(0,1)]/\zcg Tryz.prog 61=some true:=⟨by kernel_rfl,by kernel_rfl,by kernel_rfl,by kernel_rfl,by kernel_rfl,by kernel_rfl,by kernel_rfl,by kernel_rfl,by kernel_rfl,by kernel_rfl,by kernel_rfl,by kernel_rfl⟩
@[go_sem] theorem zw5:tsz Tryz.prog 61=some 4/\zcI Tryz.prog 61=some [.int .i64 0,.int .i64 0,.int .i64 0,.int .i64 0]/\plc Tryz.prog 61=some [(0,1),(1,1),(2,1),(3,1)]/\zgK Tryz.prog 61=false/\zaT Tryz.prog 61=none/\zei Tryz.prog 61=some false/\zcg Tryz.prog 63=some true/\tsz Tryz.prog 63=some 13/\zdj Tryz.prog 63=some 128/\zcI Tryz.prog 63=some [.int .i64 0,.bool false,.int .i64 0,.int .i64 0,.int .i64 0,.int .i64 0,.int .i64 0,.int .i64 0,.int .i64 0,.int .i64 0,.int .i64 0,.str ⟨#[]⟩,.nils]/\plc Tryz.prog 63=some [(0,1),(1,1),(2,1),(3,4),(7,4),(11,1),(12,1)]/\zcg Tryz.prog 65=some false:=⟨by kernel_rfl,by kernel_rfl,by kernel_rfl,by kernel_rfl,by kernel_rfl,by kernel_rfl,by kernel_rfl,by kernel_rfl,by kernel_rfl,by kernel_rfl,by kernel_rfl,by kernel_rfl⟩
@[go_sem] theorem zw4:tsz Tryz.prog 65=some 1/\zfg Tryz.prog 65=false/\zaT Tryz.prog 65=some 68/\zcg Tryz.prog 68=some true/\tsz Tryz.prog 68=some 5/\plc Tryz.prog 68=some [(0,1),(1,1),(2,1),(3,1),(4,1)]/\zaT Tryz.prog 70=some 73/\zcg Tryz.prog 73=some true/\tsz Tryz.prog 73=some 6/\zdj Tryz.prog 73=some 48/\zcI Tryz.prog 73=some [.int .i32 0,.int .i64 0,.int .i64 0,.int .i64 0,.int .i64 0,.bool false]/\plc Tryz.prog 73=some [(0,1),(1,1),(2,1),(3,1),(4,1),(5,1)]:=⟨by kernel_rfl,by kernel_rfl,by kernel_rfl,by kernel_rfl,by kernel_rfl,by kernel_rfl,by kernel_rfl,by kernel_rfl,by kernel_rfl,by kernel_rfl,by kernel_rfl,by kernel_rfl⟩
@[go_sem] theorem zwx:zcg Tryz.prog 80=some false/\tsz Tryz.prog 80=some 1/\zfg Tryz.prog 80=false/\zaT Tryz.prog 80=some 109/\zcI Tryz.prog 82=some [.nils,.int .i64 0,.nils,.nils,.nils,.int .i64 0,.int .i64 0,.int .i64 0]/\plc Tryz.prog 82=some [(0,1),(1,1),(2,2),(4,1),(5,3)]/\zcg Tryz.prog 88=some false/\tsz Tryz.prog 88=some 1/\zaT Tryz.prog 88=some 34/\zcI Tryz.prog 90=some [.nils,.int .i64 0,.nils,.nils,.nils,.nils,.nils,.nils,.nils,.nils,.int .i64 0,.int .i64 0,.int .i64 0]/\plc Tryz.prog 90=some [(0,1),(1,1),(2,2),(4,1),(5,1),(6,1),(7,1),(8,1),(9,1),(10,3)]/\zj9 Tryz.prog 91=some .u64:=⟨by kernel_rfl,by kernel_rfl,by kernel_rfl,by kernel_rfl,by kernel_rfl,by kernel_rfl,by kernel_rfl,by kernel_rfl,by kernel_rfl,by kernel_rfl,by kernel_rfl,by kernel_rfl⟩
@[go_sem] theorem zw3:(Tryz.prog.underlying 91).isSome=true/\zfg Tryz.prog 91=false/\zhr Tryz.prog 91=false/\zaT Tryz.prog 92=some 5/\zhr Tryz.prog 92=true/\zaT Tryz.prog 99=some 101/\zcg Tryz.prog 101=some true/\tsz Tryz.prog 101=some 6/\zdj Tryz.prog 101=some 48/\zcI Tryz.prog 101=some [.int .i32 0,.int .i64 0,.int .i64 0,.int .i64 0,.int .i64 0,.bool false]/\plc Tryz.prog 101=some [(0,1),(1,1),(2,1),(3,1),(4,1),(5,1)]/\zcg Tryz.prog 107=some false:=⟨by kernel_rfl,by kernel_rfl,by kernel_rfl,by kernel_rfl,by kernel_rfl,by kernel_rfl,by kernel_rfl,by kernel_rfl,by kernel_rfl,by kernel_rfl,by kernel_rfl,by kernel_rfl⟩
@[go_sem] theorem zva:tsz Tryz.prog 107=some 1/\zcg Tryz.prog 109=some true/\tsz Tryz.prog 109=some 8/\zdj Tryz.prog 109=some 120/\zcI Tryz.prog 109=some [.int .i64 0,.int .i64 0,.int .i64 0,.str ⟨#[]⟩,.nilmap,.nils,.nils,.nils]/\plc Tryz.prog 109=some [(0,4),(4,1),(5,1),(6,1),(7,1)]/\tsz Tryz.prog 180=some 1/\zcI Tryz.prog 180=some [.int .i64 0]/\plc Tryz.prog 180=some [(0,1)]/\zei Tryz.prog 180=some false/\zcI Tryz.prog 185=some [.int .i64 0]/\plc Tryz.prog 185=some [(0,1)]:=⟨by kernel_rfl,by kernel_rfl,by kernel_rfl,by kernel_rfl,by kernel_rfl,by kernel_rfl,by kernel_rfl,by kernel_rfl,by kernel_rfl,by kernel_rfl,by kernel_rfl,by kernel_rfl⟩
@[go_sem] theorem zwv:zei Tryz.prog 185=some false/\tsz Tryz.prog 187=some 2/\zcI Tryz.prog 187=some [.int .i64 0,.int .i64 0]/\plc Tryz.prog 187=some [(0,1),(1,1)]/\zei Tryz.prog 187=some false/\tsz Tryz.prog 189=some 2/\zcI Tryz.prog 189=some [.int .i64 0,.int .i64 0]/\plc Tryz.prog 189=some [(0,1),(1,1)]/\zei Tryz.prog 189=some false/\zpP Tryz.prog 107=some (9,4)/\zqF Tryz.prog 4=some (.bool false)/\eqOk Tryz.prog 37=some [1,1,1]:=⟨by kernel_rfl,by kernel_rfl,by kernel_rfl,by kernel_rfl,by kernel_rfl,by kernel_rfl,by kernel_rfl,by kernel_rfl,by kernel_rfl,by kernel_rfl,by kernel_rfl,by kernel_rfl⟩
@[go_sem] theorem zxh:eqOk Tryz.prog 61=some [1,1,1,1]/\fnOk Tryz.prog 9=true/\fnOk Tryz.prog 10=true/\fnOk Tryz.prog 11=true/\fnOk Tryz.prog 12=true/\fnOk Tryz.prog 13=true/\fnOk Tryz.prog 14=true/\fnOk Tryz.prog 15=true/\fnOk Tryz.prog 16=true/\fnOk Tryz.prog 17=true/\fnOk Tryz.prog 18=true/\fnOk Tryz.prog 19=true:=⟨by kernel_rfl,by kernel_rfl,by kernel_rfl,by kernel_rfl,by kernel_rfl,by kernel_rfl,by kernel_rfl,by kernel_rfl,by kernel_rfl,by kernel_rfl,by kernel_rfl,by kernel_rfl⟩
@[go_sem] theorem zxg:fnOk Tryz.prog 20=true/\fnOk Tryz.prog 21=true/\fnOk Tryz.prog 22=true/\fnOk Tryz.prog 23=true/\fnOk Tryz.prog 24=true/\fnOk Tryz.prog 25=true/\fnOk Tryz.prog 26=true/\fnOk Tryz.prog 27=true/\fnOk Tryz.prog 28=true/\fnOk Tryz.prog 29=true/\fnOk Tryz.prog 30=true/\fnOk Tryz.prog 31=true:=⟨by kernel_rfl,by kernel_rfl,by kernel_rfl,by kernel_rfl,by kernel_rfl,by kernel_rfl,by kernel_rfl,by kernel_rfl,by kernel_rfl,by kernel_rfl,by kernel_rfl,by kernel_rfl⟩
@[go_sem] theorem zxf:fnOk Tryz.prog 32=true/\fnOk Tryz.prog 33=true/\fnOk Tryz.prog 34=true/\fnOk Tryz.prog 35=true/\fnOk Tryz.prog 36=true/\fnOk Tryz.prog 37=true/\fnOk Tryz.prog 38=true/\fnOk Tryz.prog 39=true/\fnOk Tryz.prog 40=true/\fnOk Tryz.prog 41=true/\fnOk Tryz.prog 42=true/\fnOk Tryz.prog 43=true:=⟨by kernel_rfl,by kernel_rfl,by kernel_rfl,by kernel_rfl,by kernel_rfl,by kernel_rfl,by kernel_rfl,by kernel_rfl,by kernel_rfl,by kernel_rfl,by kernel_rfl,by kernel_rfl⟩
@[go_sem] theorem zxe:fnOk Tryz.prog 44=true/\fnOk Tryz.prog 45=true/\fnOk Tryz.prog 46=true/\fnOk Tryz.prog 47=true/\fnOk Tryz.prog 48=true/\fnOk Tryz.prog 49=true/\fnOk Tryz.prog 50=true/\fnOk Tryz.prog 51=true/\fnOk Tryz.prog 52=true/\fnOk Tryz.prog 53=true/\fnOk Tryz.prog 54=true/\fnOk Tryz.prog 55=true:=⟨by kernel_rfl,by kernel_rfl,by kernel_rfl,by kernel_rfl,by kernel_rfl,by kernel_rfl,by kernel_rfl,by kernel_rfl,by kernel_rfl,by kernel_rfl,by kernel_rfl,by kernel_rfl⟩
@[go_sem] theorem zxd:fnOk Tryz.prog 56=true/\fnOk Tryz.prog 57=true/\fnOk Tryz.prog 58=true/\fnOk Tryz.prog 59=true/\fnOk Tryz.prog 60=true/\fnOk Tryz.prog 61=true/\fnOk Tryz.prog 62=true/\fnOk Tryz.prog 63=true/\fnOk Tryz.prog 64=true/\fnOk Tryz.prog 65=true/\fnOk Tryz.prog 66=true/\fnOk Tryz.prog 67=true:=⟨by kernel_rfl,by kernel_rfl,by kernel_rfl,by kernel_rfl,by kernel_rfl,by kernel_rfl,by kernel_rfl,by kernel_rfl,by kernel_rfl,by kernel_rfl,by kernel_rfl,by kernel_rfl⟩
@[go_sem] theorem zxc:fnOk Tryz.prog 68=true/\fnOk Tryz.prog 69=true/\fnOk Tryz.prog 70=true/\fnOk Tryz.prog 71=true/\fnOk Tryz.prog 72=true/\fnOk Tryz.prog 73=true/\fnOk Tryz.prog 74=true/\fnOk Tryz.prog 75=true/\fnOk Tryz.prog 76=true/\fnOk Tryz.prog 77=true/\fnOk Tryz.prog 78=true/\fnOk Tryz.prog 79=true:=⟨by kernel_rfl,by kernel_rfl,by kernel_rfl,by kernel_rfl,by kernel_rfl,by kernel_rfl,by kernel_rfl,by kernel_rfl,by kernel_rfl,by kernel_rfl,by kernel_rfl,by kernel_rfl⟩
@[go_sem] theorem zxb:fnOk Tryz.prog 80=true/\fnOk Tryz.prog 81=true/\fnOk Tryz.prog 82=true/\fnOk Tryz.prog 83=true/\fnOk Tryz.prog 84=true/\fnOk Tryz.prog 85=true/\fnOk Tryz.prog 86=true/\fnOk Tryz.prog 87=true/\fnOk Tryz.prog 88=true/\fnOk Tryz.prog 92=true/\fnOk Tryz.prog 93=true/\fnOk Tryz.prog 94=true:=⟨by kernel_rfl,by kernel_rfl,by kernel_rfl,by kernel_rfl,by kernel_rfl,by kernel_rfl,by kernel_rfl,by kernel_rfl,by kernel_rfl,by kernel_rfl,by kernel_rfl,by kernel_rfl⟩
@[go_sem] theorem zxa:fnOk Tryz.prog 95=true/\fnOk Tryz.prog 96=true/\fnOk Tryz.prog 100=true/\fnOk Tryz.prog 101=true/\fnOk Tryz.prog 102=true/\fnOk Tryz.prog 103=true/\fnOk Tryz.prog 104=true/\fnOk Tryz.prog 105=true/\fnOk Tryz.prog 112=true/\fnOk Tryz.prog 113=true/\fnOk Tryz.prog 114=true/\fnOk Tryz.prog 115=true:=⟨by kernel_rfl,by kernel_rfl,by kernel_rfl,by kernel_rfl,by kernel_rfl,by kernel_rfl,by kernel_rfl,by kernel_rfl,by kernel_rfl,by kernel_rfl,by kernel_rfl,by kernel_rfl⟩
@[go_sem] theorem zww:fnOk Tryz.prog 125=true/\fnOk Tryz.prog 126=true/\fnOk Tryz.prog 127=true/\fnOk Tryz.prog 128=true/\fnOk Tryz.prog 135=true/\fnOk Tryz.prog 136=true/\fnOk Tryz.prog 137=true/\fnOk Tryz.prog 140=true/\zV Tryz.prog 180=some (.agg [.int .i64 0])/\zV Tryz.prog 187=some (.agg [.int .i64 0,.int .i64 0])/\zV Tryz.prog 189=some (.agg [.int .i64 0,.int .i64 0]):=⟨by kernel_rfl,by kernel_rfl,by kernel_rfl,by kernel_rfl,by kernel_rfl,by kernel_rfl,by kernel_rfl,by kernel_rfl,by kernel_rfl,by kernel_rfl,by kernel_rfl⟩
@[go_sem] theorem zw9:Tryz.f4.results.toList=[.tmp 8]:=rfl
@[go_sem] theorem zw8:Tryz.f9.results.toList=[.tmp 4]:=rfl
@[go_sem] theorem zwu:Tryz.f10.results.toList=[.tmp 2]:=rfl
@[go_sem] theorem zwt:Tryz.f11.results.toList=[.tmp 0]:=rfl
@[go_sem] theorem zws:Tryz.f12.results.toList=[.tmp 2]:=rfl
@[go_sem] theorem zwr:Tryz.f13.results.toList=[.cell 6 30]:=rfl
@[go_sem] theorem zwq:Tryz.f14.results.toList=[.tmp 4]:=rfl
@[go_sem] theorem zwp:Tryz.f15.results.toList=[.tmp 2,.cell 3 37]:=rfl
@[go_sem] theorem zwo:Tryz.f16.results.toList=[.cell 2 30,.cell 3 37]:=rfl
@[go_sem] theorem zwn:Tryz.f17.results.toList=[.tmp 4]:=rfl
@[go_sem] theorem zwm:Tryz.f18.results.toList=[.tmp 2]:=rfl
@[go_sem] theorem zwl:Tryz.f19.results.toList=[.cell 2 30,.cell 3 37]:=rfl
@[go_sem] theorem zwk:Tryz.f20.results.toList=[.tmp 2]:=rfl
@[go_sem] theorem zwj:Tryz.f21.results.toList=[.tmp 2]:=rfl
@[go_sem] theorem zwi:Tryz.f22.results.toList=[.tmp 4]:=rfl
@[go_sem] theorem zwh:Tryz.f23.results.toList=[.cell 4 63]:=rfl
@[go_sem] theorem zwg:Tryz.f24.results.toList=[.tmp 2]:=rfl
@[go_sem] theorem zwf:Tryz.f25.results.toList=[.tmp 2]:=rfl
@[go_sem] theorem zwe:Tryz.f26.results.toList=[.tmp 2]:=rfl
@[go_sem] theorem zwd:Tryz.f27.results.toList=[.tmp 2]:=rfl
@[go_sem] theorem zwc:Tryz.f28.results.toList=[.tmp 2]:=rfl
@[go_sem] theorem zwb:Tryz.f29.results.toList=[.tmp 2,.tmp 3]:=rfl
@[go_sem] theorem zwa:Tryz.f30.results.toList=[.tmp 2,.tmp 3]:=rfl
@[go_sem] theorem zv9:Tryz.f31.results.toList=[.tmp 2,.cell 3 37]:=rfl
@[go_sem] theorem zv8:Tryz.f32.results.toList=[.tmp 2]:=rfl
@[go_sem] theorem zv7:Tryz.f33.results.toList=[.tmp 4]:=rfl
@[go_sem] theorem zv6:Tryz.f34.results.toList=[.tmp 4]:=rfl
@[go_sem] theorem zv5:Tryz.f35.results.toList=[.tmp 4]:=rfl
@[go_sem] theorem zv4:Tryz.f36.results.toList=[.tmp 2]:=rfl
@[go_sem] theorem zv3:Tryz.f37.results.toList=[.tmp 4]:=rfl
@[go_sem] theorem zv2:Tryz.f38.results.toList=[.tmp 2]:=rfl
@[go_sem] theorem zv1:Tryz.f39.results.toList=[]:=rfl
@[go_sem] theorem zv0:Tryz.f40.results.toList=[.tmp 4]:=rfl
@[go_sem] theorem zvZ:Tryz.f41.results.toList=[.tmp 2]:=rfl
@[go_sem] theorem zvY:Tryz.f42.results.toList=[.tmp 4]:=rfl
@[go_sem] theorem zvX:Tryz.f43.results.toList=[.tmp 2]:=rfl
@[go_sem] theorem zvW:Tryz.f44.results.toList=[.tmp 2]:=rfl
@[go_sem] theorem zvV:Tryz.f45.results.toList=[.tmp 4]:=rfl
@[go_sem] theorem zvU:Tryz.f46.results.toList=[.cell 2 61]:=rfl
@[go_sem] theorem zvT:Tryz.f47.results.toList=[.cell 4 61]:=rfl
@[go_sem] theorem zvS:Tryz.f48.results.toList=[.cell 2 61]:=rfl
@[go_sem] theorem zvR:Tryz.f49.results.toList=[.tmp 2]:=rfl
@[go_sem] theorem zvQ:Tryz.f50.results.toList=[.cell 4 37]:=rfl
@[go_sem] theorem zvP:Tryz.f51.results.toList=[.tmp 2]:=rfl
@[go_sem] theorem zvO:Tryz.f52.results.toList=[.tmp 4,.tmp 5]:=rfl
@[go_sem] theorem zvN:Tryz.f53.results.toList=[.tmp 4]:=rfl
@[go_sem] theorem zvM:Tryz.f54.results.toList=[.tmp 2,.tmp 3]:=rfl
@[go_sem] theorem zvL:Tryz.f55.results.toList=[.tmp 4]:=rfl
@[go_sem] theorem zvK:Tryz.f56.results.toList=[.tmp 6]:=rfl
@[go_sem] theorem zvJ:Tryz.f57.results.toList=[.tmp 2]:=rfl
@[go_sem] theorem zvI:Tryz.f58.results.toList=[.tmp 4]:=rfl
@[go_sem] theorem zvH:Tryz.f59.results.toList=[.tmp 4]:=rfl
@[go_sem] theorem zvG:Tryz.f60.results.toList=[.tmp 2]:=rfl
@[go_sem] theorem zvF:Tryz.f61.results.toList=[.tmp 2]:=rfl
@[go_sem] theorem zvE:Tryz.f62.results.toList=[.tmp 4]:=rfl
@[go_sem] theorem zvD:Tryz.f63.results.toList=[.tmp 4]:=rfl
@[go_sem] theorem zvC:Tryz.f64.results.toList=[.tmp 4]:=rfl
@[go_sem] theorem zvB:Tryz.f65.results.toList=[.tmp 2]:=rfl
@[go_sem] theorem zvA:Tryz.f66.results.toList=[.tmp 2]:=rfl
@[go_sem] theorem zvz:Tryz.f67.results.toList=[.tmp 2]:=rfl
@[go_sem] theorem zvy:Tryz.f68.results.toList=[.tmp 6]:=rfl
@[go_sem] theorem zvx:Tryz.f69.results.toList=[.tmp 2]:=rfl
@[go_sem] theorem zvw:Tryz.f70.results.toList=[.tmp 0]:=rfl
@[go_sem] theorem zvv:Tryz.f71.results.toList=[.tmp 0]:=rfl
@[go_sem] theorem zvu:Tryz.f72.results.toList=[.tmp 2]:=rfl
@[go_sem] theorem zvt:Tryz.f73.results.toList=[.tmp 2]:=rfl
@[go_sem] theorem zvs:Tryz.f76.results.toList=[.tmp 6,.tmp 7]:=rfl
@[go_sem] theorem zvr:Tryz.f77.results.toList=[.tmp 2]:=rfl
@[go_sem] theorem zvq:Tryz.f78.results.toList=[.tmp 2]:=rfl
@[go_sem] theorem zvp:Tryz.f80.results.toList=[.tmp 2]:=rfl
@[go_sem] theorem zvo:Tryz.f81.results.toList=[.tmp 4,.tmp 5]:=rfl
@[go_sem] theorem zvn:Tryz.f82.results.toList=[.tmp 6]:=rfl
@[go_sem] theorem zvm:Tryz.f83.results.toList=[.cell 4 63,.tmp 5]:=rfl
@[go_sem] theorem zvl:Tryz.f84.results.toList=[.tmp 0]:=rfl
@[go_sem] theorem zvk:Tryz.f85.results.toList=[.tmp 2]:=rfl
@[go_sem] theorem zvj:Tryz.f86.results.toList=[.tmp 2]:=rfl
@[go_sem] theorem zvi:Tryz.f87.results.toList=[.tmp 2]:=rfl
@[go_sem] theorem zvh:Tryz.f88.results.toList=[.tmp 2]:=rfl
@[go_sem] theorem zvg:Tryz.f92.results.toList=[.tmp 2,.tmp 3]:=rfl
@[go_sem] theorem zvf:Tryz.f93.results.toList=[.tmp 2,.tmp 3,.tmp 4]:=rfl
@[go_sem] theorem zve:Tryz.f94.results.toList=[.cell 4 63,.tmp 5]:=rfl
@[go_sem] theorem zvd:Tryz.f95.results.toList=[.tmp 2,.tmp 3,.tmp 4]:=rfl
@[go_sem] theorem zvc:Tryz.f96.results.toList=[.tmp 4]:=rfl
@[go_sem] theorem zuw:Tryz.f100.results.toList=[.tmp 0]:=rfl
@[go_sem] theorem zuv:Tryz.f101.results.toList=[.tmp 0]:=rfl
@[go_sem] theorem zuu:Tryz.f102.results.toList=[.tmp 0]:=rfl
@[go_sem] theorem zut:Tryz.f103.results.toList=[.tmp 4]:=rfl
@[go_sem] theorem zus:Tryz.f104.results.toList=[.tmp 2]:=rfl
@[go_sem] theorem zur:Tryz.f105.results.toList=[.cell 2 61,.tmp 3]:=rfl
@[go_sem] theorem zuq:Tryz.f112.results.toList=[.tmp 6]:=rfl
@[go_sem] theorem zup:Tryz.f113.results.toList=[.tmp 2]:=rfl
@[go_sem] theorem zuo:Tryz.f114.results.toList=[.tmp 2]:=rfl
@[go_sem] theorem zun:Tryz.f115.results.toList=[.tmp 2,.tmp 3]:=rfl
@[go_sem] theorem zum:Tryz.f125.results.toList=[.tmp 2]:=rfl
@[go_sem] theorem zul:Tryz.f126.results.toList=[.tmp 2]:=rfl
@[go_sem] theorem zuk:Tryz.f127.results.toList=[.tmp 2]:=rfl
@[go_sem] theorem zuj:Tryz.f128.results.toList=[.tmp 2]:=rfl
@[go_sem] theorem zui:Tryz.f135.results.toList=[.tmp 2,.tmp 3]:=rfl
@[go_sem] theorem zuh:Tryz.f136.results.toList=[.tmp 2]:=rfl
@[go_sem] theorem zug:Tryz.f137.results.toList=[.tmp 2,.tmp 3]:=rfl
@[go_sem] theorem zuf:Tryz.f140.results.toList=[.tmp 2]:=rfl
theorem zaw:Tryz.prog.follows .mixedOrders=true:=by kernel_rfl
end Go.Proofs.YtocjejladeeckaaGreatDoor
