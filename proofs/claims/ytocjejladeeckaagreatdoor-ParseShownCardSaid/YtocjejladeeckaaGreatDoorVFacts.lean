import Derived.Test.YtocjejladeeckaaGreatDoorProg
import Derived.Test.YtocjejladeeckaaGreatDoorVu3
import Derived.KernelRfl
set_option linter.all false
set_option maxRecDepth 100000
namespace Go.Proofs.YtocjejladeeckaaGreatDoor
open Go.Vs
@[go_sem] theorem zzs:zbC Tryz.prog 2=some false/\tsz Tryz.prog 2=some 1/\zcx Tryz.prog 2=some 8/\zb1 Tryz.prog 2=some [.int .i64 0]/\zh8 Tryz.prog 2=some .i64/\(Tryz.prog.underlying 2).isSome=true/\zfN Tryz.prog 2=false/\zel Tryz.prog 2=false/\zaH Tryz.prog 2=none/\zds Tryz.prog 2=some false/\zbC Tryz.prog 3=some false/\tsz Tryz.prog 3=some 1:=⟨by kernel_rfl,by kernel_rfl,by kernel_rfl,by kernel_rfl,by kernel_rfl,by kernel_rfl,by kernel_rfl,by kernel_rfl,by kernel_rfl,by kernel_rfl,by kernel_rfl,by kernel_rfl⟩
@[go_sem] theorem zzI:zcx Tryz.prog 3=some 8/\zb1 Tryz.prog 3=some [.int .i64 0]/\(Tryz.prog.underlying 3).isSome=true/\zfN Tryz.prog 3=false/\zaH Tryz.prog 3=none/\zg7 Tryz.prog 3=false/\zds Tryz.prog 3=some false/\zbC Tryz.prog 4=some false/\tsz Tryz.prog 4=some 1/\zfN Tryz.prog 4=true/\zaH Tryz.prog 4=none/\zds Tryz.prog 4=some false:=⟨by kernel_rfl,by kernel_rfl,by kernel_rfl,by kernel_rfl,by kernel_rfl,by kernel_rfl,by kernel_rfl,by kernel_rfl,by kernel_rfl,by kernel_rfl,by kernel_rfl,by kernel_rfl⟩
@[go_sem] theorem zzH:tsz Tryz.prog 5=some 1/\zb1 Tryz.prog 5=some [.int .u8 0]/\zh8 Tryz.prog 5=some .u8/\(Tryz.prog.underlying 5).isSome=true/\zfN Tryz.prog 5=false/\zel Tryz.prog 5=false/\zaH Tryz.prog 5=none/\zg7 Tryz.prog 5=false/\zds Tryz.prog 5=some false/\zbC Tryz.prog 9=some false/\tsz Tryz.prog 9=some 1/\zcx Tryz.prog 9=some 16:=⟨by kernel_rfl,by kernel_rfl,by kernel_rfl,by kernel_rfl,by kernel_rfl,by kernel_rfl,by kernel_rfl,by kernel_rfl,by kernel_rfl,by kernel_rfl,by kernel_rfl,by kernel_rfl⟩
@[go_sem] theorem zxa:zb1 Tryz.prog 9=some [.str ⟨#[]⟩]/\zfN Tryz.prog 9=false/\zel Tryz.prog 9=true/\zaH Tryz.prog 9=none/\zds Tryz.prog 9=some false/\zbC Tryz.prog 21=some false/\tsz Tryz.prog 21=some 1/\zfN Tryz.prog 21=false/\zaH Tryz.prog 21=none/\zds Tryz.prog 21=some false/\zaH Tryz.prog 25=some 65/\zbC Tryz.prog 27=some false:=⟨by kernel_rfl,by kernel_rfl,by kernel_rfl,by kernel_rfl,by kernel_rfl,by kernel_rfl,by kernel_rfl,by kernel_rfl,by kernel_rfl,by kernel_rfl,by kernel_rfl,by kernel_rfl⟩
@[go_sem] theorem zzg:tsz Tryz.prog 27=some 1/\zel Tryz.prog 27=false/\zaH Tryz.prog 27=some 54/\zbC Tryz.prog 28=some false/\tsz Tryz.prog 28=some 1/\zel Tryz.prog 28=false/\zaH Tryz.prog 28=some 59/\zbC Tryz.prog 30=some true/\tsz Tryz.prog 30=some 2/\zb1 Tryz.prog 30=some [.nils,.nils]/\plc Tryz.prog 30=some [(0,1),(1,1)]/\zbC Tryz.prog 34=some false:=⟨by kernel_rfl,by kernel_rfl,by kernel_rfl,by kernel_rfl,by kernel_rfl,by kernel_rfl,by kernel_rfl,by kernel_rfl,by kernel_rfl,by kernel_rfl,by kernel_rfl,by kernel_rfl⟩
@[go_sem] theorem zzf:tsz Tryz.prog 34=some 1/\zcx Tryz.prog 34=some 24/\zb1 Tryz.prog 34=some [.nils]/\zel Tryz.prog 34=false/\zaH Tryz.prog 34=some 41/\zbC Tryz.prog 35=some false/\tsz Tryz.prog 35=some 1/\zfN Tryz.prog 35=false/\zaH Tryz.prog 35=none/\zds Tryz.prog 35=some false/\zbC Tryz.prog 37=some true/\tsz Tryz.prog 37=some 3:=⟨by kernel_rfl,by kernel_rfl,by kernel_rfl,by kernel_rfl,by kernel_rfl,by kernel_rfl,by kernel_rfl,by kernel_rfl,by kernel_rfl,by kernel_rfl,by kernel_rfl,by kernel_rfl⟩
@[go_sem] theorem zvX:zb1 Tryz.prog 37=some [.int .i64 0,.int .i64 0,.int .i64 0]/\plc Tryz.prog 37=some [(0,1),(1,1),(2,1)]/\zfN Tryz.prog 37=false/\zaH Tryz.prog 37=none/\zds Tryz.prog 37=some false/\zbC Tryz.prog 41=some true/\tsz Tryz.prog 41=some 4/\zcx Tryz.prog 41=some 40/\zb1 Tryz.prog 41=some [.int .i64 0,.int .i64 0,.int .i64 0,.str ⟨#[]⟩]/\plc Tryz.prog 41=some [(0,1),(1,1),(2,1),(3,1)]/\zbC Tryz.prog 42=some false/\tsz Tryz.prog 42=some 1:=⟨by kernel_rfl,by kernel_rfl,by kernel_rfl,by kernel_rfl,by kernel_rfl,by kernel_rfl,by kernel_rfl,by kernel_rfl,by kernel_rfl,by kernel_rfl,by kernel_rfl,by kernel_rfl⟩
@[go_sem] theorem zxb:zel Tryz.prog 42=false/\zaH Tryz.prog 42=some 9/\zaH Tryz.prog 49=some 50/\zbC Tryz.prog 50=some false/\tsz Tryz.prog 50=some 1/\zel Tryz.prog 50=false/\zaH Tryz.prog 50=some 3/\zbC Tryz.prog 52=some false/\tsz Tryz.prog 52=some 1/\zel Tryz.prog 52=false/\zaH Tryz.prog 52=some 2/\zbC Tryz.prog 54=some true:=⟨by kernel_rfl,by kernel_rfl,by kernel_rfl,by kernel_rfl,by kernel_rfl,by kernel_rfl,by kernel_rfl,by kernel_rfl,by kernel_rfl,by kernel_rfl,by kernel_rfl,by kernel_rfl⟩
@[go_sem] theorem zze:tsz Tryz.prog 54=some 3/\zcx Tryz.prog 54=some 48/\zb1 Tryz.prog 54=some [.str ⟨#[]⟩,.int .i64 0,.nils]/\plc Tryz.prog 54=some [(0,1),(1,1),(2,1)]/\zbC Tryz.prog 57=some false/\tsz Tryz.prog 57=some 1/\zel Tryz.prog 57=false/\zaH Tryz.prog 57=some 63/\zbC Tryz.prog 59=some true/\tsz Tryz.prog 59=some 1/\zcx Tryz.prog 59=some 24/\zb1 Tryz.prog 59=some [.nils]:=⟨by kernel_rfl,by kernel_rfl,by kernel_rfl,by kernel_rfl,by kernel_rfl,by kernel_rfl,by kernel_rfl,by kernel_rfl,by kernel_rfl,by kernel_rfl,by kernel_rfl,by kernel_rfl⟩
@[go_sem] theorem zyx:plc Tryz.prog 59=some [(0,1)]/\zbC Tryz.prog 61=some true/\tsz Tryz.prog 61=some 4/\zb1 Tryz.prog 61=some [.int .i64 0,.int .i64 0,.int .i64 0,.int .i64 0]/\plc Tryz.prog 61=some [(0,1),(1,1),(2,1),(3,1)]/\zfN Tryz.prog 61=false/\zaH Tryz.prog 61=none/\zds Tryz.prog 61=some false/\zbC Tryz.prog 63=some true/\tsz Tryz.prog 63=some 13/\zcx Tryz.prog 63=some 128/\zb1 Tryz.prog 63=some [.int .i64 0,.bool false,.int .i64 0,.int .i64 0,.int .i64 0,.int .i64 0,.int .i64 0,.int .i64 0,.int .i64 0,.int .i64 0,.int .i64 0,.str ⟨#[]⟩,.nils]:=⟨by kernel_rfl,by kernel_rfl,by kernel_rfl,by kernel_rfl,by kernel_rfl,by kernel_rfl,by kernel_rfl,by kernel_rfl,by kernel_rfl,by kernel_rfl,by kernel_rfl,by kernel_rfl⟩
@[go_sem] theorem zyw:plc Tryz.prog 63=some [(0,1),(1,1),(2,1),(3,4),(7,4),(11,1),(12,1)]/\zbC Tryz.prog 65=some false/\tsz Tryz.prog 65=some 1/\zel Tryz.prog 65=false/\zaH Tryz.prog 65=some 68/\zbC Tryz.prog 68=some true/\tsz Tryz.prog 68=some 5/\plc Tryz.prog 68=some [(0,1),(1,1),(2,1),(3,1),(4,1)]/\zaH Tryz.prog 70=some 73/\zbC Tryz.prog 73=some true/\tsz Tryz.prog 73=some 6/\zcx Tryz.prog 73=some 48:=⟨by kernel_rfl,by kernel_rfl,by kernel_rfl,by kernel_rfl,by kernel_rfl,by kernel_rfl,by kernel_rfl,by kernel_rfl,by kernel_rfl,by kernel_rfl,by kernel_rfl,by kernel_rfl⟩
@[go_sem] theorem zvW:zb1 Tryz.prog 73=some [.int .i32 0,.int .i64 0,.int .i64 0,.int .i64 0,.int .i64 0,.bool false]/\plc Tryz.prog 73=some [(0,1),(1,1),(2,1),(3,1),(4,1),(5,1)]/\zbC Tryz.prog 80=some false/\tsz Tryz.prog 80=some 1/\zel Tryz.prog 80=false/\zaH Tryz.prog 80=some 109/\zb1 Tryz.prog 82=some [.nils,.int .i64 0,.nils,.nils,.nils,.int .i64 0,.int .i64 0,.int .i64 0]/\plc Tryz.prog 82=some [(0,1),(1,1),(2,2),(4,1),(5,3)]/\zbC Tryz.prog 88=some false/\tsz Tryz.prog 88=some 1/\zaH Tryz.prog 88=some 34/\zb1 Tryz.prog 90=some [.nils,.int .i64 0,.nils,.nils,.nils,.nils,.nils,.nils,.nils,.nils,.int .i64 0,.int .i64 0,.int .i64 0]:=⟨by kernel_rfl,by kernel_rfl,by kernel_rfl,by kernel_rfl,by kernel_rfl,by kernel_rfl,by kernel_rfl,by kernel_rfl,by kernel_rfl,by kernel_rfl,by kernel_rfl,by kernel_rfl⟩
@[go_sem] theorem zyv:plc Tryz.prog 90=some [(0,1),(1,1),(2,2),(4,1),(5,1),(6,1),(7,1),(8,1),(9,1),(10,3)]/\zh8 Tryz.prog 91=some .u64/\(Tryz.prog.underlying 91).isSome=true/\zel Tryz.prog 91=false/\zg7 Tryz.prog 91=false/\zaH Tryz.prog 92=some 5/\zg7 Tryz.prog 92=true/\zaH Tryz.prog 99=some 101/\zbC Tryz.prog 101=some true/\tsz Tryz.prog 101=some 6/\zcx Tryz.prog 101=some 48/\zb1 Tryz.prog 101=some [.int .i32 0,.int .i64 0,.int .i64 0,.int .i64 0,.int .i64 0,.bool false]:=⟨by kernel_rfl,by kernel_rfl,by kernel_rfl,by kernel_rfl,by kernel_rfl,by kernel_rfl,by kernel_rfl,by kernel_rfl,by kernel_rfl,by kernel_rfl,by kernel_rfl,by kernel_rfl⟩
@[go_sem] theorem zwg:plc Tryz.prog 101=some [(0,1),(1,1),(2,1),(3,1),(4,1),(5,1)]/\zbC Tryz.prog 107=some false/\tsz Tryz.prog 107=some 1/\zbC Tryz.prog 109=some true/\tsz Tryz.prog 109=some 8/\zcx Tryz.prog 109=some 120/\zb1 Tryz.prog 109=some [.int .i64 0,.int .i64 0,.int .i64 0,.str ⟨#[]⟩,.nilmap,.nils,.nils,.nils]/\plc Tryz.prog 109=some [(0,4),(4,1),(5,1),(6,1),(7,1)]/\tsz Tryz.prog 180=some 1/\zb1 Tryz.prog 180=some [.int .i64 0]/\plc Tryz.prog 180=some [(0,1)]/\zds Tryz.prog 180=some false:=⟨by kernel_rfl,by kernel_rfl,by kernel_rfl,by kernel_rfl,by kernel_rfl,by kernel_rfl,by kernel_rfl,by kernel_rfl,by kernel_rfl,by kernel_rfl,by kernel_rfl,by kernel_rfl⟩
@[go_sem] theorem zuE:zb1 Tryz.prog 185=some [.int .i64 0]/\plc Tryz.prog 185=some [(0,1)]/\zds Tryz.prog 185=some false/\tsz Tryz.prog 187=some 2/\zb1 Tryz.prog 187=some [.int .i64 0,.int .i64 0]/\plc Tryz.prog 187=some [(0,1),(1,1)]/\zds Tryz.prog 187=some false/\tsz Tryz.prog 189=some 2/\zb1 Tryz.prog 189=some [.int .i64 0,.int .i64 0]/\plc Tryz.prog 189=some [(0,1),(1,1)]/\zds Tryz.prog 189=some false/\zqG Tryz.prog 107=some (9,4):=⟨by kernel_rfl,by kernel_rfl,by kernel_rfl,by kernel_rfl,by kernel_rfl,by kernel_rfl,by kernel_rfl,by kernel_rfl,by kernel_rfl,by kernel_rfl,by kernel_rfl,by kernel_rfl⟩
@[go_sem] theorem zzG:zrw Tryz.prog 4=some (.bool false)/\eqOk Tryz.prog 37=some [1,1,1]/\eqOk Tryz.prog 61=some [1,1,1,1]/\fnOk Tryz.prog 9=true/\fnOk Tryz.prog 10=true/\fnOk Tryz.prog 11=true/\fnOk Tryz.prog 12=true/\fnOk Tryz.prog 13=true/\fnOk Tryz.prog 14=true/\fnOk Tryz.prog 15=true/\fnOk Tryz.prog 16=true/\fnOk Tryz.prog 17=true:=⟨by kernel_rfl,by kernel_rfl,by kernel_rfl,by kernel_rfl,by kernel_rfl,by kernel_rfl,by kernel_rfl,by kernel_rfl,by kernel_rfl,by kernel_rfl,by kernel_rfl,by kernel_rfl⟩
@[go_sem] theorem zzr:fnOk Tryz.prog 18=true/\fnOk Tryz.prog 19=true/\fnOk Tryz.prog 20=true/\fnOk Tryz.prog 21=true/\fnOk Tryz.prog 22=true/\fnOk Tryz.prog 23=true/\fnOk Tryz.prog 24=true/\fnOk Tryz.prog 25=true/\fnOk Tryz.prog 26=true/\fnOk Tryz.prog 27=true/\fnOk Tryz.prog 28=true/\fnOk Tryz.prog 29=true:=⟨by kernel_rfl,by kernel_rfl,by kernel_rfl,by kernel_rfl,by kernel_rfl,by kernel_rfl,by kernel_rfl,by kernel_rfl,by kernel_rfl,by kernel_rfl,by kernel_rfl,by kernel_rfl⟩
@[go_sem] theorem zzq:fnOk Tryz.prog 30=true/\fnOk Tryz.prog 31=true/\fnOk Tryz.prog 32=true/\fnOk Tryz.prog 33=true/\fnOk Tryz.prog 34=true/\fnOk Tryz.prog 35=true/\fnOk Tryz.prog 36=true/\fnOk Tryz.prog 37=true/\fnOk Tryz.prog 38=true/\fnOk Tryz.prog 39=true/\fnOk Tryz.prog 40=true/\fnOk Tryz.prog 41=true:=⟨by kernel_rfl,by kernel_rfl,by kernel_rfl,by kernel_rfl,by kernel_rfl,by kernel_rfl,by kernel_rfl,by kernel_rfl,by kernel_rfl,by kernel_rfl,by kernel_rfl,by kernel_rfl⟩
@[go_sem] theorem zzp:fnOk Tryz.prog 42=true/\fnOk Tryz.prog 43=true/\fnOk Tryz.prog 44=true/\fnOk Tryz.prog 45=true/\fnOk Tryz.prog 46=true/\fnOk Tryz.prog 47=true/\fnOk Tryz.prog 48=true/\fnOk Tryz.prog 49=true/\fnOk Tryz.prog 50=true/\fnOk Tryz.prog 51=true/\fnOk Tryz.prog 52=true/\fnOk Tryz.prog 53=true:=⟨by kernel_rfl,by kernel_rfl,by kernel_rfl,by kernel_rfl,by kernel_rfl,by kernel_rfl,by kernel_rfl,by kernel_rfl,by kernel_rfl,by kernel_rfl,by kernel_rfl,by kernel_rfl⟩
@[go_sem] theorem zzo:fnOk Tryz.prog 54=true/\fnOk Tryz.prog 55=true/\fnOk Tryz.prog 56=true/\fnOk Tryz.prog 57=true/\fnOk Tryz.prog 58=true/\fnOk Tryz.prog 59=true/\fnOk Tryz.prog 60=true/\fnOk Tryz.prog 61=true/\fnOk Tryz.prog 62=true/\fnOk Tryz.prog 63=true/\fnOk Tryz.prog 64=true/\fnOk Tryz.prog 65=true:=⟨by kernel_rfl,by kernel_rfl,by kernel_rfl,by kernel_rfl,by kernel_rfl,by kernel_rfl,by kernel_rfl,by kernel_rfl,by kernel_rfl,by kernel_rfl,by kernel_rfl,by kernel_rfl⟩
@[go_sem] theorem zzn:fnOk Tryz.prog 66=true/\fnOk Tryz.prog 67=true/\fnOk Tryz.prog 68=true/\fnOk Tryz.prog 69=true/\fnOk Tryz.prog 70=true/\fnOk Tryz.prog 71=true/\fnOk Tryz.prog 72=true/\fnOk Tryz.prog 73=true/\fnOk Tryz.prog 74=true/\fnOk Tryz.prog 75=true/\fnOk Tryz.prog 76=true/\fnOk Tryz.prog 77=true:=⟨by kernel_rfl,by kernel_rfl,by kernel_rfl,by kernel_rfl,by kernel_rfl,by kernel_rfl,by kernel_rfl,by kernel_rfl,by kernel_rfl,by kernel_rfl,by kernel_rfl,by kernel_rfl⟩
@[go_sem] theorem zzm:fnOk Tryz.prog 78=true/\fnOk Tryz.prog 79=true/\fnOk Tryz.prog 80=true/\fnOk Tryz.prog 81=true/\fnOk Tryz.prog 82=true/\fnOk Tryz.prog 83=true/\fnOk Tryz.prog 84=true/\fnOk Tryz.prog 85=true/\fnOk Tryz.prog 86=true/\fnOk Tryz.prog 87=true/\fnOk Tryz.prog 88=true/\fnOk Tryz.prog 92=true:=⟨by kernel_rfl,by kernel_rfl,by kernel_rfl,by kernel_rfl,by kernel_rfl,by kernel_rfl,by kernel_rfl,by kernel_rfl,by kernel_rfl,by kernel_rfl,by kernel_rfl,by kernel_rfl⟩
@[go_sem] theorem zzl:fnOk Tryz.prog 93=true/\fnOk Tryz.prog 94=true/\fnOk Tryz.prog 95=true/\fnOk Tryz.prog 96=true/\fnOk Tryz.prog 100=true/\fnOk Tryz.prog 101=true/\fnOk Tryz.prog 102=true/\fnOk Tryz.prog 103=true/\fnOk Tryz.prog 104=true/\fnOk Tryz.prog 105=true/\fnOk Tryz.prog 112=true/\fnOk Tryz.prog 113=true:=⟨by kernel_rfl,by kernel_rfl,by kernel_rfl,by kernel_rfl,by kernel_rfl,by kernel_rfl,by kernel_rfl,by kernel_rfl,by kernel_rfl,by kernel_rfl,by kernel_rfl,by kernel_rfl⟩
@[go_sem] theorem zyy:fnOk Tryz.prog 114=true/\fnOk Tryz.prog 115=true/\fnOk Tryz.prog 125=true/\fnOk Tryz.prog 126=true/\fnOk Tryz.prog 127=true/\fnOk Tryz.prog 128=true/\fnOk Tryz.prog 135=true/\fnOk Tryz.prog 136=true/\fnOk Tryz.prog 137=true/\fnOk Tryz.prog 140=true/\zV Tryz.prog 180=some (.agg [.int .i64 0])/\zV Tryz.prog 187=some (.agg [.int .i64 0,.int .i64 0]):=⟨by kernel_rfl,by kernel_rfl,by kernel_rfl,by kernel_rfl,by kernel_rfl,by kernel_rfl,by kernel_rfl,by kernel_rfl,by kernel_rfl,by kernel_rfl,by kernel_rfl,by kernel_rfl⟩
@[go_sem] theorem zw9:zV Tryz.prog 189=some (.agg [.int .i64 0,.int .i64 0]):=by kernel_rfl
@[go_sem] theorem zzk:Tryz.f4.results.toList=[.tmp 8]:=rfl
@[go_sem] theorem zzj:Tryz.f7.results.toList=[.tmp 2]:=rfl
@[go_sem] theorem zzi:Tryz.f8.results.toList=[.tmp 2]:=rfl
@[go_sem] theorem zzh:Tryz.f9.results.toList=[.tmp 4]:=rfl
@[go_sem] theorem zyu:Tryz.f10.results.toList=[.tmp 2]:=rfl
@[go_sem] theorem zyt:Tryz.f11.results.toList=[.tmp 0]:=rfl
@[go_sem] theorem zys:Tryz.f12.results.toList=[.tmp 2]:=rfl
@[go_sem] theorem zyr:Tryz.f13.results.toList=[.cell 6 30]:=rfl
@[go_sem] theorem zyq:Tryz.f14.results.toList=[.tmp 4]:=rfl
@[go_sem] theorem zyp:Tryz.f15.results.toList=[.tmp 2,.cell 3 37]:=rfl
@[go_sem] theorem zyo:Tryz.f16.results.toList=[.cell 2 30,.cell 3 37]:=rfl
@[go_sem] theorem zyn:Tryz.f17.results.toList=[.tmp 4]:=rfl
@[go_sem] theorem zym:Tryz.f18.results.toList=[.tmp 2]:=rfl
@[go_sem] theorem zyl:Tryz.f19.results.toList=[.cell 2 30,.cell 3 37]:=rfl
@[go_sem] theorem zyk:Tryz.f20.results.toList=[.tmp 2]:=rfl
@[go_sem] theorem zyj:Tryz.f21.results.toList=[.tmp 2]:=rfl
@[go_sem] theorem zyi:Tryz.f22.results.toList=[.tmp 4]:=rfl
@[go_sem] theorem zyh:Tryz.f23.results.toList=[.cell 4 63]:=rfl
@[go_sem] theorem zyg:Tryz.f24.results.toList=[.tmp 2]:=rfl
@[go_sem] theorem zyf:Tryz.f25.results.toList=[.tmp 2]:=rfl
@[go_sem] theorem zye:Tryz.f26.results.toList=[.tmp 2]:=rfl
@[go_sem] theorem zyd:Tryz.f27.results.toList=[.tmp 2]:=rfl
@[go_sem] theorem zyc:Tryz.f28.results.toList=[.tmp 2]:=rfl
@[go_sem] theorem zyb:Tryz.f29.results.toList=[.tmp 2,.tmp 3]:=rfl
@[go_sem] theorem zya:Tryz.f30.results.toList=[.tmp 2,.tmp 3]:=rfl
@[go_sem] theorem zx9:Tryz.f31.results.toList=[.tmp 2,.cell 3 37]:=rfl
@[go_sem] theorem zx8:Tryz.f32.results.toList=[.tmp 2]:=rfl
@[go_sem] theorem zx7:Tryz.f33.results.toList=[.tmp 4]:=rfl
@[go_sem] theorem zx6:Tryz.f34.results.toList=[.tmp 4]:=rfl
@[go_sem] theorem zx5:Tryz.f35.results.toList=[.tmp 4]:=rfl
@[go_sem] theorem zx4:Tryz.f36.results.toList=[.tmp 2]:=rfl
@[go_sem] theorem zx3:Tryz.f37.results.toList=[.tmp 4]:=rfl
@[go_sem] theorem zx2:Tryz.f38.results.toList=[.tmp 2]:=rfl
@[go_sem] theorem zx1:Tryz.f39.results.toList=[]:=rfl
@[go_sem] theorem zx0:Tryz.f40.results.toList=[.tmp 4]:=rfl
@[go_sem] theorem zxZ:Tryz.f41.results.toList=[.tmp 2]:=rfl
@[go_sem] theorem zxY:Tryz.f42.results.toList=[.tmp 4]:=rfl
@[go_sem] theorem zxX:Tryz.f43.results.toList=[.tmp 2]:=rfl
@[go_sem] theorem zxW:Tryz.f44.results.toList=[.tmp 2]:=rfl
@[go_sem] theorem zxV:Tryz.f45.results.toList=[.tmp 4]:=rfl
@[go_sem] theorem zxU:Tryz.f46.results.toList=[.cell 2 61]:=rfl
@[go_sem] theorem zxT:Tryz.f47.results.toList=[.cell 4 61]:=rfl
@[go_sem] theorem zxS:Tryz.f48.results.toList=[.cell 2 61]:=rfl
@[go_sem] theorem zxR:Tryz.f49.results.toList=[.tmp 2]:=rfl
@[go_sem] theorem zxQ:Tryz.f50.results.toList=[.cell 4 37]:=rfl
@[go_sem] theorem zxP:Tryz.f51.results.toList=[.tmp 2]:=rfl
@[go_sem] theorem zxO:Tryz.f52.results.toList=[.tmp 4,.tmp 5]:=rfl
@[go_sem] theorem zxN:Tryz.f53.results.toList=[.tmp 4]:=rfl
@[go_sem] theorem zxM:Tryz.f54.results.toList=[.tmp 2,.tmp 3]:=rfl
@[go_sem] theorem zxL:Tryz.f55.results.toList=[.tmp 4]:=rfl
@[go_sem] theorem zxK:Tryz.f56.results.toList=[.tmp 6]:=rfl
@[go_sem] theorem zxJ:Tryz.f57.results.toList=[.tmp 2]:=rfl
@[go_sem] theorem zxI:Tryz.f58.results.toList=[.tmp 4]:=rfl
@[go_sem] theorem zxH:Tryz.f59.results.toList=[.tmp 4]:=rfl
@[go_sem] theorem zxG:Tryz.f60.results.toList=[.tmp 2]:=rfl
@[go_sem] theorem zxF:Tryz.f61.results.toList=[.tmp 2]:=rfl
@[go_sem] theorem zxE:Tryz.f62.results.toList=[.tmp 4]:=rfl
@[go_sem] theorem zxD:Tryz.f63.results.toList=[.tmp 4]:=rfl
@[go_sem] theorem zxC:Tryz.f64.results.toList=[.tmp 4]:=rfl
@[go_sem] theorem zxB:Tryz.f65.results.toList=[.tmp 2]:=rfl
@[go_sem] theorem zxA:Tryz.f66.results.toList=[.tmp 2]:=rfl
@[go_sem] theorem zxz:Tryz.f67.results.toList=[.tmp 2]:=rfl
@[go_sem] theorem zxy:Tryz.f68.results.toList=[.tmp 6]:=rfl
@[go_sem] theorem zxx:Tryz.f69.results.toList=[.tmp 2]:=rfl
@[go_sem] theorem zxw:Tryz.f70.results.toList=[.tmp 0]:=rfl
@[go_sem] theorem zxv:Tryz.f71.results.toList=[.tmp 0]:=rfl
@[go_sem] theorem zxu:Tryz.f72.results.toList=[.tmp 2]:=rfl
@[go_sem] theorem zxt:Tryz.f73.results.toList=[.tmp 2]:=rfl
@[go_sem] theorem zxs:Tryz.f76.results.toList=[.tmp 6,.tmp 7]:=rfl
@[go_sem] theorem zxr:Tryz.f77.results.toList=[.tmp 2]:=rfl
@[go_sem] theorem zxq:Tryz.f78.results.toList=[.tmp 2]:=rfl
@[go_sem] theorem zxp:Tryz.f80.results.toList=[.tmp 2]:=rfl
@[go_sem] theorem zxo:Tryz.f81.results.toList=[.tmp 4,.tmp 5]:=rfl
@[go_sem] theorem zxn:Tryz.f82.results.toList=[.tmp 6]:=rfl
@[go_sem] theorem zxm:Tryz.f83.results.toList=[.cell 4 63,.tmp 5]:=rfl
@[go_sem] theorem zxl:Tryz.f84.results.toList=[.tmp 0]:=rfl
@[go_sem] theorem zxk:Tryz.f85.results.toList=[.tmp 2]:=rfl
@[go_sem] theorem zxj:Tryz.f86.results.toList=[.tmp 2]:=rfl
@[go_sem] theorem zxi:Tryz.f87.results.toList=[.tmp 2]:=rfl
@[go_sem] theorem zxh:Tryz.f88.results.toList=[.tmp 2]:=rfl
@[go_sem] theorem zxg:Tryz.f92.results.toList=[.tmp 2,.tmp 3]:=rfl
@[go_sem] theorem zxf:Tryz.f93.results.toList=[.tmp 2,.tmp 3,.tmp 4]:=rfl
@[go_sem] theorem zxe:Tryz.f94.results.toList=[.cell 4 63,.tmp 5]:=rfl
@[go_sem] theorem zxd:Tryz.f95.results.toList=[.tmp 2,.tmp 3,.tmp 4]:=rfl
@[go_sem] theorem zxc:Tryz.f96.results.toList=[.tmp 4]:=rfl
@[go_sem] theorem zwf:Tryz.f100.results.toList=[.tmp 0]:=rfl
@[go_sem] theorem zwe:Tryz.f101.results.toList=[.tmp 0]:=rfl
@[go_sem] theorem zwd:Tryz.f102.results.toList=[.tmp 0]:=rfl
@[go_sem] theorem zwc:Tryz.f103.results.toList=[.tmp 4]:=rfl
@[go_sem] theorem zwb:Tryz.f104.results.toList=[.tmp 2]:=rfl
@[go_sem] theorem zwa:Tryz.f105.results.toList=[.cell 2 61,.tmp 3]:=rfl
@[go_sem] theorem zv9:Tryz.f112.results.toList=[.tmp 6]:=rfl
@[go_sem] theorem zv8:Tryz.f113.results.toList=[.tmp 2]:=rfl
@[go_sem] theorem zv7:Tryz.f114.results.toList=[.tmp 2]:=rfl
@[go_sem] theorem zv6:Tryz.f115.results.toList=[.tmp 2,.tmp 3]:=rfl
@[go_sem] theorem zv5:Tryz.f125.results.toList=[.tmp 2]:=rfl
@[go_sem] theorem zv4:Tryz.f126.results.toList=[.tmp 2]:=rfl
@[go_sem] theorem zv3:Tryz.f127.results.toList=[.tmp 2]:=rfl
@[go_sem] theorem zv2:Tryz.f128.results.toList=[.tmp 2]:=rfl
@[go_sem] theorem zv1:Tryz.f135.results.toList=[.tmp 2,.tmp 3]:=rfl
@[go_sem] theorem zv0:Tryz.f136.results.toList=[.tmp 2]:=rfl
@[go_sem] theorem zvZ:Tryz.f137.results.toList=[.tmp 2,.tmp 3]:=rfl
@[go_sem] theorem zvY:Tryz.f140.results.toList=[.tmp 2]:=rfl
theorem zaI:Tryz.prog.follows .mixedOrders=true:=by kernel_rfl
end Go.Proofs.YtocjejladeeckaaGreatDoor
