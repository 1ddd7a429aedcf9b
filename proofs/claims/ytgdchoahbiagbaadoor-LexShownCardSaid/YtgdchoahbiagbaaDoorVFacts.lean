import Derived.Test.YtgdchoahbiagbaaDoorProg
import Derived.Test.YtgdchoahbiagbaaDoorVu3
import Derived.KernelRfl
set_option linter.unusedVariables false
set_option maxRecDepth 100000
set_option linter.unusedSectionVars false
namespace Go.Proofs.YtgdchoahbiagbaaDoor
open Go.Vs
@[go_sem] theorem v_agg2:aggOf Tryd.prog 2=some false:=by kernel_rfl
@[go_sem] theorem v_sz2:tsz Tryd.prog 2=some 1:=by kernel_rfl
@[go_sem] theorem v_by2:bytesOf Tryd.prog 2=some 8:=by kernel_rfl
@[go_sem] theorem v_zero2:tzero Tryd.prog 2=some [.int .i64 0]:=by kernel_rfl
@[go_sem] theorem v_ik2:intKind Tryd.prog 2=some .i64:=by kernel_rfl
@[go_sem] theorem v_un2:(Tryd.prog.underlying 2).isSome=true:=by kernel_rfl
@[go_sem] theorem v_bool2:isBool Tryd.prog 2=false:=by kernel_rfl
@[go_sem] theorem v_str2:isStr Tryd.prog 2=false:=by kernel_rfl
@[go_sem] theorem v_el2:elemOf' Tryd.prog 2=none:=by kernel_rfl
@[go_sem] theorem v_isb2:isBytes Tryd.prog 2=false:=by kernel_rfl
@[go_sem] theorem v_if2:ifaceB Tryd.prog 2=some false:=by kernel_rfl
@[go_sem] theorem v_agg3:aggOf Tryd.prog 3=some false:=by kernel_rfl
@[go_sem] theorem v_sz3:tsz Tryd.prog 3=some 1:=by kernel_rfl
@[go_sem] theorem v_by3:bytesOf Tryd.prog 3=some 8:=by kernel_rfl
@[go_sem] theorem v_zero3:tzero Tryd.prog 3=some [.int .i64 0]:=by kernel_rfl
@[go_sem] theorem v_ik3:intKind Tryd.prog 3=some .i64:=by kernel_rfl
@[go_sem] theorem v_un3:(Tryd.prog.underlying 3).isSome=true:=by kernel_rfl
@[go_sem] theorem v_bool3:isBool Tryd.prog 3=false:=by kernel_rfl
@[go_sem] theorem v_str3:isStr Tryd.prog 3=false:=by kernel_rfl
@[go_sem] theorem v_el3:elemOf' Tryd.prog 3=none:=by kernel_rfl
@[go_sem] theorem v_isb3:isBytes Tryd.prog 3=false:=by kernel_rfl
@[go_sem] theorem v_if3:ifaceB Tryd.prog 3=some false:=by kernel_rfl
@[go_sem] theorem v_agg4:aggOf Tryd.prog 4=some false:=by kernel_rfl
@[go_sem] theorem v_sz4:tsz Tryd.prog 4=some 1:=by kernel_rfl
@[go_sem] theorem v_by4:bytesOf Tryd.prog 4=some 1:=by kernel_rfl
@[go_sem] theorem v_zero4:tzero Tryd.prog 4=some [.bool false]:=by kernel_rfl
@[go_sem] theorem v_un4:(Tryd.prog.underlying 4).isSome=true:=by kernel_rfl
@[go_sem] theorem v_bool4:isBool Tryd.prog 4=true:=by kernel_rfl
@[go_sem] theorem v_str4:isStr Tryd.prog 4=false:=by kernel_rfl
@[go_sem] theorem v_el4:elemOf' Tryd.prog 4=none:=by kernel_rfl
@[go_sem] theorem v_isb4:isBytes Tryd.prog 4=false:=by kernel_rfl
@[go_sem] theorem v_if4:ifaceB Tryd.prog 4=some false:=by kernel_rfl
@[go_sem] theorem v_agg5:aggOf Tryd.prog 5=some false:=by kernel_rfl
@[go_sem] theorem v_sz5:tsz Tryd.prog 5=some 1:=by kernel_rfl
@[go_sem] theorem v_by5:bytesOf Tryd.prog 5=some 1:=by kernel_rfl
@[go_sem] theorem v_zero5:tzero Tryd.prog 5=some [.int .u8 0]:=by kernel_rfl
@[go_sem] theorem v_ik5:intKind Tryd.prog 5=some .u8:=by kernel_rfl
@[go_sem] theorem v_un5:(Tryd.prog.underlying 5).isSome=true:=by kernel_rfl
@[go_sem] theorem v_bool5:isBool Tryd.prog 5=false:=by kernel_rfl
@[go_sem] theorem v_str5:isStr Tryd.prog 5=false:=by kernel_rfl
@[go_sem] theorem v_el5:elemOf' Tryd.prog 5=none:=by kernel_rfl
@[go_sem] theorem v_isb5:isBytes Tryd.prog 5=false:=by kernel_rfl
@[go_sem] theorem v_if5:ifaceB Tryd.prog 5=some false:=by kernel_rfl
@[go_sem] theorem v_agg9:aggOf Tryd.prog 9=some false:=by kernel_rfl
@[go_sem] theorem v_sz9:tsz Tryd.prog 9=some 1:=by kernel_rfl
@[go_sem] theorem v_by9:bytesOf Tryd.prog 9=some 16:=by kernel_rfl
@[go_sem] theorem v_zero9:tzero Tryd.prog 9=some [.str ⟨#[]⟩]:=by kernel_rfl
@[go_sem] theorem v_un9:(Tryd.prog.underlying 9).isSome=true:=by kernel_rfl
@[go_sem] theorem v_bool9:isBool Tryd.prog 9=false:=by kernel_rfl
@[go_sem] theorem v_str9:isStr Tryd.prog 9=true:=by kernel_rfl
@[go_sem] theorem v_el9:elemOf' Tryd.prog 9=none:=by kernel_rfl
@[go_sem] theorem v_isb9:isBytes Tryd.prog 9=false:=by kernel_rfl
@[go_sem] theorem v_if9:ifaceB Tryd.prog 9=some false:=by kernel_rfl
@[go_sem] theorem v_agg21:aggOf Tryd.prog 21=some false:=by kernel_rfl
@[go_sem] theorem v_sz21:tsz Tryd.prog 21=some 1:=by kernel_rfl
@[go_sem] theorem v_by21:bytesOf Tryd.prog 21=some 4:=by kernel_rfl
@[go_sem] theorem v_zero21:tzero Tryd.prog 21=some [.int .i32 0]:=by kernel_rfl
@[go_sem] theorem v_ik21:intKind Tryd.prog 21=some .i32:=by kernel_rfl
@[go_sem] theorem v_un21:(Tryd.prog.underlying 21).isSome=true:=by kernel_rfl
@[go_sem] theorem v_bool21:isBool Tryd.prog 21=false:=by kernel_rfl
@[go_sem] theorem v_str21:isStr Tryd.prog 21=false:=by kernel_rfl
@[go_sem] theorem v_el21:elemOf' Tryd.prog 21=none:=by kernel_rfl
@[go_sem] theorem v_isb21:isBytes Tryd.prog 21=false:=by kernel_rfl
@[go_sem] theorem v_if21:ifaceB Tryd.prog 21=some false:=by kernel_rfl
@[go_sem] theorem v_agg22:aggOf Tryd.prog 22=some false:=by kernel_rfl
@[go_sem] theorem v_sz22:tsz Tryd.prog 22=some 1:=by kernel_rfl
@[go_sem] theorem v_by22:bytesOf Tryd.prog 22=some 24:=by kernel_rfl
@[go_sem] theorem v_zero22:tzero Tryd.prog 22=some [.nils]:=by kernel_rfl
@[go_sem] theorem v_un22:(Tryd.prog.underlying 22).isSome=true:=by kernel_rfl
@[go_sem] theorem v_bool22:isBool Tryd.prog 22=false:=by kernel_rfl
@[go_sem] theorem v_str22:isStr Tryd.prog 22=false:=by kernel_rfl
@[go_sem] theorem v_el22:elemOf' Tryd.prog 22=some 55:=by kernel_rfl
@[go_sem] theorem v_ix22:ixOf Tryd.prog 22=some (none,55):=by kernel_rfl
@[go_sem] theorem v_isb22:isBytes Tryd.prog 22=false:=by kernel_rfl
@[go_sem] theorem v_if22:ifaceB Tryd.prog 22=some false:=by kernel_rfl
@[go_sem] theorem v_agg23:aggOf Tryd.prog 23=some false:=by kernel_rfl
@[go_sem] theorem v_sz23:tsz Tryd.prog 23=some 1:=by kernel_rfl
@[go_sem] theorem v_by23:bytesOf Tryd.prog 23=some 24:=by kernel_rfl
@[go_sem] theorem v_zero23:tzero Tryd.prog 23=some [.nils]:=by kernel_rfl
@[go_sem] theorem v_un23:(Tryd.prog.underlying 23).isSome=true:=by kernel_rfl
@[go_sem] theorem v_bool23:isBool Tryd.prog 23=false:=by kernel_rfl
@[go_sem] theorem v_str23:isStr Tryd.prog 23=false:=by kernel_rfl
@[go_sem] theorem v_el23:elemOf' Tryd.prog 23=some 5:=by kernel_rfl
@[go_sem] theorem v_ix23:ixOf Tryd.prog 23=some (none,5):=by kernel_rfl
@[go_sem] theorem v_isb23:isBytes Tryd.prog 23=true:=by kernel_rfl
@[go_sem] theorem v_if23:ifaceB Tryd.prog 23=some false:=by kernel_rfl
@[go_sem] theorem v_agg25:aggOf Tryd.prog 25=some false:=by kernel_rfl
@[go_sem] theorem v_sz25:tsz Tryd.prog 25=some 1:=by kernel_rfl
@[go_sem] theorem v_by25:bytesOf Tryd.prog 25=some 24:=by kernel_rfl
@[go_sem] theorem v_zero25:tzero Tryd.prog 25=some [.nils]:=by kernel_rfl
@[go_sem] theorem v_un25:(Tryd.prog.underlying 25).isSome=true:=by kernel_rfl
@[go_sem] theorem v_bool25:isBool Tryd.prog 25=false:=by kernel_rfl
@[go_sem] theorem v_str25:isStr Tryd.prog 25=false:=by kernel_rfl
@[go_sem] theorem v_el25:elemOf' Tryd.prog 25=some 43:=by kernel_rfl
@[go_sem] theorem v_ix25:ixOf Tryd.prog 25=some (none,43):=by kernel_rfl
@[go_sem] theorem v_isb25:isBytes Tryd.prog 25=false:=by kernel_rfl
@[go_sem] theorem v_if25:ifaceB Tryd.prog 25=some false:=by kernel_rfl
@[go_sem] theorem v_agg26:aggOf Tryd.prog 26=some false:=by kernel_rfl
@[go_sem] theorem v_sz26:tsz Tryd.prog 26=some 1:=by kernel_rfl
@[go_sem] theorem v_by26:bytesOf Tryd.prog 26=some 24:=by kernel_rfl
@[go_sem] theorem v_zero26:tzero Tryd.prog 26=some [.nils]:=by kernel_rfl
@[go_sem] theorem v_un26:(Tryd.prog.underlying 26).isSome=true:=by kernel_rfl
@[go_sem] theorem v_bool26:isBool Tryd.prog 26=false:=by kernel_rfl
@[go_sem] theorem v_str26:isStr Tryd.prog 26=false:=by kernel_rfl
@[go_sem] theorem v_el26:elemOf' Tryd.prog 26=some 49:=by kernel_rfl
@[go_sem] theorem v_ix26:ixOf Tryd.prog 26=some (none,49):=by kernel_rfl
@[go_sem] theorem v_isb26:isBytes Tryd.prog 26=false:=by kernel_rfl
@[go_sem] theorem v_if26:ifaceB Tryd.prog 26=some false:=by kernel_rfl
@[go_sem] theorem v_agg28:aggOf Tryd.prog 28=some true:=by kernel_rfl
@[go_sem] theorem v_sz28:tsz Tryd.prog 28=some 2:=by kernel_rfl
@[go_sem] theorem v_by28:bytesOf Tryd.prog 28=some 48:=by kernel_rfl
@[go_sem] theorem v_zero28:tzero Tryd.prog 28=some [.nils,.nils]:=by kernel_rfl
@[go_sem] theorem v_plc28:plc Tryd.prog 28=some [(0,1),(1,1)]:=by kernel_rfl
@[go_sem] theorem v_un28:(Tryd.prog.underlying 28).isSome=true:=by kernel_rfl
@[go_sem] theorem v_bool28:isBool Tryd.prog 28=false:=by kernel_rfl
@[go_sem] theorem v_str28:isStr Tryd.prog 28=false:=by kernel_rfl
@[go_sem] theorem v_el28:elemOf' Tryd.prog 28=none:=by kernel_rfl
@[go_sem] theorem v_isb28:isBytes Tryd.prog 28=false:=by kernel_rfl
@[go_sem] theorem v_if28:ifaceB Tryd.prog 28=some false:=by kernel_rfl
@[go_sem] theorem v_agg31:aggOf Tryd.prog 31=some false:=by kernel_rfl
@[go_sem] theorem v_sz31:tsz Tryd.prog 31=some 1:=by kernel_rfl
@[go_sem] theorem v_by31:bytesOf Tryd.prog 31=some 24:=by kernel_rfl
@[go_sem] theorem v_zero31:tzero Tryd.prog 31=some [.nils]:=by kernel_rfl
@[go_sem] theorem v_un31:(Tryd.prog.underlying 31).isSome=true:=by kernel_rfl
@[go_sem] theorem v_bool31:isBool Tryd.prog 31=false:=by kernel_rfl
@[go_sem] theorem v_str31:isStr Tryd.prog 31=false:=by kernel_rfl
@[go_sem] theorem v_el31:elemOf' Tryd.prog 31=some 69:=by kernel_rfl
@[go_sem] theorem v_ix31:ixOf Tryd.prog 31=some (none,69):=by kernel_rfl
@[go_sem] theorem v_isb31:isBytes Tryd.prog 31=false:=by kernel_rfl
@[go_sem] theorem v_if31:ifaceB Tryd.prog 31=some false:=by kernel_rfl
@[go_sem] theorem v_agg32:aggOf Tryd.prog 32=some false:=by kernel_rfl
@[go_sem] theorem v_sz32:tsz Tryd.prog 32=some 1:=by kernel_rfl
@[go_sem] theorem v_by32:bytesOf Tryd.prog 32=some 8:=by kernel_rfl
@[go_sem] theorem v_zero32:tzero Tryd.prog 32=some [.int .i64 0]:=by kernel_rfl
@[go_sem] theorem v_ik32:intKind Tryd.prog 32=some .i64:=by kernel_rfl
@[go_sem] theorem v_un32:(Tryd.prog.underlying 32).isSome=true:=by kernel_rfl
@[go_sem] theorem v_bool32:isBool Tryd.prog 32=false:=by kernel_rfl
@[go_sem] theorem v_str32:isStr Tryd.prog 32=false:=by kernel_rfl
@[go_sem] theorem v_el32:elemOf' Tryd.prog 32=none:=by kernel_rfl
@[go_sem] theorem v_isb32:isBytes Tryd.prog 32=false:=by kernel_rfl
@[go_sem] theorem v_if32:ifaceB Tryd.prog 32=some false:=by kernel_rfl
@[go_sem] theorem v_agg34:aggOf Tryd.prog 34=some true:=by kernel_rfl
@[go_sem] theorem v_sz34:tsz Tryd.prog 34=some 3:=by kernel_rfl
@[go_sem] theorem v_by34:bytesOf Tryd.prog 34=some 24:=by kernel_rfl
@[go_sem] theorem v_zero34:tzero Tryd.prog 34=some [.int .i64 0,.int .i64 0,.int .i64 0]:=by kernel_rfl
@[go_sem] theorem v_plc34:plc Tryd.prog 34=some [(0,1),(1,1),(2,1)]:=by kernel_rfl
@[go_sem] theorem v_un34:(Tryd.prog.underlying 34).isSome=true:=by kernel_rfl
@[go_sem] theorem v_bool34:isBool Tryd.prog 34=false:=by kernel_rfl
@[go_sem] theorem v_str34:isStr Tryd.prog 34=false:=by kernel_rfl
@[go_sem] theorem v_el34:elemOf' Tryd.prog 34=none:=by kernel_rfl
@[go_sem] theorem v_isb34:isBytes Tryd.prog 34=false:=by kernel_rfl
@[go_sem] theorem v_if34:ifaceB Tryd.prog 34=some false:=by kernel_rfl
@[go_sem] theorem v_agg41:aggOf Tryd.prog 41=some false:=by kernel_rfl
@[go_sem] theorem v_sz41:tsz Tryd.prog 41=some 1:=by kernel_rfl
@[go_sem] theorem v_by41:bytesOf Tryd.prog 41=some 24:=by kernel_rfl
@[go_sem] theorem v_zero41:tzero Tryd.prog 41=some [.nils]:=by kernel_rfl
@[go_sem] theorem v_un41:(Tryd.prog.underlying 41).isSome=true:=by kernel_rfl
@[go_sem] theorem v_bool41:isBool Tryd.prog 41=false:=by kernel_rfl
@[go_sem] theorem v_str41:isStr Tryd.prog 41=false:=by kernel_rfl
@[go_sem] theorem v_el41:elemOf' Tryd.prog 41=some 2:=by kernel_rfl
@[go_sem] theorem v_ix41:ixOf Tryd.prog 41=some (none,2):=by kernel_rfl
@[go_sem] theorem v_isb41:isBytes Tryd.prog 41=false:=by kernel_rfl
@[go_sem] theorem v_if41:ifaceB Tryd.prog 41=some false:=by kernel_rfl
@[go_sem] theorem v_agg43:aggOf Tryd.prog 43=some true:=by kernel_rfl
@[go_sem] theorem v_sz43:tsz Tryd.prog 43=some 3:=by kernel_rfl
@[go_sem] theorem v_by43:bytesOf Tryd.prog 43=some 48:=by kernel_rfl
@[go_sem] theorem v_zero43:tzero Tryd.prog 43=some [.str ⟨#[]⟩,.int .i64 0,.nils]:=by kernel_rfl
@[go_sem] theorem v_plc43:plc Tryd.prog 43=some [(0,1),(1,1),(2,1)]:=by kernel_rfl
@[go_sem] theorem v_un43:(Tryd.prog.underlying 43).isSome=true:=by kernel_rfl
@[go_sem] theorem v_bool43:isBool Tryd.prog 43=false:=by kernel_rfl
@[go_sem] theorem v_str43:isStr Tryd.prog 43=false:=by kernel_rfl
@[go_sem] theorem v_el43:elemOf' Tryd.prog 43=none:=by kernel_rfl
@[go_sem] theorem v_isb43:isBytes Tryd.prog 43=false:=by kernel_rfl
@[go_sem] theorem v_if43:ifaceB Tryd.prog 43=some false:=by kernel_rfl
@[go_sem] theorem v_agg45:aggOf Tryd.prog 45=some false:=by kernel_rfl
@[go_sem] theorem v_sz45:tsz Tryd.prog 45=some 1:=by kernel_rfl
@[go_sem] theorem v_by45:bytesOf Tryd.prog 45=some 24:=by kernel_rfl
@[go_sem] theorem v_zero45:tzero Tryd.prog 45=some [.nils]:=by kernel_rfl
@[go_sem] theorem v_un45:(Tryd.prog.underlying 45).isSome=true:=by kernel_rfl
@[go_sem] theorem v_bool45:isBool Tryd.prog 45=false:=by kernel_rfl
@[go_sem] theorem v_str45:isStr Tryd.prog 45=false:=by kernel_rfl
@[go_sem] theorem v_el45:elemOf' Tryd.prog 45=some 9:=by kernel_rfl
@[go_sem] theorem v_ix45:ixOf Tryd.prog 45=some (none,9):=by kernel_rfl
@[go_sem] theorem v_isb45:isBytes Tryd.prog 45=false:=by kernel_rfl
@[go_sem] theorem v_if45:ifaceB Tryd.prog 45=some false:=by kernel_rfl
@[go_sem] theorem v_agg47:aggOf Tryd.prog 47=some false:=by kernel_rfl
@[go_sem] theorem v_sz47:tsz Tryd.prog 47=some 1:=by kernel_rfl
@[go_sem] theorem v_by47:bytesOf Tryd.prog 47=some 24:=by kernel_rfl
@[go_sem] theorem v_zero47:tzero Tryd.prog 47=some [.nils]:=by kernel_rfl
@[go_sem] theorem v_un47:(Tryd.prog.underlying 47).isSome=true:=by kernel_rfl
@[go_sem] theorem v_bool47:isBool Tryd.prog 47=false:=by kernel_rfl
@[go_sem] theorem v_str47:isStr Tryd.prog 47=false:=by kernel_rfl
@[go_sem] theorem v_el47:elemOf' Tryd.prog 47=some 53:=by kernel_rfl
@[go_sem] theorem v_ix47:ixOf Tryd.prog 47=some (none,53):=by kernel_rfl
@[go_sem] theorem v_isb47:isBytes Tryd.prog 47=false:=by kernel_rfl
@[go_sem] theorem v_if47:ifaceB Tryd.prog 47=some false:=by kernel_rfl
@[go_sem] theorem v_agg49:aggOf Tryd.prog 49=some true:=by kernel_rfl
@[go_sem] theorem v_sz49:tsz Tryd.prog 49=some 1:=by kernel_rfl
@[go_sem] theorem v_by49:bytesOf Tryd.prog 49=some 24:=by kernel_rfl
@[go_sem] theorem v_zero49:tzero Tryd.prog 49=some [.nils]:=by kernel_rfl
@[go_sem] theorem v_plc49:plc Tryd.prog 49=some [(0,1)]:=by kernel_rfl
@[go_sem] theorem v_un49:(Tryd.prog.underlying 49).isSome=true:=by kernel_rfl
@[go_sem] theorem v_bool49:isBool Tryd.prog 49=false:=by kernel_rfl
@[go_sem] theorem v_str49:isStr Tryd.prog 49=false:=by kernel_rfl
@[go_sem] theorem v_el49:elemOf' Tryd.prog 49=none:=by kernel_rfl
@[go_sem] theorem v_isb49:isBytes Tryd.prog 49=false:=by kernel_rfl
@[go_sem] theorem v_if49:ifaceB Tryd.prog 49=some false:=by kernel_rfl
@[go_sem] theorem v_agg51:aggOf Tryd.prog 51=some true:=by kernel_rfl
@[go_sem] theorem v_sz51:tsz Tryd.prog 51=some 4:=by kernel_rfl
@[go_sem] theorem v_by51:bytesOf Tryd.prog 51=some 32:=by kernel_rfl
@[go_sem] theorem v_zero51:tzero Tryd.prog 51=some [.int .i64 0,.int .i64 0,.int .i64 0,.int .i64 0]:=by kernel_rfl
@[go_sem] theorem v_plc51:plc Tryd.prog 51=some [(0,1),(1,1),(2,1),(3,1)]:=by kernel_rfl
@[go_sem] theorem v_un51:(Tryd.prog.underlying 51).isSome=true:=by kernel_rfl
@[go_sem] theorem v_bool51:isBool Tryd.prog 51=false:=by kernel_rfl
@[go_sem] theorem v_str51:isStr Tryd.prog 51=false:=by kernel_rfl
@[go_sem] theorem v_el51:elemOf' Tryd.prog 51=none:=by kernel_rfl
@[go_sem] theorem v_isb51:isBytes Tryd.prog 51=false:=by kernel_rfl
@[go_sem] theorem v_if51:ifaceB Tryd.prog 51=some false:=by kernel_rfl
@[go_sem] theorem v_agg53:aggOf Tryd.prog 53=some true:=by kernel_rfl
@[go_sem] theorem v_sz53:tsz Tryd.prog 53=some 13:=by kernel_rfl
@[go_sem] theorem v_by53:bytesOf Tryd.prog 53=some 128:=by kernel_rfl
@[go_sem] theorem v_zero53:tzero Tryd.prog 53=some [.int .i64 0,.bool false,.int .i64 0,.int .i64 0,.int .i64 0,.int .i64 0,.int .i64 0,.int .i64 0,.int .i64 0,.int .i64 0,.int .i64 0,.str ⟨#[]⟩,.nils]:=by kernel_rfl
@[go_sem] theorem v_plc53:plc Tryd.prog 53=some [(0,1),(1,1),(2,1),(3,4),(7,4),(11,1),(12,1)]:=by kernel_rfl
@[go_sem] theorem v_un53:(Tryd.prog.underlying 53).isSome=true:=by kernel_rfl
@[go_sem] theorem v_bool53:isBool Tryd.prog 53=false:=by kernel_rfl
@[go_sem] theorem v_str53:isStr Tryd.prog 53=false:=by kernel_rfl
@[go_sem] theorem v_el53:elemOf' Tryd.prog 53=none:=by kernel_rfl
@[go_sem] theorem v_isb53:isBytes Tryd.prog 53=false:=by kernel_rfl
@[go_sem] theorem v_if53:ifaceB Tryd.prog 53=some false:=by kernel_rfl
@[go_sem] theorem v_agg55:aggOf Tryd.prog 55=some false:=by kernel_rfl
@[go_sem] theorem v_sz55:tsz Tryd.prog 55=some 1:=by kernel_rfl
@[go_sem] theorem v_by55:bytesOf Tryd.prog 55=some 24:=by kernel_rfl
@[go_sem] theorem v_zero55:tzero Tryd.prog 55=some [.nils]:=by kernel_rfl
@[go_sem] theorem v_un55:(Tryd.prog.underlying 55).isSome=true:=by kernel_rfl
@[go_sem] theorem v_bool55:isBool Tryd.prog 55=false:=by kernel_rfl
@[go_sem] theorem v_str55:isStr Tryd.prog 55=false:=by kernel_rfl
@[go_sem] theorem v_el55:elemOf' Tryd.prog 55=some 58:=by kernel_rfl
@[go_sem] theorem v_ix55:ixOf Tryd.prog 55=some (none,58):=by kernel_rfl
@[go_sem] theorem v_isb55:isBytes Tryd.prog 55=false:=by kernel_rfl
@[go_sem] theorem v_if55:ifaceB Tryd.prog 55=some false:=by kernel_rfl
@[go_sem] theorem v_agg58:aggOf Tryd.prog 58=some true:=by kernel_rfl
@[go_sem] theorem v_sz58:tsz Tryd.prog 58=some 5:=by kernel_rfl
@[go_sem] theorem v_by58:bytesOf Tryd.prog 58=some 40:=by kernel_rfl
@[go_sem] theorem v_zero58:tzero Tryd.prog 58=some [.int .i64 0,.int .i64 0,.int .i64 0,.int .i64 0,.int .i64 0]:=by kernel_rfl
@[go_sem] theorem v_plc58:plc Tryd.prog 58=some [(0,1),(1,1),(2,1),(3,1),(4,1)]:=by kernel_rfl
@[go_sem] theorem v_un58:(Tryd.prog.underlying 58).isSome=true:=by kernel_rfl
@[go_sem] theorem v_bool58:isBool Tryd.prog 58=false:=by kernel_rfl
@[go_sem] theorem v_str58:isStr Tryd.prog 58=false:=by kernel_rfl
@[go_sem] theorem v_el58:elemOf' Tryd.prog 58=none:=by kernel_rfl
@[go_sem] theorem v_isb58:isBytes Tryd.prog 58=false:=by kernel_rfl
@[go_sem] theorem v_if58:ifaceB Tryd.prog 58=some false:=by kernel_rfl
@[go_sem] theorem v_agg60:aggOf Tryd.prog 60=some false:=by kernel_rfl
@[go_sem] theorem v_sz60:tsz Tryd.prog 60=some 1:=by kernel_rfl
@[go_sem] theorem v_by60:bytesOf Tryd.prog 60=some 24:=by kernel_rfl
@[go_sem] theorem v_zero60:tzero Tryd.prog 60=some [.nils]:=by kernel_rfl
@[go_sem] theorem v_un60:(Tryd.prog.underlying 60).isSome=true:=by kernel_rfl
@[go_sem] theorem v_bool60:isBool Tryd.prog 60=false:=by kernel_rfl
@[go_sem] theorem v_str60:isStr Tryd.prog 60=false:=by kernel_rfl
@[go_sem] theorem v_el60:elemOf' Tryd.prog 60=some 63:=by kernel_rfl
@[go_sem] theorem v_ix60:ixOf Tryd.prog 60=some (none,63):=by kernel_rfl
@[go_sem] theorem v_isb60:isBytes Tryd.prog 60=false:=by kernel_rfl
@[go_sem] theorem v_if60:ifaceB Tryd.prog 60=some false:=by kernel_rfl
@[go_sem] theorem v_agg63:aggOf Tryd.prog 63=some true:=by kernel_rfl
@[go_sem] theorem v_sz63:tsz Tryd.prog 63=some 6:=by kernel_rfl
@[go_sem] theorem v_by63:bytesOf Tryd.prog 63=some 48:=by kernel_rfl
@[go_sem] theorem v_zero63:tzero Tryd.prog 63=some [.int .i32 0,.int .i64 0,.int .i64 0,.int .i64 0,.int .i64 0,.bool false]:=by kernel_rfl
@[go_sem] theorem v_plc63:plc Tryd.prog 63=some [(0,1),(1,1),(2,1),(3,1),(4,1),(5,1)]:=by kernel_rfl
@[go_sem] theorem v_un63:(Tryd.prog.underlying 63).isSome=true:=by kernel_rfl
@[go_sem] theorem v_bool63:isBool Tryd.prog 63=false:=by kernel_rfl
@[go_sem] theorem v_str63:isStr Tryd.prog 63=false:=by kernel_rfl
@[go_sem] theorem v_el63:elemOf' Tryd.prog 63=none:=by kernel_rfl
@[go_sem] theorem v_isb63:isBytes Tryd.prog 63=false:=by kernel_rfl
@[go_sem] theorem v_if63:ifaceB Tryd.prog 63=some false:=by kernel_rfl
@[go_sem] theorem v_agg69:aggOf Tryd.prog 69=some true:=by kernel_rfl
@[go_sem] theorem v_sz69:tsz Tryd.prog 69=some 4:=by kernel_rfl
@[go_sem] theorem v_by69:bytesOf Tryd.prog 69=some 40:=by kernel_rfl
@[go_sem] theorem v_zero69:tzero Tryd.prog 69=some [.int .i64 0,.int .i64 0,.int .i64 0,.str ⟨#[]⟩]:=by kernel_rfl
@[go_sem] theorem v_plc69:plc Tryd.prog 69=some [(0,1),(1,1),(2,1),(3,1)]:=by kernel_rfl
@[go_sem] theorem v_un69:(Tryd.prog.underlying 69).isSome=true:=by kernel_rfl
@[go_sem] theorem v_bool69:isBool Tryd.prog 69=false:=by kernel_rfl
@[go_sem] theorem v_str69:isStr Tryd.prog 69=false:=by kernel_rfl
@[go_sem] theorem v_el69:elemOf' Tryd.prog 69=none:=by kernel_rfl
@[go_sem] theorem v_isb69:isBytes Tryd.prog 69=false:=by kernel_rfl
@[go_sem] theorem v_if69:ifaceB Tryd.prog 69=some false:=by kernel_rfl
@[go_sem] theorem v_agg72:aggOf Tryd.prog 72=some false:=by kernel_rfl
@[go_sem] theorem v_sz72:tsz Tryd.prog 72=some 1:=by kernel_rfl
@[go_sem] theorem v_by72:bytesOf Tryd.prog 72=some 24:=by kernel_rfl
@[go_sem] theorem v_zero72:tzero Tryd.prog 72=some [.nils]:=by kernel_rfl
@[go_sem] theorem v_un72:(Tryd.prog.underlying 72).isSome=true:=by kernel_rfl
@[go_sem] theorem v_bool72:isBool Tryd.prog 72=false:=by kernel_rfl
@[go_sem] theorem v_str72:isStr Tryd.prog 72=false:=by kernel_rfl
@[go_sem] theorem v_el72:elemOf' Tryd.prog 72=some 74:=by kernel_rfl
@[go_sem] theorem v_ix72:ixOf Tryd.prog 72=some (none,74):=by kernel_rfl
@[go_sem] theorem v_isb72:isBytes Tryd.prog 72=false:=by kernel_rfl
@[go_sem] theorem v_if72:ifaceB Tryd.prog 72=some false:=by kernel_rfl
@[go_sem] theorem v_agg74:aggOf Tryd.prog 74=some true:=by kernel_rfl
@[go_sem] theorem v_sz74:tsz Tryd.prog 74=some 6:=by kernel_rfl
@[go_sem] theorem v_by74:bytesOf Tryd.prog 74=some 48:=by kernel_rfl
@[go_sem] theorem v_zero74:tzero Tryd.prog 74=some [.int .i32 0,.int .i64 0,.int .i64 0,.int .i64 0,.int .i64 0,.bool false]:=by kernel_rfl
@[go_sem] theorem v_plc74:plc Tryd.prog 74=some [(0,1),(1,1),(2,1),(3,1),(4,1),(5,1)]:=by kernel_rfl
@[go_sem] theorem v_un74:(Tryd.prog.underlying 74).isSome=true:=by kernel_rfl
@[go_sem] theorem v_bool74:isBool Tryd.prog 74=false:=by kernel_rfl
@[go_sem] theorem v_str74:isStr Tryd.prog 74=false:=by kernel_rfl
@[go_sem] theorem v_el74:elemOf' Tryd.prog 74=none:=by kernel_rfl
@[go_sem] theorem v_isb74:isBytes Tryd.prog 74=false:=by kernel_rfl
@[go_sem] theorem v_if74:ifaceB Tryd.prog 74=some false:=by kernel_rfl
@[go_sem] theorem v_agg79:aggOf Tryd.prog 79=some false:=by kernel_rfl
@[go_sem] theorem v_sz79:tsz Tryd.prog 79=some 1:=by kernel_rfl
@[go_sem] theorem v_by79:bytesOf Tryd.prog 79=some 8:=by kernel_rfl
@[go_sem] theorem v_zero79:tzero Tryd.prog 79=some [.int .u64 0]:=by kernel_rfl
@[go_sem] theorem v_ik79:intKind Tryd.prog 79=some .u64:=by kernel_rfl
@[go_sem] theorem v_un79:(Tryd.prog.underlying 79).isSome=true:=by kernel_rfl
@[go_sem] theorem v_bool79:isBool Tryd.prog 79=false:=by kernel_rfl
@[go_sem] theorem v_str79:isStr Tryd.prog 79=false:=by kernel_rfl
@[go_sem] theorem v_el79:elemOf' Tryd.prog 79=none:=by kernel_rfl
@[go_sem] theorem v_isb79:isBytes Tryd.prog 79=false:=by kernel_rfl
@[go_sem] theorem v_if79:ifaceB Tryd.prog 79=some false:=by kernel_rfl
@[go_sem] theorem v_agg98:aggOf Tryd.prog 98=some false:=by kernel_rfl
@[go_sem] theorem v_sz98:tsz Tryd.prog 98=some 1:=by kernel_rfl
@[go_sem] theorem v_by98:bytesOf Tryd.prog 98=some 16:=by kernel_rfl
@[go_sem] theorem v_zero98:tzero Tryd.prog 98=some [.nili]:=by kernel_rfl
@[go_sem] theorem v_un98:(Tryd.prog.underlying 98).isSome=true:=by kernel_rfl
@[go_sem] theorem v_bool98:isBool Tryd.prog 98=false:=by kernel_rfl
@[go_sem] theorem v_str98:isStr Tryd.prog 98=false:=by kernel_rfl
@[go_sem] theorem v_el98:elemOf' Tryd.prog 98=none:=by kernel_rfl
@[go_sem] theorem v_isb98:isBytes Tryd.prog 98=false:=by kernel_rfl
@[go_sem] theorem v_if98:ifaceB Tryd.prog 98=some true:=by kernel_rfl
@[go_sem] theorem v_agg101:aggOf Tryd.prog 101=some true:=by kernel_rfl
@[go_sem] theorem v_sz101:tsz Tryd.prog 101=some 256:=by kernel_rfl
@[go_sem] theorem v_by101:bytesOf Tryd.prog 101=some 256:=by kernel_rfl
@[go_sem] theorem v_un101:(Tryd.prog.underlying 101).isSome=true:=by kernel_rfl
@[go_sem] theorem v_bool101:isBool Tryd.prog 101=false:=by kernel_rfl
@[go_sem] theorem v_str101:isStr Tryd.prog 101=false:=by kernel_rfl
@[go_sem] theorem v_el101:elemOf' Tryd.prog 101=none:=by kernel_rfl
@[go_sem] theorem v_ix101:ixOf Tryd.prog 101=some (some 256,5):=by kernel_rfl
@[go_sem] theorem v_ar101:arrOf Tryd.prog 101=some (256,5):=by kernel_rfl
@[go_sem] theorem v_isb101:isBytes Tryd.prog 101=false:=by kernel_rfl
@[go_sem] theorem v_if101:ifaceB Tryd.prog 101=some false:=by kernel_rfl
@[go_sem] theorem v_agg102:aggOf Tryd.prog 102=some false:=by kernel_rfl
@[go_sem] theorem v_sz102:tsz Tryd.prog 102=some 1:=by kernel_rfl
@[go_sem] theorem v_by102:bytesOf Tryd.prog 102=some 8:=by kernel_rfl
@[go_sem] theorem v_zero102:tzero Tryd.prog 102=some [.int .u64 0]:=by kernel_rfl
@[go_sem] theorem v_ik102:intKind Tryd.prog 102=some .u64:=by kernel_rfl
@[go_sem] theorem v_un102:(Tryd.prog.underlying 102).isSome=true:=by kernel_rfl
@[go_sem] theorem v_bool102:isBool Tryd.prog 102=false:=by kernel_rfl
@[go_sem] theorem v_str102:isStr Tryd.prog 102=false:=by kernel_rfl
@[go_sem] theorem v_el102:elemOf' Tryd.prog 102=none:=by kernel_rfl
@[go_sem] theorem v_isb102:isBytes Tryd.prog 102=false:=by kernel_rfl
@[go_sem] theorem v_if102:ifaceB Tryd.prog 102=some false:=by kernel_rfl
@[go_sem] theorem v_agg104:aggOf Tryd.prog 104=some true:=by kernel_rfl
@[go_sem] theorem v_sz104:tsz Tryd.prog 104=some 2:=by kernel_rfl
@[go_sem] theorem v_by104:bytesOf Tryd.prog 104=some 2:=by kernel_rfl
@[go_sem] theorem v_zero104:tzero Tryd.prog 104=some [.int .u8 0,.int .u8 0]:=by kernel_rfl
@[go_sem] theorem v_plc104:plc Tryd.prog 104=some [(0,1),(1,1)]:=by kernel_rfl
@[go_sem] theorem v_un104:(Tryd.prog.underlying 104).isSome=true:=by kernel_rfl
@[go_sem] theorem v_bool104:isBool Tryd.prog 104=false:=by kernel_rfl
@[go_sem] theorem v_str104:isStr Tryd.prog 104=false:=by kernel_rfl
@[go_sem] theorem v_el104:elemOf' Tryd.prog 104=none:=by kernel_rfl
@[go_sem] theorem v_isb104:isBytes Tryd.prog 104=false:=by kernel_rfl
@[go_sem] theorem v_if104:ifaceB Tryd.prog 104=some false:=by kernel_rfl
@[go_sem] theorem v_agg105:aggOf Tryd.prog 105=some true:=by kernel_rfl
@[go_sem] theorem v_sz105:tsz Tryd.prog 105=some 32:=by kernel_rfl
@[go_sem] theorem v_by105:bytesOf Tryd.prog 105=some 32:=by kernel_rfl
@[go_sem] theorem v_zero105:tzero Tryd.prog 105=some [.int .u8 0,.int .u8 0,.int .u8 0,.int .u8 0,.int .u8 0,.int .u8 0,.int .u8 0,.int .u8 0,.int .u8 0,.int .u8 0,.int .u8 0,.int .u8 0,.int .u8 0,.int .u8 0,.int .u8 0,.int .u8 0,.int .u8 0,.int .u8 0,.int .u8 0,.int .u8 0,.int .u8 0,.int .u8 0,.int .u8 0,.int .u8 0,.int .u8 0,.int .u8 0,.int .u8 0,.int .u8 0,.int .u8 0,.int .u8 0,.int .u8 0,.int .u8 0]:=by kernel_rfl
@[go_sem] theorem v_un105:(Tryd.prog.underlying 105).isSome=true:=by kernel_rfl
@[go_sem] theorem v_bool105:isBool Tryd.prog 105=false:=by kernel_rfl
@[go_sem] theorem v_str105:isStr Tryd.prog 105=false:=by kernel_rfl
@[go_sem] theorem v_el105:elemOf' Tryd.prog 105=none:=by kernel_rfl
@[go_sem] theorem v_ix105:ixOf Tryd.prog 105=some (some 16,104):=by kernel_rfl
@[go_sem] theorem v_ar105:arrOf Tryd.prog 105=some (16,104):=by kernel_rfl
@[go_sem] theorem v_isb105:isBytes Tryd.prog 105=false:=by kernel_rfl
@[go_sem] theorem v_if105:ifaceB Tryd.prog 105=some false:=by kernel_rfl
@[go_sem] theorem v_agg108:aggOf Tryd.prog 108=some false:=by kernel_rfl
@[go_sem] theorem v_sz108:tsz Tryd.prog 108=some 1:=by kernel_rfl
@[go_sem] theorem v_by108:bytesOf Tryd.prog 108=some 8:=by kernel_rfl
@[go_sem] theorem v_zero108:tzero Tryd.prog 108=some [.int .i64 0]:=by kernel_rfl
@[go_sem] theorem v_ik108:intKind Tryd.prog 108=some .i64:=by kernel_rfl
@[go_sem] theorem v_un108:(Tryd.prog.underlying 108).isSome=true:=by kernel_rfl
@[go_sem] theorem v_bool108:isBool Tryd.prog 108=false:=by kernel_rfl
@[go_sem] theorem v_str108:isStr Tryd.prog 108=false:=by kernel_rfl
@[go_sem] theorem v_el108:elemOf' Tryd.prog 108=none:=by kernel_rfl
@[go_sem] theorem v_isb108:isBytes Tryd.prog 108=false:=by kernel_rfl
@[go_sem] theorem v_if108:ifaceB Tryd.prog 108=some false:=by kernel_rfl
@[go_sem] theorem v_agg111:aggOf Tryd.prog 111=some false:=by kernel_rfl
@[go_sem] theorem v_sz111:tsz Tryd.prog 111=some 1:=by kernel_rfl
@[go_sem] theorem v_by111:bytesOf Tryd.prog 111=some 8:=by kernel_rfl
@[go_sem] theorem v_zero111:tzero Tryd.prog 111=some [.nilp]:=by kernel_rfl
@[go_sem] theorem v_un111:(Tryd.prog.underlying 111).isSome=true:=by kernel_rfl
@[go_sem] theorem v_bool111:isBool Tryd.prog 111=false:=by kernel_rfl
@[go_sem] theorem v_str111:isStr Tryd.prog 111=false:=by kernel_rfl
@[go_sem] theorem v_el111:elemOf' Tryd.prog 111=none:=by kernel_rfl
@[go_sem] theorem v_isb111:isBytes Tryd.prog 111=false:=by kernel_rfl
@[go_sem] theorem v_if111:ifaceB Tryd.prog 111=some false:=by kernel_rfl
@[go_sem] theorem v_agg117:aggOf Tryd.prog 117=some true:=by kernel_rfl
@[go_sem] theorem v_sz117:tsz Tryd.prog 117=some 3:=by kernel_rfl
@[go_sem] theorem v_by117:bytesOf Tryd.prog 117=some 48:=by kernel_rfl
@[go_sem] theorem v_zero117:tzero Tryd.prog 117=some [.str ⟨#[]⟩,.str ⟨#[]⟩,.nili]:=by kernel_rfl
@[go_sem] theorem v_plc117:plc Tryd.prog 117=some [(0,1),(1,1),(2,1)]:=by kernel_rfl
@[go_sem] theorem v_un117:(Tryd.prog.underlying 117).isSome=true:=by kernel_rfl
@[go_sem] theorem v_bool117:isBool Tryd.prog 117=false:=by kernel_rfl
@[go_sem] theorem v_str117:isStr Tryd.prog 117=false:=by kernel_rfl
@[go_sem] theorem v_el117:elemOf' Tryd.prog 117=none:=by kernel_rfl
@[go_sem] theorem v_isb117:isBytes Tryd.prog 117=false:=by kernel_rfl
@[go_sem] theorem v_if117:ifaceB Tryd.prog 117=some false:=by kernel_rfl
@[go_sem] theorem v_agg119:aggOf Tryd.prog 119=some true:=by kernel_rfl
@[go_sem] theorem v_sz119:tsz Tryd.prog 119=some 24:=by kernel_rfl
@[go_sem] theorem v_by119:bytesOf Tryd.prog 119=some 24:=by kernel_rfl
@[go_sem] theorem v_zero119:tzero Tryd.prog 119=some [.int .u8 0,.int .u8 0,.int .u8 0,.int .u8 0,.int .u8 0,.int .u8 0,.int .u8 0,.int .u8 0,.int .u8 0,.int .u8 0,.int .u8 0,.int .u8 0,.int .u8 0,.int .u8 0,.int .u8 0,.int .u8 0,.int .u8 0,.int .u8 0,.int .u8 0,.int .u8 0,.int .u8 0,.int .u8 0,.int .u8 0,.int .u8 0]:=by kernel_rfl
@[go_sem] theorem v_un119:(Tryd.prog.underlying 119).isSome=true:=by kernel_rfl
@[go_sem] theorem v_bool119:isBool Tryd.prog 119=false:=by kernel_rfl
@[go_sem] theorem v_str119:isStr Tryd.prog 119=false:=by kernel_rfl
@[go_sem] theorem v_el119:elemOf' Tryd.prog 119=none:=by kernel_rfl
@[go_sem] theorem v_ix119:ixOf Tryd.prog 119=some (some 24,5):=by kernel_rfl
@[go_sem] theorem v_ar119:arrOf Tryd.prog 119=some (24,5):=by kernel_rfl
@[go_sem] theorem v_isb119:isBytes Tryd.prog 119=false:=by kernel_rfl
@[go_sem] theorem v_if119:ifaceB Tryd.prog 119=some false:=by kernel_rfl
@[go_sem] theorem v_agg124:aggOf Tryd.prog 124=some false:=by kernel_rfl
@[go_sem] theorem v_sz124:tsz Tryd.prog 124=some 1:=by kernel_rfl
@[go_sem] theorem v_by124:bytesOf Tryd.prog 124=some 8:=by kernel_rfl
@[go_sem] theorem v_zero124:tzero Tryd.prog 124=some [.nilp]:=by kernel_rfl
@[go_sem] theorem v_un124:(Tryd.prog.underlying 124).isSome=true:=by kernel_rfl
@[go_sem] theorem v_bool124:isBool Tryd.prog 124=false:=by kernel_rfl
@[go_sem] theorem v_str124:isStr Tryd.prog 124=false:=by kernel_rfl
@[go_sem] theorem v_el124:elemOf' Tryd.prog 124=none:=by kernel_rfl
@[go_sem] theorem v_isb124:isBytes Tryd.prog 124=false:=by kernel_rfl
@[go_sem] theorem v_if124:ifaceB Tryd.prog 124=some false:=by kernel_rfl
@[go_sem] theorem v_agg125:aggOf Tryd.prog 125=some false:=by kernel_rfl
@[go_sem] theorem v_sz125:tsz Tryd.prog 125=some 1:=by kernel_rfl
@[go_sem] theorem v_by125:bytesOf Tryd.prog 125=some 8:=by kernel_rfl
@[go_sem] theorem v_zero125:tzero Tryd.prog 125=some [.nilp]:=by kernel_rfl
@[go_sem] theorem v_un125:(Tryd.prog.underlying 125).isSome=true:=by kernel_rfl
@[go_sem] theorem v_bool125:isBool Tryd.prog 125=false:=by kernel_rfl
@[go_sem] theorem v_str125:isStr Tryd.prog 125=false:=by kernel_rfl
@[go_sem] theorem v_el125:elemOf' Tryd.prog 125=none:=by kernel_rfl
@[go_sem] theorem v_isb125:isBytes Tryd.prog 125=false:=by kernel_rfl
@[go_sem] theorem v_if125:ifaceB Tryd.prog 125=some false:=by kernel_rfl
@[go_sem] theorem v_agg127:aggOf Tryd.prog 127=some true:=by kernel_rfl
@[go_sem] theorem v_sz127:tsz Tryd.prog 127=some 1:=by kernel_rfl
@[go_sem] theorem v_by127:bytesOf Tryd.prog 127=some 16:=by kernel_rfl
@[go_sem] theorem v_zero127:tzero Tryd.prog 127=some [.str ⟨#[]⟩]:=by kernel_rfl
@[go_sem] theorem v_plc127:plc Tryd.prog 127=some [(0,1)]:=by kernel_rfl
@[go_sem] theorem v_un127:(Tryd.prog.underlying 127).isSome=true:=by kernel_rfl
@[go_sem] theorem v_bool127:isBool Tryd.prog 127=false:=by kernel_rfl
@[go_sem] theorem v_str127:isStr Tryd.prog 127=false:=by kernel_rfl
@[go_sem] theorem v_el127:elemOf' Tryd.prog 127=none:=by kernel_rfl
@[go_sem] theorem v_isb127:isBytes Tryd.prog 127=false:=by kernel_rfl
@[go_sem] theorem v_if127:ifaceB Tryd.prog 127=some false:=by kernel_rfl
@[go_sem] theorem v_agg130:aggOf Tryd.prog 130=some true:=by kernel_rfl
@[go_sem] theorem v_sz130:tsz Tryd.prog 130=some 20:=by kernel_rfl
@[go_sem] theorem v_by130:bytesOf Tryd.prog 130=some 160:=by kernel_rfl
@[go_sem] theorem v_zero130:tzero Tryd.prog 130=some [.int .u64 0,.int .u64 0,.int .u64 0,.int .u64 0,.int .u64 0,.int .u64 0,.int .u64 0,.int .u64 0,.int .u64 0,.int .u64 0,.int .u64 0,.int .u64 0,.int .u64 0,.int .u64 0,.int .u64 0,.int .u64 0,.int .u64 0,.int .u64 0,.int .u64 0,.int .u64 0]:=by kernel_rfl
@[go_sem] theorem v_un130:(Tryd.prog.underlying 130).isSome=true:=by kernel_rfl
@[go_sem] theorem v_bool130:isBool Tryd.prog 130=false:=by kernel_rfl
@[go_sem] theorem v_str130:isStr Tryd.prog 130=false:=by kernel_rfl
@[go_sem] theorem v_el130:elemOf' Tryd.prog 130=none:=by kernel_rfl
@[go_sem] theorem v_ix130:ixOf Tryd.prog 130=some (some 20,79):=by kernel_rfl
@[go_sem] theorem v_ar130:arrOf Tryd.prog 130=some (20,79):=by kernel_rfl
@[go_sem] theorem v_isb130:isBytes Tryd.prog 130=false:=by kernel_rfl
@[go_sem] theorem v_if130:ifaceB Tryd.prog 130=some false:=by kernel_rfl
@[go_sem] theorem v_agg131:aggOf Tryd.prog 131=some false:=by kernel_rfl
@[go_sem] theorem v_sz131:tsz Tryd.prog 131=some 1:=by kernel_rfl
@[go_sem] theorem v_by131:bytesOf Tryd.prog 131=some 4:=by kernel_rfl
@[go_sem] theorem v_zero131:tzero Tryd.prog 131=some [.int .u32 0]:=by kernel_rfl
@[go_sem] theorem v_ik131:intKind Tryd.prog 131=some .u32:=by kernel_rfl
@[go_sem] theorem v_un131:(Tryd.prog.underlying 131).isSome=true:=by kernel_rfl
@[go_sem] theorem v_bool131:isBool Tryd.prog 131=false:=by kernel_rfl
@[go_sem] theorem v_str131:isStr Tryd.prog 131=false:=by kernel_rfl
@[go_sem] theorem v_el131:elemOf' Tryd.prog 131=none:=by kernel_rfl
@[go_sem] theorem v_isb131:isBytes Tryd.prog 131=false:=by kernel_rfl
@[go_sem] theorem v_if131:ifaceB Tryd.prog 131=some false:=by kernel_rfl
@[go_sem] theorem v_agg132:aggOf Tryd.prog 132=some true:=by kernel_rfl
@[go_sem] theorem v_sz132:tsz Tryd.prog 132=some 65:=by kernel_rfl
@[go_sem] theorem v_by132:bytesOf Tryd.prog 132=some 65:=by kernel_rfl
@[go_sem] theorem v_un132:(Tryd.prog.underlying 132).isSome=true:=by kernel_rfl
@[go_sem] theorem v_bool132:isBool Tryd.prog 132=false:=by kernel_rfl
@[go_sem] theorem v_str132:isStr Tryd.prog 132=false:=by kernel_rfl
@[go_sem] theorem v_el132:elemOf' Tryd.prog 132=none:=by kernel_rfl
@[go_sem] theorem v_ix132:ixOf Tryd.prog 132=some (some 65,5):=by kernel_rfl
@[go_sem] theorem v_ar132:arrOf Tryd.prog 132=some (65,5):=by kernel_rfl
@[go_sem] theorem v_isb132:isBytes Tryd.prog 132=false:=by kernel_rfl
@[go_sem] theorem v_if132:ifaceB Tryd.prog 132=some false:=by kernel_rfl
@[go_sem] theorem v_agg135:aggOf Tryd.prog 135=some true:=by kernel_rfl
@[go_sem] theorem v_sz135:tsz Tryd.prog 135=some 32:=by kernel_rfl
@[go_sem] theorem v_by135:bytesOf Tryd.prog 135=some 32:=by kernel_rfl
@[go_sem] theorem v_zero135:tzero Tryd.prog 135=some [.int .u8 0,.int .u8 0,.int .u8 0,.int .u8 0,.int .u8 0,.int .u8 0,.int .u8 0,.int .u8 0,.int .u8 0,.int .u8 0,.int .u8 0,.int .u8 0,.int .u8 0,.int .u8 0,.int .u8 0,.int .u8 0,.int .u8 0,.int .u8 0,.int .u8 0,.int .u8 0,.int .u8 0,.int .u8 0,.int .u8 0,.int .u8 0,.int .u8 0,.int .u8 0,.int .u8 0,.int .u8 0,.int .u8 0,.int .u8 0,.int .u8 0,.int .u8 0]:=by kernel_rfl
@[go_sem] theorem v_un135:(Tryd.prog.underlying 135).isSome=true:=by kernel_rfl
@[go_sem] theorem v_bool135:isBool Tryd.prog 135=false:=by kernel_rfl
@[go_sem] theorem v_str135:isStr Tryd.prog 135=false:=by kernel_rfl
@[go_sem] theorem v_el135:elemOf' Tryd.prog 135=none:=by kernel_rfl
@[go_sem] theorem v_ix135:ixOf Tryd.prog 135=some (some 32,5):=by kernel_rfl
@[go_sem] theorem v_ar135:arrOf Tryd.prog 135=some (32,5):=by kernel_rfl
@[go_sem] theorem v_isb135:isBytes Tryd.prog 135=false:=by kernel_rfl
@[go_sem] theorem v_if135:ifaceB Tryd.prog 135=some false:=by kernel_rfl
@[go_sem] theorem v_agg136:aggOf Tryd.prog 136=some true:=by kernel_rfl
@[go_sem] theorem v_sz136:tsz Tryd.prog 136=some 64:=by kernel_rfl
@[go_sem] theorem v_by136:bytesOf Tryd.prog 136=some 64:=by kernel_rfl
@[go_sem] theorem v_zero136:tzero Tryd.prog 136=some [.int .u8 0,.int .u8 0,.int .u8 0,.int .u8 0,.int .u8 0,.int .u8 0,.int .u8 0,.int .u8 0,.int .u8 0,.int .u8 0,.int .u8 0,.int .u8 0,.int .u8 0,.int .u8 0,.int .u8 0,.int .u8 0,.int .u8 0,.int .u8 0,.int .u8 0,.int .u8 0,.int .u8 0,.int .u8 0,.int .u8 0,.int .u8 0,.int .u8 0,.int .u8 0,.int .u8 0,.int .u8 0,.int .u8 0,.int .u8 0,.int .u8 0,.int .u8 0,.int .u8 0,.int .u8 0,.int .u8 0,.int .u8 0,.int .u8 0,.int .u8 0,.int .u8 0,.int .u8 0,.int .u8 0,.int .u8 0,.int .u8 0,.int .u8 0,.int .u8 0,.int .u8 0,.int .u8 0,.int .u8 0,.int .u8 0,.int .u8 0,.int .u8 0,.int .u8 0,.int .u8 0,.int .u8 0,.int .u8 0,.int .u8 0,.int .u8 0,.int .u8 0,.int .u8 0,.int .u8 0,.int .u8 0,.int .u8 0,.int .u8 0,.int .u8 0]:=by kernel_rfl
@[go_sem] theorem v_un136:(Tryd.prog.underlying 136).isSome=true:=by kernel_rfl
@[go_sem] theorem v_bool136:isBool Tryd.prog 136=false:=by kernel_rfl
@[go_sem] theorem v_str136:isStr Tryd.prog 136=false:=by kernel_rfl
@[go_sem] theorem v_el136:elemOf' Tryd.prog 136=none:=by kernel_rfl
@[go_sem] theorem v_ix136:ixOf Tryd.prog 136=some (some 64,5):=by kernel_rfl
@[go_sem] theorem v_ar136:arrOf Tryd.prog 136=some (64,5):=by kernel_rfl
@[go_sem] theorem v_isb136:isBytes Tryd.prog 136=false:=by kernel_rfl
@[go_sem] theorem v_if136:ifaceB Tryd.prog 136=some false:=by kernel_rfl
@[go_sem] theorem v_pt124:ptrTo Tryd.prog 124=some 5:=by kernel_rfl
@[go_sem] theorem v_co5:Tryd.prog.cellsOf 5=1:=by kernel_rfl
@[go_sem] theorem v_eq34:eqOk Tryd.prog 34=some [1,1,1]:=by kernel_rfl
@[go_sem] theorem v_eq51:eqOk Tryd.prog 51=some [1,1,1,1]:=by kernel_rfl
@[go_sem] theorem v_eq69:eqOk Tryd.prog 69=some [1,1,1,2]:=by kernel_rfl
@[go_sem] theorem v_fn4:fnOk Tryd.prog 4=true:=by kernel_rfl
@[go_sem] theorem v_fn5:fnOk Tryd.prog 5=true:=by kernel_rfl
@[go_sem] theorem v_fn6:fnOk Tryd.prog 6=true:=by kernel_rfl
@[go_sem] theorem v_fn7:fnOk Tryd.prog 7=true:=by kernel_rfl
@[go_sem] theorem v_fn8:fnOk Tryd.prog 8=true:=by kernel_rfl
@[go_sem] theorem v_fn9:fnOk Tryd.prog 9=true:=by kernel_rfl
@[go_sem] theorem v_fn10:fnOk Tryd.prog 10=true:=by kernel_rfl
@[go_sem] theorem v_fn11:fnOk Tryd.prog 11=true:=by kernel_rfl
@[go_sem] theorem v_fn12:fnOk Tryd.prog 12=true:=by kernel_rfl
@[go_sem] theorem v_fn13:fnOk Tryd.prog 13=true:=by kernel_rfl
@[go_sem] theorem v_fn14:fnOk Tryd.prog 14=true:=by kernel_rfl
@[go_sem] theorem v_fn15:fnOk Tryd.prog 15=true:=by kernel_rfl
@[go_sem] theorem v_fn16:fnOk Tryd.prog 16=true:=by kernel_rfl
@[go_sem] theorem v_fn17:fnOk Tryd.prog 17=true:=by kernel_rfl
@[go_sem] theorem v_fn18:fnOk Tryd.prog 18=true:=by kernel_rfl
@[go_sem] theorem v_fn19:fnOk Tryd.prog 19=true:=by kernel_rfl
@[go_sem] theorem v_fn20:fnOk Tryd.prog 20=true:=by kernel_rfl
@[go_sem] theorem v_fn21:fnOk Tryd.prog 21=true:=by kernel_rfl
@[go_sem] theorem v_fn22:fnOk Tryd.prog 22=true:=by kernel_rfl
@[go_sem] theorem v_fn23:fnOk Tryd.prog 23=true:=by kernel_rfl
@[go_sem] theorem v_fn24:fnOk Tryd.prog 24=true:=by kernel_rfl
@[go_sem] theorem v_fn25:fnOk Tryd.prog 25=true:=by kernel_rfl
@[go_sem] theorem v_fn26:fnOk Tryd.prog 26=true:=by kernel_rfl
@[go_sem] theorem v_fn27:fnOk Tryd.prog 27=true:=by kernel_rfl
@[go_sem] theorem v_fn28:fnOk Tryd.prog 28=true:=by kernel_rfl
@[go_sem] theorem v_fn29:fnOk Tryd.prog 29=true:=by kernel_rfl
@[go_sem] theorem v_fn30:fnOk Tryd.prog 30=true:=by kernel_rfl
@[go_sem] theorem v_fn31:fnOk Tryd.prog 31=true:=by kernel_rfl
@[go_sem] theorem v_fn32:fnOk Tryd.prog 32=true:=by kernel_rfl
@[go_sem] theorem v_fn33:fnOk Tryd.prog 33=true:=by kernel_rfl
@[go_sem] theorem v_fn34:fnOk Tryd.prog 34=true:=by kernel_rfl
@[go_sem] theorem v_fn35:fnOk Tryd.prog 35=true:=by kernel_rfl
@[go_sem] theorem v_fn36:fnOk Tryd.prog 36=true:=by kernel_rfl
@[go_sem] theorem v_fn37:fnOk Tryd.prog 37=true:=by kernel_rfl
@[go_sem] theorem v_fn38:fnOk Tryd.prog 38=true:=by kernel_rfl
@[go_sem] theorem v_fn39:fnOk Tryd.prog 39=true:=by kernel_rfl
@[go_sem] theorem v_fn40:fnOk Tryd.prog 40=true:=by kernel_rfl
@[go_sem] theorem v_fn41:fnOk Tryd.prog 41=true:=by kernel_rfl
@[go_sem] theorem v_fn42:fnOk Tryd.prog 42=true:=by kernel_rfl
@[go_sem] theorem v_fn43:fnOk Tryd.prog 43=true:=by kernel_rfl
@[go_sem] theorem v_fn44:fnOk Tryd.prog 44=true:=by kernel_rfl
@[go_sem] theorem v_fn45:fnOk Tryd.prog 45=true:=by kernel_rfl
@[go_sem] theorem v_fn46:fnOk Tryd.prog 46=true:=by kernel_rfl
@[go_sem] theorem v_fn47:fnOk Tryd.prog 47=true:=by kernel_rfl
@[go_sem] theorem v_fn48:fnOk Tryd.prog 48=true:=by kernel_rfl
@[go_sem] theorem v_fn49:fnOk Tryd.prog 49=true:=by kernel_rfl
@[go_sem] theorem v_fn50:fnOk Tryd.prog 50=true:=by kernel_rfl
@[go_sem] theorem v_fn51:fnOk Tryd.prog 51=true:=by kernel_rfl
@[go_sem] theorem v_fn52:fnOk Tryd.prog 52=true:=by kernel_rfl
@[go_sem] theorem v_fn53:fnOk Tryd.prog 53=true:=by kernel_rfl
@[go_sem] theorem v_fn54:fnOk Tryd.prog 54=true:=by kernel_rfl
@[go_sem] theorem v_fn55:fnOk Tryd.prog 55=true:=by kernel_rfl
@[go_sem] theorem v_fn56:fnOk Tryd.prog 56=true:=by kernel_rfl
@[go_sem] theorem v_fn57:fnOk Tryd.prog 57=true:=by kernel_rfl
@[go_sem] theorem v_fn58:fnOk Tryd.prog 58=true:=by kernel_rfl
@[go_sem] theorem v_fn59:fnOk Tryd.prog 59=true:=by kernel_rfl
@[go_sem] theorem v_fn60:fnOk Tryd.prog 60=true:=by kernel_rfl
@[go_sem] theorem v_fn61:fnOk Tryd.prog 61=true:=by kernel_rfl
@[go_sem] theorem v_fn62:fnOk Tryd.prog 62=true:=by kernel_rfl
@[go_sem] theorem v_fn63:fnOk Tryd.prog 63=true:=by kernel_rfl
@[go_sem] theorem v_fn64:fnOk Tryd.prog 64=true:=by kernel_rfl
@[go_sem] theorem v_fn65:fnOk Tryd.prog 65=true:=by kernel_rfl
@[go_sem] theorem v_fn66:fnOk Tryd.prog 66=true:=by kernel_rfl
@[go_sem] theorem v_fn67:fnOk Tryd.prog 67=true:=by kernel_rfl
@[go_sem] theorem v_fn68:fnOk Tryd.prog 68=true:=by kernel_rfl
@[go_sem] theorem v_fn69:fnOk Tryd.prog 69=true:=by kernel_rfl
@[go_sem] theorem v_fn70:fnOk Tryd.prog 70=true:=by kernel_rfl
@[go_sem] theorem v_fn71:fnOk Tryd.prog 71=true:=by kernel_rfl
@[go_sem] theorem v_fn72:fnOk Tryd.prog 72=true:=by kernel_rfl
@[go_sem] theorem v_fn73:fnOk Tryd.prog 73=true:=by kernel_rfl
@[go_sem] theorem v_fn74:fnOk Tryd.prog 74=true:=by kernel_rfl
@[go_sem] theorem v_fn75:fnOk Tryd.prog 75=true:=by kernel_rfl
@[go_sem] theorem v_fn76:fnOk Tryd.prog 76=true:=by kernel_rfl
@[go_sem] theorem v_fn77:fnOk Tryd.prog 77=true:=by kernel_rfl
@[go_sem] theorem v_fn78:fnOk Tryd.prog 78=true:=by kernel_rfl
@[go_sem] theorem v_fn79:fnOk Tryd.prog 79=true:=by kernel_rfl
@[go_sem] theorem v_fn80:fnOk Tryd.prog 80=true:=by kernel_rfl
@[go_sem] theorem v_fn81:fnOk Tryd.prog 81=true:=by kernel_rfl
@[go_sem] theorem v_fn82:fnOk Tryd.prog 82=true:=by kernel_rfl
@[go_sem] theorem v_fn83:fnOk Tryd.prog 83=true:=by kernel_rfl
@[go_sem] theorem v_fn84:fnOk Tryd.prog 84=true:=by kernel_rfl
@[go_sem] theorem v_fn85:fnOk Tryd.prog 85=true:=by kernel_rfl
@[go_sem] theorem v_fn86:fnOk Tryd.prog 86=true:=by kernel_rfl
@[go_sem] theorem v_res2:Tryd.f2.results.toList=[]:=rfl
@[go_sem] theorem v_res3:Tryd.f3.results.toList=[.tmp 6]:=rfl
@[go_sem] theorem v_res4:Tryd.f4.results.toList=[.tmp 2]:=rfl
@[go_sem] theorem v_res5:Tryd.f5.results.toList=[.cell 6 28]:=rfl
@[go_sem] theorem v_res6:Tryd.f6.results.toList=[.tmp 4]:=rfl
@[go_sem] theorem v_res7:Tryd.f7.results.toList=[.tmp 2,.cell 3 34]:=rfl
@[go_sem] theorem v_res8:Tryd.f8.results.toList=[.tmp 2,.cell 3 34]:=rfl
@[go_sem] theorem v_res9:Tryd.f9.results.toList=[.tmp 4]:=rfl
@[go_sem] theorem v_res10:Tryd.f10.results.toList=[.tmp 0]:=rfl
@[go_sem] theorem v_res11:Tryd.f11.results.toList=[.tmp 2]:=rfl
@[go_sem] theorem v_res12:Tryd.f12.results.toList=[.tmp 2]:=rfl
@[go_sem] theorem v_res13:Tryd.f13.results.toList=[.tmp 2]:=rfl
@[go_sem] theorem v_res14:Tryd.f14.results.toList=[.tmp 4]:=rfl
@[go_sem] theorem v_res15:Tryd.f15.results.toList=[.cell 4 53]:=rfl
@[go_sem] theorem v_res16:Tryd.f16.results.toList=[.tmp 2]:=rfl
@[go_sem] theorem v_res17:Tryd.f17.results.toList=[.tmp 2]:=rfl
@[go_sem] theorem v_res18:Tryd.f18.results.toList=[.cell 4 34]:=rfl
@[go_sem] theorem v_res19:Tryd.f19.results.toList=[.tmp 2]:=rfl
@[go_sem] theorem v_res20:Tryd.f20.results.toList=[.tmp 4,.tmp 5]:=rfl
@[go_sem] theorem v_res21:Tryd.f21.results.toList=[.tmp 4]:=rfl
@[go_sem] theorem v_res22:Tryd.f22.results.toList=[.tmp 2,.tmp 3]:=rfl
@[go_sem] theorem v_res23:Tryd.f23.results.toList=[.tmp 2]:=rfl
@[go_sem] theorem v_res24:Tryd.f24.results.toList=[.tmp 2]:=rfl
@[go_sem] theorem v_res25:Tryd.f25.results.toList=[.tmp 2]:=rfl
@[go_sem] theorem v_res26:Tryd.f26.results.toList=[.tmp 2]:=rfl
@[go_sem] theorem v_res27:Tryd.f27.results.toList=[.tmp 2,.tmp 3]:=rfl
@[go_sem] theorem v_res28:Tryd.f28.results.toList=[.tmp 2,.tmp 3]:=rfl
@[go_sem] theorem v_res29:Tryd.f29.results.toList=[.tmp 2]:=rfl
@[go_sem] theorem v_res30:Tryd.f30.results.toList=[.tmp 4]:=rfl
@[go_sem] theorem v_res31:Tryd.f31.results.toList=[.tmp 2]:=rfl
@[go_sem] theorem v_res32:Tryd.f32.results.toList=[.tmp 4]:=rfl
@[go_sem] theorem v_res33:Tryd.f33.results.toList=[.tmp 2]:=rfl
@[go_sem] theorem v_res34:Tryd.f34.results.toList=[.tmp 2]:=rfl
@[go_sem] theorem v_res35:Tryd.f35.results.toList=[.tmp 4]:=rfl
@[go_sem] theorem v_res36:Tryd.f36.results.toList=[.cell 2 51]:=rfl
@[go_sem] theorem v_res37:Tryd.f37.results.toList=[.cell 4 51]:=rfl
@[go_sem] theorem v_res38:Tryd.f38.results.toList=[.cell 2 51]:=rfl
@[go_sem] theorem v_res39:Tryd.f39.results.toList=[.tmp 2,.tmp 3]:=rfl
@[go_sem] theorem v_res40:Tryd.f40.results.toList=[.tmp 2]:=rfl
@[go_sem] theorem v_res41:Tryd.f41.results.toList=[.tmp 6,.tmp 7]:=rfl
@[go_sem] theorem v_res42:Tryd.f42.results.toList=[.tmp 2]:=rfl
@[go_sem] theorem v_res43:Tryd.f43.results.toList=[.tmp 2]:=rfl
@[go_sem] theorem v_res44:Tryd.f44.results.toList=[.tmp 2,.tmp 3]:=rfl
@[go_sem] theorem v_res45:Tryd.f45.results.toList=[.tmp 2]:=rfl
@[go_sem] theorem v_res46:Tryd.f46.results.toList=[.tmp 2]:=rfl
@[go_sem] theorem v_res47:Tryd.f47.results.toList=[.tmp 4]:=rfl
@[go_sem] theorem v_res48:Tryd.f48.results.toList=[.tmp 4]:=rfl
@[go_sem] theorem v_res49:Tryd.f49.results.toList=[.tmp 4]:=rfl
@[go_sem] theorem v_res50:Tryd.f50.results.toList=[.tmp 2]:=rfl
@[go_sem] theorem v_res51:Tryd.f51.results.toList=[.tmp 0]:=rfl
@[go_sem] theorem v_res52:Tryd.f52.results.toList=[.tmp 0]:=rfl
@[go_sem] theorem v_res53:Tryd.f53.results.toList=[.tmp 2]:=rfl
@[go_sem] theorem v_res54:Tryd.f54.results.toList=[.tmp 2]:=rfl
@[go_sem] theorem v_res55:Tryd.f55.results.toList=[.tmp 2,.tmp 3]:=rfl
@[go_sem] theorem v_res56:Tryd.f56.results.toList=[.tmp 6,.tmp 7]:=rfl
@[go_sem] theorem v_res57:Tryd.f57.results.toList=[.tmp 2]:=rfl
@[go_sem] theorem v_res58:Tryd.f58.results.toList=[.tmp 0]:=rfl
@[go_sem] theorem v_res59:Tryd.f59.results.toList=[.tmp 2]:=rfl
@[go_sem] theorem v_res60:Tryd.f60.results.toList=[.tmp 2]:=rfl
@[go_sem] theorem v_res61:Tryd.f61.results.toList=[.tmp 6,.tmp 7]:=rfl
@[go_sem] theorem v_res62:Tryd.f62.results.toList=[.tmp 10]:=rfl
@[go_sem] theorem v_res63:Tryd.f63.results.toList=[.tmp 4]:=rfl
@[go_sem] theorem v_res64:Tryd.f64.results.toList=[.tmp 6,.tmp 7]:=rfl
@[go_sem] theorem v_res65:Tryd.f65.results.toList=[.tmp 4]:=rfl
@[go_sem] theorem v_res66:Tryd.f66.results.toList=[.tmp 4]:=rfl
@[go_sem] theorem v_res67:Tryd.f67.results.toList=[.tmp 6]:=rfl
@[go_sem] theorem v_res68:Tryd.f68.results.toList=[.tmp 6]:=rfl
@[go_sem] theorem v_res69:Tryd.f69.results.toList=[.tmp 4]:=rfl
@[go_sem] theorem v_res70:Tryd.f70.results.toList=[.tmp 2]:=rfl
@[go_sem] theorem v_res71:Tryd.f71.results.toList=[.tmp 2]:=rfl
@[go_sem] theorem v_res72:Tryd.f72.results.toList=[.tmp 2]:=rfl
@[go_sem] theorem v_res73:Tryd.f73.results.toList=[.tmp 2]:=rfl
@[go_sem] theorem v_res74:Tryd.f74.results.toList=[.tmp 2]:=rfl
@[go_sem] theorem v_res75:Tryd.f75.results.toList=[.tmp 2]:=rfl
@[go_sem] theorem v_res76:Tryd.f76.results.toList=[.tmp 2]:=rfl
@[go_sem] theorem v_res77:Tryd.f77.results.toList=[]:=rfl
@[go_sem] theorem v_res78:Tryd.f78.results.toList=[.tmp 10,.tmp 11]:=rfl
@[go_sem] theorem v_res79:Tryd.f79.results.toList=[.tmp 2]:=rfl
@[go_sem] theorem v_res80:Tryd.f80.results.toList=[.tmp 2]:=rfl
@[go_sem] theorem v_res81:Tryd.f81.results.toList=[.tmp 2]:=rfl
@[go_sem] theorem v_res82:Tryd.f82.results.toList=[.tmp 2]:=rfl
@[go_sem] theorem v_res83:Tryd.f83.results.toList=[.tmp 2]:=rfl
@[go_sem] theorem v_res84:Tryd.f84.results.toList=[.tmp 2]:=rfl
@[go_sem] theorem v_res85:Tryd.f85.results.toList=[.tmp 2]:=rfl
@[go_sem] theorem v_res86:Tryd.f86.results.toList=[.tmp 2]:=rfl
@[go_sem] theorem v_res115:Tryd.f115.results.toList=[]:=rfl
theorem v_mixed:Tryd.prog.follows .mixedOrders=true:=by kernel_rfl
end Go.Proofs.YtgdchoahbiagbaaDoor
