import Derived.Test.YtocjejladeeckaaDoorProg
import Derived.Test.YtocjejladeeckaaDoorVu3
import Derived.KernelRfl
set_option linter.unusedVariables false
set_option maxRecDepth 100000
set_option linter.unusedSectionVars false
namespace Go.Proofs.YtocjejladeeckaaDoor
open Go.Vs
@[go_sem] theorem v_agg2 : aggOf Tryd.prog 2 = some false := by kernel_rfl
@[go_sem] theorem v_sz2 : tsz Tryd.prog 2 = some 1 := by kernel_rfl
@[go_sem] theorem v_by2 : bytesOf Tryd.prog 2 = some 8 := by kernel_rfl
@[go_sem] theorem v_zero2 : tzero Tryd.prog 2 = some [.int .i64 0] := by kernel_rfl
@[go_sem] theorem v_ik2 : intKind Tryd.prog 2 = some .i64 := by kernel_rfl
@[go_sem] theorem v_un2 : (Tryd.prog.underlying 2).isSome = true := by kernel_rfl
@[go_sem] theorem v_bool2 : isBool Tryd.prog 2 = false := by kernel_rfl
@[go_sem] theorem v_str2 : isStr Tryd.prog 2 = false := by kernel_rfl
@[go_sem] theorem v_el2 : elemOf' Tryd.prog 2 = none := by kernel_rfl
@[go_sem] theorem v_isb2 : isBytes Tryd.prog 2 = false := by kernel_rfl
@[go_sem] theorem v_if2 : ifaceB Tryd.prog 2 = some false := by kernel_rfl
@[go_sem] theorem v_agg3 : aggOf Tryd.prog 3 = some false := by kernel_rfl
@[go_sem] theorem v_sz3 : tsz Tryd.prog 3 = some 1 := by kernel_rfl
@[go_sem] theorem v_by3 : bytesOf Tryd.prog 3 = some 8 := by kernel_rfl
@[go_sem] theorem v_zero3 : tzero Tryd.prog 3 = some [.int .i64 0] := by kernel_rfl
@[go_sem] theorem v_ik3 : intKind Tryd.prog 3 = some .i64 := by kernel_rfl
@[go_sem] theorem v_un3 : (Tryd.prog.underlying 3).isSome = true := by kernel_rfl
@[go_sem] theorem v_bool3 : isBool Tryd.prog 3 = false := by kernel_rfl
@[go_sem] theorem v_str3 : isStr Tryd.prog 3 = false := by kernel_rfl
@[go_sem] theorem v_el3 : elemOf' Tryd.prog 3 = none := by kernel_rfl
@[go_sem] theorem v_isb3 : isBytes Tryd.prog 3 = false := by kernel_rfl
@[go_sem] theorem v_if3 : ifaceB Tryd.prog 3 = some false := by kernel_rfl
@[go_sem] theorem v_agg4 : aggOf Tryd.prog 4 = some false := by kernel_rfl
@[go_sem] theorem v_sz4 : tsz Tryd.prog 4 = some 1 := by kernel_rfl
@[go_sem] theorem v_by4 : bytesOf Tryd.prog 4 = some 1 := by kernel_rfl
@[go_sem] theorem v_zero4 : tzero Tryd.prog 4 = some [.bool false] := by kernel_rfl
@[go_sem] theorem v_un4 : (Tryd.prog.underlying 4).isSome = true := by kernel_rfl
@[go_sem] theorem v_bool4 : isBool Tryd.prog 4 = true := by kernel_rfl
@[go_sem] theorem v_str4 : isStr Tryd.prog 4 = false := by kernel_rfl
@[go_sem] theorem v_el4 : elemOf' Tryd.prog 4 = none := by kernel_rfl
@[go_sem] theorem v_isb4 : isBytes Tryd.prog 4 = false := by kernel_rfl
@[go_sem] theorem v_if4 : ifaceB Tryd.prog 4 = some false := by kernel_rfl
@[go_sem] theorem v_agg5 : aggOf Tryd.prog 5 = some false := by kernel_rfl
@[go_sem] theorem v_sz5 : tsz Tryd.prog 5 = some 1 := by kernel_rfl
@[go_sem] theorem v_by5 : bytesOf Tryd.prog 5 = some 1 := by kernel_rfl
@[go_sem] theorem v_zero5 : tzero Tryd.prog 5 = some [.int .u8 0] := by kernel_rfl
@[go_sem] theorem v_ik5 : intKind Tryd.prog 5 = some .u8 := by kernel_rfl
@[go_sem] theorem v_un5 : (Tryd.prog.underlying 5).isSome = true := by kernel_rfl
@[go_sem] theorem v_bool5 : isBool Tryd.prog 5 = false := by kernel_rfl
@[go_sem] theorem v_str5 : isStr Tryd.prog 5 = false := by kernel_rfl
@[go_sem] theorem v_el5 : elemOf' Tryd.prog 5 = none := by kernel_rfl
@[go_sem] theorem v_isb5 : isBytes Tryd.prog 5 = false := by kernel_rfl
@[go_sem] theorem v_if5 : ifaceB Tryd.prog 5 = some false := by kernel_rfl
@[go_sem] theorem v_agg9 : aggOf Tryd.prog 9 = some false := by kernel_rfl
@[go_sem] theorem v_sz9 : tsz Tryd.prog 9 = some 1 := by kernel_rfl
@[go_sem] theorem v_by9 : bytesOf Tryd.prog 9 = some 16 := by kernel_rfl
@[go_sem] theorem v_zero9 : tzero Tryd.prog 9 = some [.str ⟨#[]⟩] := by kernel_rfl
@[go_sem] theorem v_un9 : (Tryd.prog.underlying 9).isSome = true := by kernel_rfl
@[go_sem] theorem v_bool9 : isBool Tryd.prog 9 = false := by kernel_rfl
@[go_sem] theorem v_str9 : isStr Tryd.prog 9 = true := by kernel_rfl
@[go_sem] theorem v_el9 : elemOf' Tryd.prog 9 = none := by kernel_rfl
@[go_sem] theorem v_isb9 : isBytes Tryd.prog 9 = false := by kernel_rfl
@[go_sem] theorem v_if9 : ifaceB Tryd.prog 9 = some false := by kernel_rfl
@[go_sem] theorem v_agg21 : aggOf Tryd.prog 21 = some false := by kernel_rfl
@[go_sem] theorem v_sz21 : tsz Tryd.prog 21 = some 1 := by kernel_rfl
@[go_sem] theorem v_by21 : bytesOf Tryd.prog 21 = some 4 := by kernel_rfl
@[go_sem] theorem v_zero21 : tzero Tryd.prog 21 = some [.int .i32 0] := by kernel_rfl
@[go_sem] theorem v_ik21 : intKind Tryd.prog 21 = some .i32 := by kernel_rfl
@[go_sem] theorem v_un21 : (Tryd.prog.underlying 21).isSome = true := by kernel_rfl
@[go_sem] theorem v_bool21 : isBool Tryd.prog 21 = false := by kernel_rfl
@[go_sem] theorem v_str21 : isStr Tryd.prog 21 = false := by kernel_rfl
@[go_sem] theorem v_el21 : elemOf' Tryd.prog 21 = none := by kernel_rfl
@[go_sem] theorem v_isb21 : isBytes Tryd.prog 21 = false := by kernel_rfl
@[go_sem] theorem v_if21 : ifaceB Tryd.prog 21 = some false := by kernel_rfl
@[go_sem] theorem v_agg23 : aggOf Tryd.prog 23 = some false := by kernel_rfl
@[go_sem] theorem v_sz23 : tsz Tryd.prog 23 = some 1 := by kernel_rfl
@[go_sem] theorem v_by23 : bytesOf Tryd.prog 23 = some 24 := by kernel_rfl
@[go_sem] theorem v_zero23 : tzero Tryd.prog 23 = some [.nils] := by kernel_rfl
@[go_sem] theorem v_un23 : (Tryd.prog.underlying 23).isSome = true := by kernel_rfl
@[go_sem] theorem v_bool23 : isBool Tryd.prog 23 = false := by kernel_rfl
@[go_sem] theorem v_str23 : isStr Tryd.prog 23 = false := by kernel_rfl
@[go_sem] theorem v_el23 : elemOf' Tryd.prog 23 = some 43 := by kernel_rfl
@[go_sem] theorem v_isb23 : isBytes Tryd.prog 23 = false := by kernel_rfl
@[go_sem] theorem v_if23 : ifaceB Tryd.prog 23 = some false := by kernel_rfl
@[go_sem] theorem v_agg24 : aggOf Tryd.prog 24 = some false := by kernel_rfl
@[go_sem] theorem v_sz24 : tsz Tryd.prog 24 = some 1 := by kernel_rfl
@[go_sem] theorem v_by24 : bytesOf Tryd.prog 24 = some 8 := by kernel_rfl
@[go_sem] theorem v_zero24 : tzero Tryd.prog 24 = some [.int .i64 0] := by kernel_rfl
@[go_sem] theorem v_ik24 : intKind Tryd.prog 24 = some .i64 := by kernel_rfl
@[go_sem] theorem v_un24 : (Tryd.prog.underlying 24).isSome = true := by kernel_rfl
@[go_sem] theorem v_bool24 : isBool Tryd.prog 24 = false := by kernel_rfl
@[go_sem] theorem v_str24 : isStr Tryd.prog 24 = false := by kernel_rfl
@[go_sem] theorem v_el24 : elemOf' Tryd.prog 24 = none := by kernel_rfl
@[go_sem] theorem v_isb24 : isBytes Tryd.prog 24 = false := by kernel_rfl
@[go_sem] theorem v_if24 : ifaceB Tryd.prog 24 = some false := by kernel_rfl
@[go_sem] theorem v_agg26 : aggOf Tryd.prog 26 = some true := by kernel_rfl
@[go_sem] theorem v_sz26 : tsz Tryd.prog 26 = some 3 := by kernel_rfl
@[go_sem] theorem v_by26 : bytesOf Tryd.prog 26 = some 24 := by kernel_rfl
@[go_sem] theorem v_zero26 : tzero Tryd.prog 26 = some [.int .i64 0, .int .i64 0, .int .i64 0] := by kernel_rfl
@[go_sem] theorem v_plc26 : plc Tryd.prog 26 = some [(0, 1), (1, 1), (2, 1)] := by kernel_rfl
@[go_sem] theorem v_un26 : (Tryd.prog.underlying 26).isSome = true := by kernel_rfl
@[go_sem] theorem v_bool26 : isBool Tryd.prog 26 = false := by kernel_rfl
@[go_sem] theorem v_str26 : isStr Tryd.prog 26 = false := by kernel_rfl
@[go_sem] theorem v_el26 : elemOf' Tryd.prog 26 = none := by kernel_rfl
@[go_sem] theorem v_isb26 : isBytes Tryd.prog 26 = false := by kernel_rfl
@[go_sem] theorem v_if26 : ifaceB Tryd.prog 26 = some false := by kernel_rfl
@[go_sem] theorem v_agg32 : aggOf Tryd.prog 32 = some false := by kernel_rfl
@[go_sem] theorem v_sz32 : tsz Tryd.prog 32 = some 1 := by kernel_rfl
@[go_sem] theorem v_by32 : bytesOf Tryd.prog 32 = some 24 := by kernel_rfl
@[go_sem] theorem v_zero32 : tzero Tryd.prog 32 = some [.nils] := by kernel_rfl
@[go_sem] theorem v_un32 : (Tryd.prog.underlying 32).isSome = true := by kernel_rfl
@[go_sem] theorem v_bool32 : isBool Tryd.prog 32 = false := by kernel_rfl
@[go_sem] theorem v_str32 : isStr Tryd.prog 32 = false := by kernel_rfl
@[go_sem] theorem v_el32 : elemOf' Tryd.prog 32 = some 88 := by kernel_rfl
@[go_sem] theorem v_isb32 : isBytes Tryd.prog 32 = false := by kernel_rfl
@[go_sem] theorem v_if32 : ifaceB Tryd.prog 32 = some false := by kernel_rfl
@[go_sem] theorem v_agg33 : aggOf Tryd.prog 33 = some false := by kernel_rfl
@[go_sem] theorem v_sz33 : tsz Tryd.prog 33 = some 1 := by kernel_rfl
@[go_sem] theorem v_by33 : bytesOf Tryd.prog 33 = some 24 := by kernel_rfl
@[go_sem] theorem v_zero33 : tzero Tryd.prog 33 = some [.nils] := by kernel_rfl
@[go_sem] theorem v_un33 : (Tryd.prog.underlying 33).isSome = true := by kernel_rfl
@[go_sem] theorem v_bool33 : isBool Tryd.prog 33 = false := by kernel_rfl
@[go_sem] theorem v_str33 : isStr Tryd.prog 33 = false := by kernel_rfl
@[go_sem] theorem v_el33 : elemOf' Tryd.prog 33 = some 5 := by kernel_rfl
@[go_sem] theorem v_isb33 : isBytes Tryd.prog 33 = true := by kernel_rfl
@[go_sem] theorem v_if33 : ifaceB Tryd.prog 33 = some false := by kernel_rfl
@[go_sem] theorem v_agg35 : aggOf Tryd.prog 35 = some false := by kernel_rfl
@[go_sem] theorem v_sz35 : tsz Tryd.prog 35 = some 1 := by kernel_rfl
@[go_sem] theorem v_by35 : bytesOf Tryd.prog 35 = some 24 := by kernel_rfl
@[go_sem] theorem v_zero35 : tzero Tryd.prog 35 = some [.nils] := by kernel_rfl
@[go_sem] theorem v_un35 : (Tryd.prog.underlying 35).isSome = true := by kernel_rfl
@[go_sem] theorem v_bool35 : isBool Tryd.prog 35 = false := by kernel_rfl
@[go_sem] theorem v_str35 : isStr Tryd.prog 35 = false := by kernel_rfl
@[go_sem] theorem v_el35 : elemOf' Tryd.prog 35 = some 86 := by kernel_rfl
@[go_sem] theorem v_isb35 : isBytes Tryd.prog 35 = false := by kernel_rfl
@[go_sem] theorem v_if35 : ifaceB Tryd.prog 35 = some false := by kernel_rfl
@[go_sem] theorem v_agg36 : aggOf Tryd.prog 36 = some false := by kernel_rfl
@[go_sem] theorem v_sz36 : tsz Tryd.prog 36 = some 1 := by kernel_rfl
@[go_sem] theorem v_by36 : bytesOf Tryd.prog 36 = some 24 := by kernel_rfl
@[go_sem] theorem v_zero36 : tzero Tryd.prog 36 = some [.nils] := by kernel_rfl
@[go_sem] theorem v_un36 : (Tryd.prog.underlying 36).isSome = true := by kernel_rfl
@[go_sem] theorem v_bool36 : isBool Tryd.prog 36 = false := by kernel_rfl
@[go_sem] theorem v_str36 : isStr Tryd.prog 36 = false := by kernel_rfl
@[go_sem] theorem v_el36 : elemOf' Tryd.prog 36 = some 65 := by kernel_rfl
@[go_sem] theorem v_isb36 : isBytes Tryd.prog 36 = false := by kernel_rfl
@[go_sem] theorem v_if36 : ifaceB Tryd.prog 36 = some false := by kernel_rfl
@[go_sem] theorem v_agg38 : aggOf Tryd.prog 38 = some true := by kernel_rfl
@[go_sem] theorem v_sz38 : tsz Tryd.prog 38 = some 2 := by kernel_rfl
@[go_sem] theorem v_by38 : bytesOf Tryd.prog 38 = some 48 := by kernel_rfl
@[go_sem] theorem v_zero38 : tzero Tryd.prog 38 = some [.nils, .nils] := by kernel_rfl
@[go_sem] theorem v_plc38 : plc Tryd.prog 38 = some [(0, 1), (1, 1)] := by kernel_rfl
@[go_sem] theorem v_un38 : (Tryd.prog.underlying 38).isSome = true := by kernel_rfl
@[go_sem] theorem v_bool38 : isBool Tryd.prog 38 = false := by kernel_rfl
@[go_sem] theorem v_str38 : isStr Tryd.prog 38 = false := by kernel_rfl
@[go_sem] theorem v_el38 : elemOf' Tryd.prog 38 = none := by kernel_rfl
@[go_sem] theorem v_isb38 : isBytes Tryd.prog 38 = false := by kernel_rfl
@[go_sem] theorem v_if38 : ifaceB Tryd.prog 38 = some false := by kernel_rfl
@[go_sem] theorem v_agg43 : aggOf Tryd.prog 43 = some true := by kernel_rfl
@[go_sem] theorem v_sz43 : tsz Tryd.prog 43 = some 4 := by kernel_rfl
@[go_sem] theorem v_by43 : bytesOf Tryd.prog 43 = some 40 := by kernel_rfl
@[go_sem] theorem v_zero43 : tzero Tryd.prog 43 = some [.int .i64 0, .int .i64 0, .int .i64 0, .str ⟨#[]⟩] := by kernel_rfl
@[go_sem] theorem v_plc43 : plc Tryd.prog 43 = some [(0, 1), (1, 1), (2, 1), (3, 1)] := by kernel_rfl
@[go_sem] theorem v_un43 : (Tryd.prog.underlying 43).isSome = true := by kernel_rfl
@[go_sem] theorem v_bool43 : isBool Tryd.prog 43 = false := by kernel_rfl
@[go_sem] theorem v_str43 : isStr Tryd.prog 43 = false := by kernel_rfl
@[go_sem] theorem v_el43 : elemOf' Tryd.prog 43 = none := by kernel_rfl
@[go_sem] theorem v_isb43 : isBytes Tryd.prog 43 = false := by kernel_rfl
@[go_sem] theorem v_if43 : ifaceB Tryd.prog 43 = some false := by kernel_rfl
@[go_sem] theorem v_agg44 : aggOf Tryd.prog 44 = some false := by kernel_rfl
@[go_sem] theorem v_sz44 : tsz Tryd.prog 44 = some 1 := by kernel_rfl
@[go_sem] theorem v_by44 : bytesOf Tryd.prog 44 = some 24 := by kernel_rfl
@[go_sem] theorem v_zero44 : tzero Tryd.prog 44 = some [.nils] := by kernel_rfl
@[go_sem] theorem v_un44 : (Tryd.prog.underlying 44).isSome = true := by kernel_rfl
@[go_sem] theorem v_bool44 : isBool Tryd.prog 44 = false := by kernel_rfl
@[go_sem] theorem v_str44 : isStr Tryd.prog 44 = false := by kernel_rfl
@[go_sem] theorem v_el44 : elemOf' Tryd.prog 44 = some 9 := by kernel_rfl
@[go_sem] theorem v_isb44 : isBytes Tryd.prog 44 = false := by kernel_rfl
@[go_sem] theorem v_if44 : ifaceB Tryd.prog 44 = some false := by kernel_rfl
@[go_sem] theorem v_agg46 : aggOf Tryd.prog 46 = some false := by kernel_rfl
@[go_sem] theorem v_sz46 : tsz Tryd.prog 46 = some 1 := by kernel_rfl
@[go_sem] theorem v_by46 : bytesOf Tryd.prog 46 = some 24 := by kernel_rfl
@[go_sem] theorem v_zero46 : tzero Tryd.prog 46 = some [.nils] := by kernel_rfl
@[go_sem] theorem v_un46 : (Tryd.prog.underlying 46).isSome = true := by kernel_rfl
@[go_sem] theorem v_bool46 : isBool Tryd.prog 46 = false := by kernel_rfl
@[go_sem] theorem v_str46 : isStr Tryd.prog 46 = false := by kernel_rfl
@[go_sem] theorem v_el46 : elemOf' Tryd.prog 46 = some 49 := by kernel_rfl
@[go_sem] theorem v_isb46 : isBytes Tryd.prog 46 = false := by kernel_rfl
@[go_sem] theorem v_if46 : ifaceB Tryd.prog 46 = some false := by kernel_rfl
@[go_sem] theorem v_agg49 : aggOf Tryd.prog 49 = some true := by kernel_rfl
@[go_sem] theorem v_sz49 : tsz Tryd.prog 49 = some 6 := by kernel_rfl
@[go_sem] theorem v_by49 : bytesOf Tryd.prog 49 = some 48 := by kernel_rfl
@[go_sem] theorem v_zero49 : tzero Tryd.prog 49 = some [.int .i32 0, .int .i64 0, .int .i64 0, .int .i64 0, .int .i64 0, .bool false] := by kernel_rfl
@[go_sem] theorem v_plc49 : plc Tryd.prog 49 = some [(0, 1), (1, 1), (2, 1), (3, 1), (4, 1), (5, 1)] := by kernel_rfl
@[go_sem] theorem v_un49 : (Tryd.prog.underlying 49).isSome = true := by kernel_rfl
@[go_sem] theorem v_bool49 : isBool Tryd.prog 49 = false := by kernel_rfl
@[go_sem] theorem v_str49 : isStr Tryd.prog 49 = false := by kernel_rfl
@[go_sem] theorem v_el49 : elemOf' Tryd.prog 49 = none := by kernel_rfl
@[go_sem] theorem v_isb49 : isBytes Tryd.prog 49 = false := by kernel_rfl
@[go_sem] theorem v_if49 : ifaceB Tryd.prog 49 = some false := by kernel_rfl
@[go_sem] theorem v_agg53 : aggOf Tryd.prog 53 = some true := by kernel_rfl
@[go_sem] theorem v_sz53 : tsz Tryd.prog 53 = some 4 := by kernel_rfl
@[go_sem] theorem v_by53 : bytesOf Tryd.prog 53 = some 32 := by kernel_rfl
@[go_sem] theorem v_zero53 : tzero Tryd.prog 53 = some [.int .i64 0, .int .i64 0, .int .i64 0, .int .i64 0] := by kernel_rfl
@[go_sem] theorem v_plc53 : plc Tryd.prog 53 = some [(0, 1), (1, 1), (2, 1), (3, 1)] := by kernel_rfl
@[go_sem] theorem v_un53 : (Tryd.prog.underlying 53).isSome = true := by kernel_rfl
@[go_sem] theorem v_bool53 : isBool Tryd.prog 53 = false := by kernel_rfl
@[go_sem] theorem v_str53 : isStr Tryd.prog 53 = false := by kernel_rfl
@[go_sem] theorem v_el53 : elemOf' Tryd.prog 53 = none := by kernel_rfl
@[go_sem] theorem v_isb53 : isBytes Tryd.prog 53 = false := by kernel_rfl
@[go_sem] theorem v_if53 : ifaceB Tryd.prog 53 = some false := by kernel_rfl
@[go_sem] theorem v_agg55 : aggOf Tryd.prog 55 = some true := by kernel_rfl
@[go_sem] theorem v_sz55 : tsz Tryd.prog 55 = some 13 := by kernel_rfl
@[go_sem] theorem v_by55 : bytesOf Tryd.prog 55 = some 128 := by kernel_rfl
@[go_sem] theorem v_zero55 : tzero Tryd.prog 55 = some [.int .i64 0, .bool false, .int .i64 0, .int .i64 0, .int .i64 0, .int .i64 0, .int .i64 0, .int .i64 0, .int .i64 0, .int .i64 0, .int .i64 0, .str ⟨#[]⟩, .nils] := by kernel_rfl
@[go_sem] theorem v_plc55 : plc Tryd.prog 55 = some [(0, 1), (1, 1), (2, 1), (3, 4), (7, 4), (11, 1), (12, 1)] := by kernel_rfl
@[go_sem] theorem v_un55 : (Tryd.prog.underlying 55).isSome = true := by kernel_rfl
@[go_sem] theorem v_bool55 : isBool Tryd.prog 55 = false := by kernel_rfl
@[go_sem] theorem v_str55 : isStr Tryd.prog 55 = false := by kernel_rfl
@[go_sem] theorem v_el55 : elemOf' Tryd.prog 55 = none := by kernel_rfl
@[go_sem] theorem v_isb55 : isBytes Tryd.prog 55 = false := by kernel_rfl
@[go_sem] theorem v_if55 : ifaceB Tryd.prog 55 = some false := by kernel_rfl
@[go_sem] theorem v_agg57 : aggOf Tryd.prog 57 = some true := by kernel_rfl
@[go_sem] theorem v_sz57 : tsz Tryd.prog 57 = some 5 := by kernel_rfl
@[go_sem] theorem v_by57 : bytesOf Tryd.prog 57 = some 40 := by kernel_rfl
@[go_sem] theorem v_zero57 : tzero Tryd.prog 57 = some [.int .i64 0, .int .i64 0, .int .i64 0, .int .i64 0, .int .i64 0] := by kernel_rfl
@[go_sem] theorem v_plc57 : plc Tryd.prog 57 = some [(0, 1), (1, 1), (2, 1), (3, 1), (4, 1)] := by kernel_rfl
@[go_sem] theorem v_un57 : (Tryd.prog.underlying 57).isSome = true := by kernel_rfl
@[go_sem] theorem v_bool57 : isBool Tryd.prog 57 = false := by kernel_rfl
@[go_sem] theorem v_str57 : isStr Tryd.prog 57 = false := by kernel_rfl
@[go_sem] theorem v_el57 : elemOf' Tryd.prog 57 = none := by kernel_rfl
@[go_sem] theorem v_isb57 : isBytes Tryd.prog 57 = false := by kernel_rfl
@[go_sem] theorem v_if57 : ifaceB Tryd.prog 57 = some false := by kernel_rfl
@[go_sem] theorem v_agg63 : aggOf Tryd.prog 63 = some false := by kernel_rfl
@[go_sem] theorem v_sz63 : tsz Tryd.prog 63 = some 1 := by kernel_rfl
@[go_sem] theorem v_by63 : bytesOf Tryd.prog 63 = some 24 := by kernel_rfl
@[go_sem] theorem v_zero63 : tzero Tryd.prog 63 = some [.nils] := by kernel_rfl
@[go_sem] theorem v_un63 : (Tryd.prog.underlying 63).isSome = true := by kernel_rfl
@[go_sem] theorem v_bool63 : isBool Tryd.prog 63 = false := by kernel_rfl
@[go_sem] theorem v_str63 : isStr Tryd.prog 63 = false := by kernel_rfl
@[go_sem] theorem v_el63 : elemOf' Tryd.prog 63 = some 55 := by kernel_rfl
@[go_sem] theorem v_isb63 : isBytes Tryd.prog 63 = false := by kernel_rfl
@[go_sem] theorem v_if63 : ifaceB Tryd.prog 63 = some false := by kernel_rfl
@[go_sem] theorem v_agg65 : aggOf Tryd.prog 65 = some true := by kernel_rfl
@[go_sem] theorem v_sz65 : tsz Tryd.prog 65 = some 1 := by kernel_rfl
@[go_sem] theorem v_by65 : bytesOf Tryd.prog 65 = some 24 := by kernel_rfl
@[go_sem] theorem v_zero65 : tzero Tryd.prog 65 = some [.nils] := by kernel_rfl
@[go_sem] theorem v_plc65 : plc Tryd.prog 65 = some [(0, 1)] := by kernel_rfl
@[go_sem] theorem v_un65 : (Tryd.prog.underlying 65).isSome = true := by kernel_rfl
@[go_sem] theorem v_bool65 : isBool Tryd.prog 65 = false := by kernel_rfl
@[go_sem] theorem v_str65 : isStr Tryd.prog 65 = false := by kernel_rfl
@[go_sem] theorem v_el65 : elemOf' Tryd.prog 65 = none := by kernel_rfl
@[go_sem] theorem v_isb65 : isBytes Tryd.prog 65 = false := by kernel_rfl
@[go_sem] theorem v_if65 : ifaceB Tryd.prog 65 = some false := by kernel_rfl
@[go_sem] theorem v_agg72 : aggOf Tryd.prog 72 = some false := by kernel_rfl
@[go_sem] theorem v_sz72 : tsz Tryd.prog 72 = some 1 := by kernel_rfl
@[go_sem] theorem v_by72 : bytesOf Tryd.prog 72 = some 24 := by kernel_rfl
@[go_sem] theorem v_zero72 : tzero Tryd.prog 72 = some [.nils] := by kernel_rfl
@[go_sem] theorem v_un72 : (Tryd.prog.underlying 72).isSome = true := by kernel_rfl
@[go_sem] theorem v_bool72 : isBool Tryd.prog 72 = false := by kernel_rfl
@[go_sem] theorem v_str72 : isStr Tryd.prog 72 = false := by kernel_rfl
@[go_sem] theorem v_el72 : elemOf' Tryd.prog 72 = some 74 := by kernel_rfl
@[go_sem] theorem v_isb72 : isBytes Tryd.prog 72 = false := by kernel_rfl
@[go_sem] theorem v_if72 : ifaceB Tryd.prog 72 = some false := by kernel_rfl
@[go_sem] theorem v_agg74 : aggOf Tryd.prog 74 = some true := by kernel_rfl
@[go_sem] theorem v_sz74 : tsz Tryd.prog 74 = some 6 := by kernel_rfl
@[go_sem] theorem v_by74 : bytesOf Tryd.prog 74 = some 48 := by kernel_rfl
@[go_sem] theorem v_zero74 : tzero Tryd.prog 74 = some [.int .i32 0, .int .i64 0, .int .i64 0, .int .i64 0, .int .i64 0, .bool false] := by kernel_rfl
@[go_sem] theorem v_plc74 : plc Tryd.prog 74 = some [(0, 1), (1, 1), (2, 1), (3, 1), (4, 1), (5, 1)] := by kernel_rfl
@[go_sem] theorem v_un74 : (Tryd.prog.underlying 74).isSome = true := by kernel_rfl
@[go_sem] theorem v_bool74 : isBool Tryd.prog 74 = false := by kernel_rfl
@[go_sem] theorem v_str74 : isStr Tryd.prog 74 = false := by kernel_rfl
@[go_sem] theorem v_el74 : elemOf' Tryd.prog 74 = none := by kernel_rfl
@[go_sem] theorem v_isb74 : isBytes Tryd.prog 74 = false := by kernel_rfl
@[go_sem] theorem v_if74 : ifaceB Tryd.prog 74 = some false := by kernel_rfl
@[go_sem] theorem v_agg84 : aggOf Tryd.prog 84 = some false := by kernel_rfl
@[go_sem] theorem v_sz84 : tsz Tryd.prog 84 = some 1 := by kernel_rfl
@[go_sem] theorem v_by84 : bytesOf Tryd.prog 84 = some 24 := by kernel_rfl
@[go_sem] theorem v_zero84 : tzero Tryd.prog 84 = some [.nils] := by kernel_rfl
@[go_sem] theorem v_un84 : (Tryd.prog.underlying 84).isSome = true := by kernel_rfl
@[go_sem] theorem v_bool84 : isBool Tryd.prog 84 = false := by kernel_rfl
@[go_sem] theorem v_str84 : isStr Tryd.prog 84 = false := by kernel_rfl
@[go_sem] theorem v_el84 : elemOf' Tryd.prog 84 = some 2 := by kernel_rfl
@[go_sem] theorem v_isb84 : isBytes Tryd.prog 84 = false := by kernel_rfl
@[go_sem] theorem v_if84 : ifaceB Tryd.prog 84 = some false := by kernel_rfl
@[go_sem] theorem v_agg86 : aggOf Tryd.prog 86 = some true := by kernel_rfl
@[go_sem] theorem v_sz86 : tsz Tryd.prog 86 = some 3 := by kernel_rfl
@[go_sem] theorem v_by86 : bytesOf Tryd.prog 86 = some 48 := by kernel_rfl
@[go_sem] theorem v_zero86 : tzero Tryd.prog 86 = some [.str ⟨#[]⟩, .int .i64 0, .nils] := by kernel_rfl
@[go_sem] theorem v_plc86 : plc Tryd.prog 86 = some [(0, 1), (1, 1), (2, 1)] := by kernel_rfl
@[go_sem] theorem v_un86 : (Tryd.prog.underlying 86).isSome = true := by kernel_rfl
@[go_sem] theorem v_bool86 : isBool Tryd.prog 86 = false := by kernel_rfl
@[go_sem] theorem v_str86 : isStr Tryd.prog 86 = false := by kernel_rfl
@[go_sem] theorem v_el86 : elemOf' Tryd.prog 86 = none := by kernel_rfl
@[go_sem] theorem v_isb86 : isBytes Tryd.prog 86 = false := by kernel_rfl
@[go_sem] theorem v_if86 : ifaceB Tryd.prog 86 = some false := by kernel_rfl
@[go_sem] theorem v_agg88 : aggOf Tryd.prog 88 = some false := by kernel_rfl
@[go_sem] theorem v_sz88 : tsz Tryd.prog 88 = some 1 := by kernel_rfl
@[go_sem] theorem v_by88 : bytesOf Tryd.prog 88 = some 24 := by kernel_rfl
@[go_sem] theorem v_zero88 : tzero Tryd.prog 88 = some [.nils] := by kernel_rfl
@[go_sem] theorem v_un88 : (Tryd.prog.underlying 88).isSome = true := by kernel_rfl
@[go_sem] theorem v_bool88 : isBool Tryd.prog 88 = false := by kernel_rfl
@[go_sem] theorem v_str88 : isStr Tryd.prog 88 = false := by kernel_rfl
@[go_sem] theorem v_el88 : elemOf' Tryd.prog 88 = some 57 := by kernel_rfl
@[go_sem] theorem v_isb88 : isBytes Tryd.prog 88 = false := by kernel_rfl
@[go_sem] theorem v_if88 : ifaceB Tryd.prog 88 = some false := by kernel_rfl
@[go_sem] theorem v_agg91 : aggOf Tryd.prog 91 = some false := by kernel_rfl
@[go_sem] theorem v_sz91 : tsz Tryd.prog 91 = some 1 := by kernel_rfl
@[go_sem] theorem v_by91 : bytesOf Tryd.prog 91 = some 8 := by kernel_rfl
@[go_sem] theorem v_zero91 : tzero Tryd.prog 91 = some [.nilp] := by kernel_rfl
@[go_sem] theorem v_un91 : (Tryd.prog.underlying 91).isSome = true := by kernel_rfl
@[go_sem] theorem v_bool91 : isBool Tryd.prog 91 = false := by kernel_rfl
@[go_sem] theorem v_str91 : isStr Tryd.prog 91 = false := by kernel_rfl
@[go_sem] theorem v_el91 : elemOf' Tryd.prog 91 = none := by kernel_rfl
@[go_sem] theorem v_isb91 : isBytes Tryd.prog 91 = false := by kernel_rfl
@[go_sem] theorem v_if91 : ifaceB Tryd.prog 91 = some false := by kernel_rfl
@[go_sem] theorem v_agg93 : aggOf Tryd.prog 93 = some true := by kernel_rfl
@[go_sem] theorem v_sz93 : tsz Tryd.prog 93 = some 2 := by kernel_rfl
@[go_sem] theorem v_by93 : bytesOf Tryd.prog 93 = some 32 := by kernel_rfl
@[go_sem] theorem v_zero93 : tzero Tryd.prog 93 = some [.nilp, .nils] := by kernel_rfl
@[go_sem] theorem v_plc93 : plc Tryd.prog 93 = some [(0, 1), (1, 1)] := by kernel_rfl
@[go_sem] theorem v_un93 : (Tryd.prog.underlying 93).isSome = true := by kernel_rfl
@[go_sem] theorem v_bool93 : isBool Tryd.prog 93 = false := by kernel_rfl
@[go_sem] theorem v_str93 : isStr Tryd.prog 93 = false := by kernel_rfl
@[go_sem] theorem v_el93 : elemOf' Tryd.prog 93 = none := by kernel_rfl
@[go_sem] theorem v_isb93 : isBytes Tryd.prog 93 = false := by kernel_rfl
@[go_sem] theorem v_if93 : ifaceB Tryd.prog 93 = some false := by kernel_rfl
@[go_sem] theorem v_agg95 : aggOf Tryd.prog 95 = some false := by kernel_rfl
@[go_sem] theorem v_sz95 : tsz Tryd.prog 95 = some 1 := by kernel_rfl
@[go_sem] theorem v_by95 : bytesOf Tryd.prog 95 = some 16 := by kernel_rfl
@[go_sem] theorem v_zero95 : tzero Tryd.prog 95 = some [.nili] := by kernel_rfl
@[go_sem] theorem v_un95 : (Tryd.prog.underlying 95).isSome = true := by kernel_rfl
@[go_sem] theorem v_bool95 : isBool Tryd.prog 95 = false := by kernel_rfl
@[go_sem] theorem v_str95 : isStr Tryd.prog 95 = false := by kernel_rfl
@[go_sem] theorem v_el95 : elemOf' Tryd.prog 95 = none := by kernel_rfl
@[go_sem] theorem v_isb95 : isBytes Tryd.prog 95 = false := by kernel_rfl
@[go_sem] theorem v_if95 : ifaceB Tryd.prog 95 = some true := by kernel_rfl
@[go_sem] theorem v_agg112 : aggOf Tryd.prog 112 = some false := by kernel_rfl
@[go_sem] theorem v_sz112 : tsz Tryd.prog 112 = some 1 := by kernel_rfl
@[go_sem] theorem v_by112 : bytesOf Tryd.prog 112 = some 8 := by kernel_rfl
@[go_sem] theorem v_zero112 : tzero Tryd.prog 112 = some [.nilp] := by kernel_rfl
@[go_sem] theorem v_un112 : (Tryd.prog.underlying 112).isSome = true := by kernel_rfl
@[go_sem] theorem v_bool112 : isBool Tryd.prog 112 = false := by kernel_rfl
@[go_sem] theorem v_str112 : isStr Tryd.prog 112 = false := by kernel_rfl
@[go_sem] theorem v_el112 : elemOf' Tryd.prog 112 = none := by kernel_rfl
@[go_sem] theorem v_isb112 : isBytes Tryd.prog 112 = false := by kernel_rfl
@[go_sem] theorem v_if112 : ifaceB Tryd.prog 112 = some false := by kernel_rfl
@[go_sem] theorem v_agg113 : aggOf Tryd.prog 113 = some false := by kernel_rfl
@[go_sem] theorem v_sz113 : tsz Tryd.prog 113 = some 1 := by kernel_rfl
@[go_sem] theorem v_by113 : bytesOf Tryd.prog 113 = some 24 := by kernel_rfl
@[go_sem] theorem v_zero113 : tzero Tryd.prog 113 = some [.nils] := by kernel_rfl
@[go_sem] theorem v_un113 : (Tryd.prog.underlying 113).isSome = true := by kernel_rfl
@[go_sem] theorem v_bool113 : isBool Tryd.prog 113 = false := by kernel_rfl
@[go_sem] theorem v_str113 : isStr Tryd.prog 113 = false := by kernel_rfl
@[go_sem] theorem v_el113 : elemOf' Tryd.prog 113 = some 135 := by kernel_rfl
@[go_sem] theorem v_isb113 : isBytes Tryd.prog 113 = false := by kernel_rfl
@[go_sem] theorem v_if113 : ifaceB Tryd.prog 113 = some false := by kernel_rfl
@[go_sem] theorem v_agg115 : aggOf Tryd.prog 115 = some true := by kernel_rfl
@[go_sem] theorem v_sz115 : tsz Tryd.prog 115 = some 8 := by kernel_rfl
@[go_sem] theorem v_by115 : bytesOf Tryd.prog 115 = some 128 := by kernel_rfl
@[go_sem] theorem v_zero115 : tzero Tryd.prog 115 = some [.nils, .int .i64 0, .nils, .nils, .nils, .int .i64 0, .int .i64 0, .int .i64 0] := by kernel_rfl
@[go_sem] theorem v_plc115 : plc Tryd.prog 115 = some [(0, 1), (1, 1), (2, 2), (4, 1), (5, 3)] := by kernel_rfl
@[go_sem] theorem v_un115 : (Tryd.prog.underlying 115).isSome = true := by kernel_rfl
@[go_sem] theorem v_bool115 : isBool Tryd.prog 115 = false := by kernel_rfl
@[go_sem] theorem v_str115 : isStr Tryd.prog 115 = false := by kernel_rfl
@[go_sem] theorem v_el115 : elemOf' Tryd.prog 115 = none := by kernel_rfl
@[go_sem] theorem v_isb115 : isBytes Tryd.prog 115 = false := by kernel_rfl
@[go_sem] theorem v_if115 : ifaceB Tryd.prog 115 = some false := by kernel_rfl
@[go_sem] theorem v_agg116 : aggOf Tryd.prog 116 = some false := by kernel_rfl
@[go_sem] theorem v_sz116 : tsz Tryd.prog 116 = some 1 := by kernel_rfl
@[go_sem] theorem v_by116 : bytesOf Tryd.prog 116 = some 8 := by kernel_rfl
@[go_sem] theorem v_zero116 : tzero Tryd.prog 116 = some [.int .u64 0] := by kernel_rfl
@[go_sem] theorem v_ik116 : intKind Tryd.prog 116 = some .u64 := by kernel_rfl
@[go_sem] theorem v_un116 : (Tryd.prog.underlying 116).isSome = true := by kernel_rfl
@[go_sem] theorem v_bool116 : isBool Tryd.prog 116 = false := by kernel_rfl
@[go_sem] theorem v_str116 : isStr Tryd.prog 116 = false := by kernel_rfl
@[go_sem] theorem v_el116 : elemOf' Tryd.prog 116 = none := by kernel_rfl
@[go_sem] theorem v_isb116 : isBytes Tryd.prog 116 = false := by kernel_rfl
@[go_sem] theorem v_if116 : ifaceB Tryd.prog 116 = some false := by kernel_rfl
@[go_sem] theorem v_agg122 : aggOf Tryd.prog 122 = some false := by kernel_rfl
@[go_sem] theorem v_sz122 : tsz Tryd.prog 122 = some 1 := by kernel_rfl
@[go_sem] theorem v_by122 : bytesOf Tryd.prog 122 = some 8 := by kernel_rfl
@[go_sem] theorem v_zero122 : tzero Tryd.prog 122 = some [.nilmap] := by kernel_rfl
@[go_sem] theorem v_un122 : (Tryd.prog.underlying 122).isSome = true := by kernel_rfl
@[go_sem] theorem v_bool122 : isBool Tryd.prog 122 = false := by kernel_rfl
@[go_sem] theorem v_str122 : isStr Tryd.prog 122 = false := by kernel_rfl
@[go_sem] theorem v_el122 : elemOf' Tryd.prog 122 = none := by kernel_rfl
@[go_sem] theorem v_isb122 : isBytes Tryd.prog 122 = false := by kernel_rfl
@[go_sem] theorem v_if122 : ifaceB Tryd.prog 122 = some false := by kernel_rfl
@[go_sem] theorem v_agg124 : aggOf Tryd.prog 124 = some false := by kernel_rfl
@[go_sem] theorem v_sz124 : tsz Tryd.prog 124 = some 1 := by kernel_rfl
@[go_sem] theorem v_by124 : bytesOf Tryd.prog 124 = some 8 := by kernel_rfl
@[go_sem] theorem v_zero124 : tzero Tryd.prog 124 = some [.nilp] := by kernel_rfl
@[go_sem] theorem v_un124 : (Tryd.prog.underlying 124).isSome = true := by kernel_rfl
@[go_sem] theorem v_bool124 : isBool Tryd.prog 124 = false := by kernel_rfl
@[go_sem] theorem v_str124 : isStr Tryd.prog 124 = false := by kernel_rfl
@[go_sem] theorem v_el124 : elemOf' Tryd.prog 124 = none := by kernel_rfl
@[go_sem] theorem v_isb124 : isBytes Tryd.prog 124 = false := by kernel_rfl
@[go_sem] theorem v_if124 : ifaceB Tryd.prog 124 = some false := by kernel_rfl
@[go_sem] theorem v_agg127 : aggOf Tryd.prog 127 = some false := by kernel_rfl
@[go_sem] theorem v_sz127 : tsz Tryd.prog 127 = some 1 := by kernel_rfl
@[go_sem] theorem v_by127 : bytesOf Tryd.prog 127 = some 16 := by kernel_rfl
@[go_sem] theorem v_zero127 : tzero Tryd.prog 127 = some [.nili] := by kernel_rfl
@[go_sem] theorem v_un127 : (Tryd.prog.underlying 127).isSome = true := by kernel_rfl
@[go_sem] theorem v_bool127 : isBool Tryd.prog 127 = false := by kernel_rfl
@[go_sem] theorem v_str127 : isStr Tryd.prog 127 = false := by kernel_rfl
@[go_sem] theorem v_el127 : elemOf' Tryd.prog 127 = none := by kernel_rfl
@[go_sem] theorem v_isb127 : isBytes Tryd.prog 127 = false := by kernel_rfl
@[go_sem] theorem v_if127 : ifaceB Tryd.prog 127 = some true := by kernel_rfl
@[go_sem] theorem v_agg135 : aggOf Tryd.prog 135 = some true := by kernel_rfl
@[go_sem] theorem v_sz135 : tsz Tryd.prog 135 = some 8 := by kernel_rfl
@[go_sem] theorem v_by135 : bytesOf Tryd.prog 135 = some 120 := by kernel_rfl
@[go_sem] theorem v_zero135 : tzero Tryd.prog 135 = some [.int .i64 0, .int .i64 0, .int .i64 0, .str ⟨#[]⟩, .nilmap, .nils, .nils, .nils] := by kernel_rfl
@[go_sem] theorem v_plc135 : plc Tryd.prog 135 = some [(0, 4), (4, 1), (5, 1), (6, 1), (7, 1)] := by kernel_rfl
@[go_sem] theorem v_un135 : (Tryd.prog.underlying 135).isSome = true := by kernel_rfl
@[go_sem] theorem v_bool135 : isBool Tryd.prog 135 = false := by kernel_rfl
@[go_sem] theorem v_str135 : isStr Tryd.prog 135 = false := by kernel_rfl
@[go_sem] theorem v_el135 : elemOf' Tryd.prog 135 = none := by kernel_rfl
@[go_sem] theorem v_isb135 : isBytes Tryd.prog 135 = false := by kernel_rfl
@[go_sem] theorem v_if135 : ifaceB Tryd.prog 135 = some false := by kernel_rfl
@[go_sem] theorem v_agg142 : aggOf Tryd.prog 142 = some false := by kernel_rfl
@[go_sem] theorem v_sz142 : tsz Tryd.prog 142 = some 1 := by kernel_rfl
@[go_sem] theorem v_by142 : bytesOf Tryd.prog 142 = some 8 := by kernel_rfl
@[go_sem] theorem v_zero142 : tzero Tryd.prog 142 = some [.nilp] := by kernel_rfl
@[go_sem] theorem v_un142 : (Tryd.prog.underlying 142).isSome = true := by kernel_rfl
@[go_sem] theorem v_bool142 : isBool Tryd.prog 142 = false := by kernel_rfl
@[go_sem] theorem v_str142 : isStr Tryd.prog 142 = false := by kernel_rfl
@[go_sem] theorem v_el142 : elemOf' Tryd.prog 142 = none := by kernel_rfl
@[go_sem] theorem v_isb142 : isBytes Tryd.prog 142 = false := by kernel_rfl
@[go_sem] theorem v_if142 : ifaceB Tryd.prog 142 = some false := by kernel_rfl
@[go_sem] theorem v_agg145 : aggOf Tryd.prog 145 = some true := by kernel_rfl
@[go_sem] theorem v_sz145 : tsz Tryd.prog 145 = some 1 := by kernel_rfl
@[go_sem] theorem v_by145 : bytesOf Tryd.prog 145 = some 8 := by kernel_rfl
@[go_sem] theorem v_zero145 : tzero Tryd.prog 145 = some [.int .i64 0] := by kernel_rfl
@[go_sem] theorem v_plc145 : plc Tryd.prog 145 = some [(0, 1)] := by kernel_rfl
@[go_sem] theorem v_un145 : (Tryd.prog.underlying 145).isSome = true := by kernel_rfl
@[go_sem] theorem v_bool145 : isBool Tryd.prog 145 = false := by kernel_rfl
@[go_sem] theorem v_str145 : isStr Tryd.prog 145 = false := by kernel_rfl
@[go_sem] theorem v_el145 : elemOf' Tryd.prog 145 = none := by kernel_rfl
@[go_sem] theorem v_isb145 : isBytes Tryd.prog 145 = false := by kernel_rfl
@[go_sem] theorem v_if145 : ifaceB Tryd.prog 145 = some false := by kernel_rfl
@[go_sem] theorem v_agg147 : aggOf Tryd.prog 147 = some true := by kernel_rfl
@[go_sem] theorem v_sz147 : tsz Tryd.prog 147 = some 1 := by kernel_rfl
@[go_sem] theorem v_by147 : bytesOf Tryd.prog 147 = some 8 := by kernel_rfl
@[go_sem] theorem v_zero147 : tzero Tryd.prog 147 = some [.int .i64 0] := by kernel_rfl
@[go_sem] theorem v_plc147 : plc Tryd.prog 147 = some [(0, 1)] := by kernel_rfl
@[go_sem] theorem v_un147 : (Tryd.prog.underlying 147).isSome = true := by kernel_rfl
@[go_sem] theorem v_bool147 : isBool Tryd.prog 147 = false := by kernel_rfl
@[go_sem] theorem v_str147 : isStr Tryd.prog 147 = false := by kernel_rfl
@[go_sem] theorem v_el147 : elemOf' Tryd.prog 147 = none := by kernel_rfl
@[go_sem] theorem v_isb147 : isBytes Tryd.prog 147 = false := by kernel_rfl
@[go_sem] theorem v_if147 : ifaceB Tryd.prog 147 = some false := by kernel_rfl
@[go_sem] theorem v_agg149 : aggOf Tryd.prog 149 = some true := by kernel_rfl
@[go_sem] theorem v_sz149 : tsz Tryd.prog 149 = some 2 := by kernel_rfl
@[go_sem] theorem v_by149 : bytesOf Tryd.prog 149 = some 16 := by kernel_rfl
@[go_sem] theorem v_zero149 : tzero Tryd.prog 149 = some [.int .i64 0, .int .i64 0] := by kernel_rfl
@[go_sem] theorem v_plc149 : plc Tryd.prog 149 = some [(0, 1), (1, 1)] := by kernel_rfl
@[go_sem] theorem v_un149 : (Tryd.prog.underlying 149).isSome = true := by kernel_rfl
@[go_sem] theorem v_bool149 : isBool Tryd.prog 149 = false := by kernel_rfl
@[go_sem] theorem v_str149 : isStr Tryd.prog 149 = false := by kernel_rfl
@[go_sem] theorem v_el149 : elemOf' Tryd.prog 149 = none := by kernel_rfl
@[go_sem] theorem v_isb149 : isBytes Tryd.prog 149 = false := by kernel_rfl
@[go_sem] theorem v_if149 : ifaceB Tryd.prog 149 = some false := by kernel_rfl
@[go_sem] theorem v_agg151 : aggOf Tryd.prog 151 = some true := by kernel_rfl
@[go_sem] theorem v_sz151 : tsz Tryd.prog 151 = some 2 := by kernel_rfl
@[go_sem] theorem v_by151 : bytesOf Tryd.prog 151 = some 16 := by kernel_rfl
@[go_sem] theorem v_zero151 : tzero Tryd.prog 151 = some [.int .i64 0, .int .i64 0] := by kernel_rfl
@[go_sem] theorem v_plc151 : plc Tryd.prog 151 = some [(0, 1), (1, 1)] := by kernel_rfl
@[go_sem] theorem v_un151 : (Tryd.prog.underlying 151).isSome = true := by kernel_rfl
@[go_sem] theorem v_bool151 : isBool Tryd.prog 151 = false := by kernel_rfl
@[go_sem] theorem v_str151 : isStr Tryd.prog 151 = false := by kernel_rfl
@[go_sem] theorem v_el151 : elemOf' Tryd.prog 151 = none := by kernel_rfl
@[go_sem] theorem v_isb151 : isBytes Tryd.prog 151 = false := by kernel_rfl
@[go_sem] theorem v_if151 : ifaceB Tryd.prog 151 = some false := by kernel_rfl
@[go_sem] theorem v_agg154 : aggOf Tryd.prog 154 = some false := by kernel_rfl
@[go_sem] theorem v_sz154 : tsz Tryd.prog 154 = some 1 := by kernel_rfl
@[go_sem] theorem v_by154 : bytesOf Tryd.prog 154 = some 8 := by kernel_rfl
@[go_sem] theorem v_zero154 : tzero Tryd.prog 154 = some [.nilp] := by kernel_rfl
@[go_sem] theorem v_un154 : (Tryd.prog.underlying 154).isSome = true := by kernel_rfl
@[go_sem] theorem v_bool154 : isBool Tryd.prog 154 = false := by kernel_rfl
@[go_sem] theorem v_str154 : isStr Tryd.prog 154 = false := by kernel_rfl
@[go_sem] theorem v_el154 : elemOf' Tryd.prog 154 = none := by kernel_rfl
@[go_sem] theorem v_isb154 : isBytes Tryd.prog 154 = false := by kernel_rfl
@[go_sem] theorem v_if154 : ifaceB Tryd.prog 154 = some false := by kernel_rfl
@[go_sem] theorem v_agg159 : aggOf Tryd.prog 159 = some true := by kernel_rfl
@[go_sem] theorem v_sz159 : tsz Tryd.prog 159 = some 256 := by kernel_rfl
@[go_sem] theorem v_by159 : bytesOf Tryd.prog 159 = some 256 := by kernel_rfl
@[go_sem] theorem v_un159 : (Tryd.prog.underlying 159).isSome = true := by kernel_rfl
@[go_sem] theorem v_bool159 : isBool Tryd.prog 159 = false := by kernel_rfl
@[go_sem] theorem v_str159 : isStr Tryd.prog 159 = false := by kernel_rfl
@[go_sem] theorem v_el159 : elemOf' Tryd.prog 159 = none := by kernel_rfl
@[go_sem] theorem v_isb159 : isBytes Tryd.prog 159 = false := by kernel_rfl
@[go_sem] theorem v_if159 : ifaceB Tryd.prog 159 = some false := by kernel_rfl
@[go_sem] theorem v_agg160 : aggOf Tryd.prog 160 = some false := by kernel_rfl
@[go_sem] theorem v_sz160 : tsz Tryd.prog 160 = some 1 := by kernel_rfl
@[go_sem] theorem v_by160 : bytesOf Tryd.prog 160 = some 8 := by kernel_rfl
@[go_sem] theorem v_zero160 : tzero Tryd.prog 160 = some [.int .u64 0] := by kernel_rfl
@[go_sem] theorem v_ik160 : intKind Tryd.prog 160 = some .u64 := by kernel_rfl
@[go_sem] theorem v_un160 : (Tryd.prog.underlying 160).isSome = true := by kernel_rfl
@[go_sem] theorem v_bool160 : isBool Tryd.prog 160 = false := by kernel_rfl
@[go_sem] theorem v_str160 : isStr Tryd.prog 160 = false := by kernel_rfl
@[go_sem] theorem v_el160 : elemOf' Tryd.prog 160 = none := by kernel_rfl
@[go_sem] theorem v_isb160 : isBytes Tryd.prog 160 = false := by kernel_rfl
@[go_sem] theorem v_if160 : ifaceB Tryd.prog 160 = some false := by kernel_rfl
@[go_sem] theorem v_agg162 : aggOf Tryd.prog 162 = some true := by kernel_rfl
@[go_sem] theorem v_sz162 : tsz Tryd.prog 162 = some 2 := by kernel_rfl
@[go_sem] theorem v_by162 : bytesOf Tryd.prog 162 = some 2 := by kernel_rfl
@[go_sem] theorem v_zero162 : tzero Tryd.prog 162 = some [.int .u8 0, .int .u8 0] := by kernel_rfl
@[go_sem] theorem v_plc162 : plc Tryd.prog 162 = some [(0, 1), (1, 1)] := by kernel_rfl
@[go_sem] theorem v_un162 : (Tryd.prog.underlying 162).isSome = true := by kernel_rfl
@[go_sem] theorem v_bool162 : isBool Tryd.prog 162 = false := by kernel_rfl
@[go_sem] theorem v_str162 : isStr Tryd.prog 162 = false := by kernel_rfl
@[go_sem] theorem v_el162 : elemOf' Tryd.prog 162 = none := by kernel_rfl
@[go_sem] theorem v_isb162 : isBytes Tryd.prog 162 = false := by kernel_rfl
@[go_sem] theorem v_if162 : ifaceB Tryd.prog 162 = some false := by kernel_rfl
@[go_sem] theorem v_agg163 : aggOf Tryd.prog 163 = some true := by kernel_rfl
@[go_sem] theorem v_sz163 : tsz Tryd.prog 163 = some 32 := by kernel_rfl
@[go_sem] theorem v_by163 : bytesOf Tryd.prog 163 = some 32 := by kernel_rfl
@[go_sem] theorem v_zero163 : tzero Tryd.prog 163 = some [.int .u8 0, .int .u8 0, .int .u8 0, .int .u8 0, .int .u8 0, .int .u8 0, .int .u8 0, .int .u8 0, .int .u8 0, .int .u8 0, .int .u8 0, .int .u8 0, .int .u8 0, .int .u8 0, .int .u8 0, .int .u8 0, .int .u8 0, .int .u8 0, .int .u8 0, .int .u8 0, .int .u8 0, .int .u8 0, .int .u8 0, .int .u8 0, .int .u8 0, .int .u8 0, .int .u8 0, .int .u8 0, .int .u8 0, .int .u8 0, .int .u8 0, .int .u8 0] := by kernel_rfl
@[go_sem] theorem v_un163 : (Tryd.prog.underlying 163).isSome = true := by kernel_rfl
@[go_sem] theorem v_bool163 : isBool Tryd.prog 163 = false := by kernel_rfl
@[go_sem] theorem v_str163 : isStr Tryd.prog 163 = false := by kernel_rfl
@[go_sem] theorem v_el163 : elemOf' Tryd.prog 163 = none := by kernel_rfl
@[go_sem] theorem v_isb163 : isBytes Tryd.prog 163 = false := by kernel_rfl
@[go_sem] theorem v_if163 : ifaceB Tryd.prog 163 = some false := by kernel_rfl
@[go_sem] theorem v_agg167 : aggOf Tryd.prog 167 = some true := by kernel_rfl
@[go_sem] theorem v_sz167 : tsz Tryd.prog 167 = some 24 := by kernel_rfl
@[go_sem] theorem v_by167 : bytesOf Tryd.prog 167 = some 24 := by kernel_rfl
@[go_sem] theorem v_zero167 : tzero Tryd.prog 167 = some [.int .u8 0, .int .u8 0, .int .u8 0, .int .u8 0, .int .u8 0, .int .u8 0, .int .u8 0, .int .u8 0, .int .u8 0, .int .u8 0, .int .u8 0, .int .u8 0, .int .u8 0, .int .u8 0, .int .u8 0, .int .u8 0, .int .u8 0, .int .u8 0, .int .u8 0, .int .u8 0, .int .u8 0, .int .u8 0, .int .u8 0, .int .u8 0] := by kernel_rfl
@[go_sem] theorem v_un167 : (Tryd.prog.underlying 167).isSome = true := by kernel_rfl
@[go_sem] theorem v_bool167 : isBool Tryd.prog 167 = false := by kernel_rfl
@[go_sem] theorem v_str167 : isStr Tryd.prog 167 = false := by kernel_rfl
@[go_sem] theorem v_el167 : elemOf' Tryd.prog 167 = none := by kernel_rfl
@[go_sem] theorem v_isb167 : isBytes Tryd.prog 167 = false := by kernel_rfl
@[go_sem] theorem v_if167 : ifaceB Tryd.prog 167 = some false := by kernel_rfl
@[go_sem] theorem v_agg175 : aggOf Tryd.prog 175 = some false := by kernel_rfl
@[go_sem] theorem v_sz175 : tsz Tryd.prog 175 = some 1 := by kernel_rfl
@[go_sem] theorem v_by175 : bytesOf Tryd.prog 175 = some 8 := by kernel_rfl
@[go_sem] theorem v_zero175 : tzero Tryd.prog 175 = some [.int .i64 0] := by kernel_rfl
@[go_sem] theorem v_ik175 : intKind Tryd.prog 175 = some .i64 := by kernel_rfl
@[go_sem] theorem v_un175 : (Tryd.prog.underlying 175).isSome = true := by kernel_rfl
@[go_sem] theorem v_bool175 : isBool Tryd.prog 175 = false := by kernel_rfl
@[go_sem] theorem v_str175 : isStr Tryd.prog 175 = false := by kernel_rfl
@[go_sem] theorem v_el175 : elemOf' Tryd.prog 175 = none := by kernel_rfl
@[go_sem] theorem v_isb175 : isBytes Tryd.prog 175 = false := by kernel_rfl
@[go_sem] theorem v_if175 : ifaceB Tryd.prog 175 = some false := by kernel_rfl
@[go_sem] theorem v_agg178 : aggOf Tryd.prog 178 = some false := by kernel_rfl
@[go_sem] theorem v_sz178 : tsz Tryd.prog 178 = some 1 := by kernel_rfl
@[go_sem] theorem v_by178 : bytesOf Tryd.prog 178 = some 8 := by kernel_rfl
@[go_sem] theorem v_zero178 : tzero Tryd.prog 178 = some [.nilp] := by kernel_rfl
@[go_sem] theorem v_un178 : (Tryd.prog.underlying 178).isSome = true := by kernel_rfl
@[go_sem] theorem v_bool178 : isBool Tryd.prog 178 = false := by kernel_rfl
@[go_sem] theorem v_str178 : isStr Tryd.prog 178 = false := by kernel_rfl
@[go_sem] theorem v_el178 : elemOf' Tryd.prog 178 = none := by kernel_rfl
@[go_sem] theorem v_isb178 : isBytes Tryd.prog 178 = false := by kernel_rfl
@[go_sem] theorem v_if178 : ifaceB Tryd.prog 178 = some false := by kernel_rfl
@[go_sem] theorem v_agg183 : aggOf Tryd.prog 183 = some true := by kernel_rfl
@[go_sem] theorem v_sz183 : tsz Tryd.prog 183 = some 20 := by kernel_rfl
@[go_sem] theorem v_by183 : bytesOf Tryd.prog 183 = some 160 := by kernel_rfl
@[go_sem] theorem v_zero183 : tzero Tryd.prog 183 = some [.int .u64 0, .int .u64 0, .int .u64 0, .int .u64 0, .int .u64 0, .int .u64 0, .int .u64 0, .int .u64 0, .int .u64 0, .int .u64 0, .int .u64 0, .int .u64 0, .int .u64 0, .int .u64 0, .int .u64 0, .int .u64 0, .int .u64 0, .int .u64 0, .int .u64 0, .int .u64 0] := by kernel_rfl
@[go_sem] theorem v_un183 : (Tryd.prog.underlying 183).isSome = true := by kernel_rfl
@[go_sem] theorem v_bool183 : isBool Tryd.prog 183 = false := by kernel_rfl
@[go_sem] theorem v_str183 : isStr Tryd.prog 183 = false := by kernel_rfl
@[go_sem] theorem v_el183 : elemOf' Tryd.prog 183 = none := by kernel_rfl
@[go_sem] theorem v_isb183 : isBytes Tryd.prog 183 = false := by kernel_rfl
@[go_sem] theorem v_if183 : ifaceB Tryd.prog 183 = some false := by kernel_rfl
@[go_sem] theorem v_agg184 : aggOf Tryd.prog 184 = some false := by kernel_rfl
@[go_sem] theorem v_sz184 : tsz Tryd.prog 184 = some 1 := by kernel_rfl
@[go_sem] theorem v_by184 : bytesOf Tryd.prog 184 = some 4 := by kernel_rfl
@[go_sem] theorem v_zero184 : tzero Tryd.prog 184 = some [.int .u32 0] := by kernel_rfl
@[go_sem] theorem v_ik184 : intKind Tryd.prog 184 = some .u32 := by kernel_rfl
@[go_sem] theorem v_un184 : (Tryd.prog.underlying 184).isSome = true := by kernel_rfl
@[go_sem] theorem v_bool184 : isBool Tryd.prog 184 = false := by kernel_rfl
@[go_sem] theorem v_str184 : isStr Tryd.prog 184 = false := by kernel_rfl
@[go_sem] theorem v_el184 : elemOf' Tryd.prog 184 = none := by kernel_rfl
@[go_sem] theorem v_isb184 : isBytes Tryd.prog 184 = false := by kernel_rfl
@[go_sem] theorem v_if184 : ifaceB Tryd.prog 184 = some false := by kernel_rfl
@[go_sem] theorem v_agg185 : aggOf Tryd.prog 185 = some true := by kernel_rfl
@[go_sem] theorem v_sz185 : tsz Tryd.prog 185 = some 65 := by kernel_rfl
@[go_sem] theorem v_by185 : bytesOf Tryd.prog 185 = some 65 := by kernel_rfl
@[go_sem] theorem v_un185 : (Tryd.prog.underlying 185).isSome = true := by kernel_rfl
@[go_sem] theorem v_bool185 : isBool Tryd.prog 185 = false := by kernel_rfl
@[go_sem] theorem v_str185 : isStr Tryd.prog 185 = false := by kernel_rfl
@[go_sem] theorem v_el185 : elemOf' Tryd.prog 185 = none := by kernel_rfl
@[go_sem] theorem v_isb185 : isBytes Tryd.prog 185 = false := by kernel_rfl
@[go_sem] theorem v_if185 : ifaceB Tryd.prog 185 = some false := by kernel_rfl
@[go_sem] theorem v_agg190 : aggOf Tryd.prog 190 = some false := by kernel_rfl
@[go_sem] theorem v_sz190 : tsz Tryd.prog 190 = some 1 := by kernel_rfl
@[go_sem] theorem v_by190 : bytesOf Tryd.prog 190 = some 8 := by kernel_rfl
@[go_sem] theorem v_zero190 : tzero Tryd.prog 190 = some [.nilp] := by kernel_rfl
@[go_sem] theorem v_un190 : (Tryd.prog.underlying 190).isSome = true := by kernel_rfl
@[go_sem] theorem v_bool190 : isBool Tryd.prog 190 = false := by kernel_rfl
@[go_sem] theorem v_str190 : isStr Tryd.prog 190 = false := by kernel_rfl
@[go_sem] theorem v_el190 : elemOf' Tryd.prog 190 = none := by kernel_rfl
@[go_sem] theorem v_isb190 : isBytes Tryd.prog 190 = false := by kernel_rfl
@[go_sem] theorem v_if190 : ifaceB Tryd.prog 190 = some false := by kernel_rfl
@[go_sem] theorem v_agg194 : aggOf Tryd.prog 194 = some true := by kernel_rfl
@[go_sem] theorem v_sz194 : tsz Tryd.prog 194 = some 3 := by kernel_rfl
@[go_sem] theorem v_by194 : bytesOf Tryd.prog 194 = some 48 := by kernel_rfl
@[go_sem] theorem v_zero194 : tzero Tryd.prog 194 = some [.str ⟨#[]⟩, .str ⟨#[]⟩, .nili] := by kernel_rfl
@[go_sem] theorem v_plc194 : plc Tryd.prog 194 = some [(0, 1), (1, 1), (2, 1)] := by kernel_rfl
@[go_sem] theorem v_un194 : (Tryd.prog.underlying 194).isSome = true := by kernel_rfl
@[go_sem] theorem v_bool194 : isBool Tryd.prog 194 = false := by kernel_rfl
@[go_sem] theorem v_str194 : isStr Tryd.prog 194 = false := by kernel_rfl
@[go_sem] theorem v_el194 : elemOf' Tryd.prog 194 = none := by kernel_rfl
@[go_sem] theorem v_isb194 : isBytes Tryd.prog 194 = false := by kernel_rfl
@[go_sem] theorem v_if194 : ifaceB Tryd.prog 194 = some false := by kernel_rfl
@[go_sem] theorem v_agg198 : aggOf Tryd.prog 198 = some false := by kernel_rfl
@[go_sem] theorem v_sz198 : tsz Tryd.prog 198 = some 1 := by kernel_rfl
@[go_sem] theorem v_by198 : bytesOf Tryd.prog 198 = some 8 := by kernel_rfl
@[go_sem] theorem v_zero198 : tzero Tryd.prog 198 = some [.nilp] := by kernel_rfl
@[go_sem] theorem v_un198 : (Tryd.prog.underlying 198).isSome = true := by kernel_rfl
@[go_sem] theorem v_bool198 : isBool Tryd.prog 198 = false := by kernel_rfl
@[go_sem] theorem v_str198 : isStr Tryd.prog 198 = false := by kernel_rfl
@[go_sem] theorem v_el198 : elemOf' Tryd.prog 198 = none := by kernel_rfl
@[go_sem] theorem v_isb198 : isBytes Tryd.prog 198 = false := by kernel_rfl
@[go_sem] theorem v_if198 : ifaceB Tryd.prog 198 = some false := by kernel_rfl
@[go_sem] theorem v_agg200 : aggOf Tryd.prog 200 = some true := by kernel_rfl
@[go_sem] theorem v_sz200 : tsz Tryd.prog 200 = some 1 := by kernel_rfl
@[go_sem] theorem v_by200 : bytesOf Tryd.prog 200 = some 16 := by kernel_rfl
@[go_sem] theorem v_zero200 : tzero Tryd.prog 200 = some [.str ⟨#[]⟩] := by kernel_rfl
@[go_sem] theorem v_plc200 : plc Tryd.prog 200 = some [(0, 1)] := by kernel_rfl
@[go_sem] theorem v_un200 : (Tryd.prog.underlying 200).isSome = true := by kernel_rfl
@[go_sem] theorem v_bool200 : isBool Tryd.prog 200 = false := by kernel_rfl
@[go_sem] theorem v_str200 : isStr Tryd.prog 200 = false := by kernel_rfl
@[go_sem] theorem v_el200 : elemOf' Tryd.prog 200 = none := by kernel_rfl
@[go_sem] theorem v_isb200 : isBytes Tryd.prog 200 = false := by kernel_rfl
@[go_sem] theorem v_if200 : ifaceB Tryd.prog 200 = some false := by kernel_rfl
@[go_sem] theorem v_agg201 : aggOf Tryd.prog 201 = some true := by kernel_rfl
@[go_sem] theorem v_sz201 : tsz Tryd.prog 201 = some 32 := by kernel_rfl
@[go_sem] theorem v_by201 : bytesOf Tryd.prog 201 = some 32 := by kernel_rfl
@[go_sem] theorem v_zero201 : tzero Tryd.prog 201 = some [.int .u8 0, .int .u8 0, .int .u8 0, .int .u8 0, .int .u8 0, .int .u8 0, .int .u8 0, .int .u8 0, .int .u8 0, .int .u8 0, .int .u8 0, .int .u8 0, .int .u8 0, .int .u8 0, .int .u8 0, .int .u8 0, .int .u8 0, .int .u8 0, .int .u8 0, .int .u8 0, .int .u8 0, .int .u8 0, .int .u8 0, .int .u8 0, .int .u8 0, .int .u8 0, .int .u8 0, .int .u8 0, .int .u8 0, .int .u8 0, .int .u8 0, .int .u8 0] := by kernel_rfl
@[go_sem] theorem v_un201 : (Tryd.prog.underlying 201).isSome = true := by kernel_rfl
@[go_sem] theorem v_bool201 : isBool Tryd.prog 201 = false := by kernel_rfl
@[go_sem] theorem v_str201 : isStr Tryd.prog 201 = false := by kernel_rfl
@[go_sem] theorem v_el201 : elemOf' Tryd.prog 201 = none := by kernel_rfl
@[go_sem] theorem v_isb201 : isBytes Tryd.prog 201 = false := by kernel_rfl
@[go_sem] theorem v_if201 : ifaceB Tryd.prog 201 = some false := by kernel_rfl
@[go_sem] theorem v_agg202 : aggOf Tryd.prog 202 = some true := by kernel_rfl
@[go_sem] theorem v_sz202 : tsz Tryd.prog 202 = some 64 := by kernel_rfl
@[go_sem] theorem v_by202 : bytesOf Tryd.prog 202 = some 64 := by kernel_rfl
@[go_sem] theorem v_zero202 : tzero Tryd.prog 202 = some [.int .u8 0, .int .u8 0, .int .u8 0, .int .u8 0, .int .u8 0, .int .u8 0, .int .u8 0, .int .u8 0, .int .u8 0, .int .u8 0, .int .u8 0, .int .u8 0, .int .u8 0, .int .u8 0, .int .u8 0, .int .u8 0, .int .u8 0, .int .u8 0, .int .u8 0, .int .u8 0, .int .u8 0, .int .u8 0, .int .u8 0, .int .u8 0, .int .u8 0, .int .u8 0, .int .u8 0, .int .u8 0, .int .u8 0, .int .u8 0, .int .u8 0, .int .u8 0, .int .u8 0, .int .u8 0, .int .u8 0, .int .u8 0, .int .u8 0, .int .u8 0, .int .u8 0, .int .u8 0, .int .u8 0, .int .u8 0, .int .u8 0, .int .u8 0, .int .u8 0, .int .u8 0, .int .u8 0, .int .u8 0, .int .u8 0, .int .u8 0, .int .u8 0, .int .u8 0, .int .u8 0, .int .u8 0, .int .u8 0, .int .u8 0, .int .u8 0, .int .u8 0, .int .u8 0, .int .u8 0, .int .u8 0, .int .u8 0, .int .u8 0, .int .u8 0] := by kernel_rfl
@[go_sem] theorem v_un202 : (Tryd.prog.underlying 202).isSome = true := by kernel_rfl
@[go_sem] theorem v_bool202 : isBool Tryd.prog 202 = false := by kernel_rfl
@[go_sem] theorem v_str202 : isStr Tryd.prog 202 = false := by kernel_rfl
@[go_sem] theorem v_el202 : elemOf' Tryd.prog 202 = none := by kernel_rfl
@[go_sem] theorem v_isb202 : isBytes Tryd.prog 202 = false := by kernel_rfl
@[go_sem] theorem v_if202 : ifaceB Tryd.prog 202 = some false := by kernel_rfl
@[go_sem] theorem v_map122 : mapTy Tryd.prog 122 = some (9, 4) := by kernel_rfl
@[go_sem] theorem v_za4 : zeroA Tryd.prog 4 = some (.bool false) := by kernel_rfl
@[go_sem] theorem v_pt124 : ptrTo Tryd.prog 124 = some 5 := by kernel_rfl
@[go_sem] theorem v_co5 : Tryd.prog.cellsOf 5 = 1 := by kernel_rfl
@[go_sem] theorem v_eq26 : eqOk Tryd.prog 26 = some [1, 1, 1] := by kernel_rfl
@[go_sem] theorem v_eq43 : eqOk Tryd.prog 43 = some [1, 1, 1, 2] := by kernel_rfl
@[go_sem] theorem v_eq53 : eqOk Tryd.prog 53 = some [1, 1, 1, 1] := by kernel_rfl
@[go_sem] theorem v_fn15 : fnOk Tryd.prog 15 = true := by kernel_rfl
@[go_sem] theorem v_fn16 : fnOk Tryd.prog 16 = true := by kernel_rfl
@[go_sem] theorem v_fn17 : fnOk Tryd.prog 17 = true := by kernel_rfl
@[go_sem] theorem v_fn18 : fnOk Tryd.prog 18 = true := by kernel_rfl
@[go_sem] theorem v_fn19 : fnOk Tryd.prog 19 = true := by kernel_rfl
@[go_sem] theorem v_fn20 : fnOk Tryd.prog 20 = true := by kernel_rfl
@[go_sem] theorem v_fn21 : fnOk Tryd.prog 21 = true := by kernel_rfl
@[go_sem] theorem v_fn22 : fnOk Tryd.prog 22 = true := by kernel_rfl
@[go_sem] theorem v_fn23 : fnOk Tryd.prog 23 = true := by kernel_rfl
@[go_sem] theorem v_fn24 : fnOk Tryd.prog 24 = true := by kernel_rfl
@[go_sem] theorem v_fn25 : fnOk Tryd.prog 25 = true := by kernel_rfl
@[go_sem] theorem v_fn26 : fnOk Tryd.prog 26 = true := by kernel_rfl
@[go_sem] theorem v_fn27 : fnOk Tryd.prog 27 = true := by kernel_rfl
@[go_sem] theorem v_fn28 : fnOk Tryd.prog 28 = true := by kernel_rfl
@[go_sem] theorem v_fn29 : fnOk Tryd.prog 29 = true := by kernel_rfl
@[go_sem] theorem v_fn30 : fnOk Tryd.prog 30 = true := by kernel_rfl
@[go_sem] theorem v_fn31 : fnOk Tryd.prog 31 = true := by kernel_rfl
@[go_sem] theorem v_fn32 : fnOk Tryd.prog 32 = true := by kernel_rfl
@[go_sem] theorem v_fn33 : fnOk Tryd.prog 33 = true := by kernel_rfl
@[go_sem] theorem v_fn34 : fnOk Tryd.prog 34 = true := by kernel_rfl
@[go_sem] theorem v_fn35 : fnOk Tryd.prog 35 = true := by kernel_rfl
@[go_sem] theorem v_fn36 : fnOk Tryd.prog 36 = true := by kernel_rfl
@[go_sem] theorem v_fn37 : fnOk Tryd.prog 37 = true := by kernel_rfl
@[go_sem] theorem v_fn38 : fnOk Tryd.prog 38 = true := by kernel_rfl
@[go_sem] theorem v_fn39 : fnOk Tryd.prog 39 = true := by kernel_rfl
@[go_sem] theorem v_fn40 : fnOk Tryd.prog 40 = true := by kernel_rfl
@[go_sem] theorem v_fn41 : fnOk Tryd.prog 41 = true := by kernel_rfl
@[go_sem] theorem v_fn42 : fnOk Tryd.prog 42 = true := by kernel_rfl
@[go_sem] theorem v_fn43 : fnOk Tryd.prog 43 = true := by kernel_rfl
@[go_sem] theorem v_fn44 : fnOk Tryd.prog 44 = true := by kernel_rfl
@[go_sem] theorem v_fn45 : fnOk Tryd.prog 45 = true := by kernel_rfl
@[go_sem] theorem v_fn46 : fnOk Tryd.prog 46 = true := by kernel_rfl
@[go_sem] theorem v_fn47 : fnOk Tryd.prog 47 = true := by kernel_rfl
@[go_sem] theorem v_fn48 : fnOk Tryd.prog 48 = true := by kernel_rfl
@[go_sem] theorem v_fn49 : fnOk Tryd.prog 49 = true := by kernel_rfl
@[go_sem] theorem v_fn50 : fnOk Tryd.prog 50 = true := by kernel_rfl
@[go_sem] theorem v_fn51 : fnOk Tryd.prog 51 = true := by kernel_rfl
@[go_sem] theorem v_fn52 : fnOk Tryd.prog 52 = true := by kernel_rfl
@[go_sem] theorem v_fn53 : fnOk Tryd.prog 53 = true := by kernel_rfl
@[go_sem] theorem v_fn54 : fnOk Tryd.prog 54 = true := by kernel_rfl
@[go_sem] theorem v_fn55 : fnOk Tryd.prog 55 = true := by kernel_rfl
@[go_sem] theorem v_fn56 : fnOk Tryd.prog 56 = true := by kernel_rfl
@[go_sem] theorem v_fn57 : fnOk Tryd.prog 57 = true := by kernel_rfl
@[go_sem] theorem v_fn58 : fnOk Tryd.prog 58 = true := by kernel_rfl
@[go_sem] theorem v_fn59 : fnOk Tryd.prog 59 = true := by kernel_rfl
@[go_sem] theorem v_fn60 : fnOk Tryd.prog 60 = true := by kernel_rfl
@[go_sem] theorem v_fn61 : fnOk Tryd.prog 61 = true := by kernel_rfl
@[go_sem] theorem v_fn62 : fnOk Tryd.prog 62 = true := by kernel_rfl
@[go_sem] theorem v_fn63 : fnOk Tryd.prog 63 = true := by kernel_rfl
@[go_sem] theorem v_fn64 : fnOk Tryd.prog 64 = true := by kernel_rfl
@[go_sem] theorem v_fn65 : fnOk Tryd.prog 65 = true := by kernel_rfl
@[go_sem] theorem v_fn66 : fnOk Tryd.prog 66 = true := by kernel_rfl
@[go_sem] theorem v_fn67 : fnOk Tryd.prog 67 = true := by kernel_rfl
@[go_sem] theorem v_fn68 : fnOk Tryd.prog 68 = true := by kernel_rfl
@[go_sem] theorem v_fn69 : fnOk Tryd.prog 69 = true := by kernel_rfl
@[go_sem] theorem v_fn70 : fnOk Tryd.prog 70 = true := by kernel_rfl
@[go_sem] theorem v_fn71 : fnOk Tryd.prog 71 = true := by kernel_rfl
@[go_sem] theorem v_fn72 : fnOk Tryd.prog 72 = true := by kernel_rfl
@[go_sem] theorem v_fn73 : fnOk Tryd.prog 73 = true := by kernel_rfl
@[go_sem] theorem v_fn74 : fnOk Tryd.prog 74 = true := by kernel_rfl
@[go_sem] theorem v_fn75 : fnOk Tryd.prog 75 = true := by kernel_rfl
@[go_sem] theorem v_fn76 : fnOk Tryd.prog 76 = true := by kernel_rfl
@[go_sem] theorem v_fn77 : fnOk Tryd.prog 77 = true := by kernel_rfl
@[go_sem] theorem v_fn78 : fnOk Tryd.prog 78 = true := by kernel_rfl
@[go_sem] theorem v_fn79 : fnOk Tryd.prog 79 = true := by kernel_rfl
@[go_sem] theorem v_fn80 : fnOk Tryd.prog 80 = true := by kernel_rfl
@[go_sem] theorem v_fn81 : fnOk Tryd.prog 81 = true := by kernel_rfl
@[go_sem] theorem v_fn82 : fnOk Tryd.prog 82 = true := by kernel_rfl
@[go_sem] theorem v_fn83 : fnOk Tryd.prog 83 = true := by kernel_rfl
@[go_sem] theorem v_fn84 : fnOk Tryd.prog 84 = true := by kernel_rfl
@[go_sem] theorem v_fn85 : fnOk Tryd.prog 85 = true := by kernel_rfl
@[go_sem] theorem v_fn86 : fnOk Tryd.prog 86 = true := by kernel_rfl
@[go_sem] theorem v_fn87 : fnOk Tryd.prog 87 = true := by kernel_rfl
@[go_sem] theorem v_fn88 : fnOk Tryd.prog 88 = true := by kernel_rfl
@[go_sem] theorem v_fn89 : fnOk Tryd.prog 89 = true := by kernel_rfl
@[go_sem] theorem v_fn90 : fnOk Tryd.prog 90 = true := by kernel_rfl
@[go_sem] theorem v_fn91 : fnOk Tryd.prog 91 = true := by kernel_rfl
@[go_sem] theorem v_fn92 : fnOk Tryd.prog 92 = true := by kernel_rfl
@[go_sem] theorem v_fn93 : fnOk Tryd.prog 93 = true := by kernel_rfl
@[go_sem] theorem v_fn94 : fnOk Tryd.prog 94 = true := by kernel_rfl
@[go_sem] theorem v_fn95 : fnOk Tryd.prog 95 = true := by kernel_rfl
@[go_sem] theorem v_fn96 : fnOk Tryd.prog 96 = true := by kernel_rfl
@[go_sem] theorem v_fn97 : fnOk Tryd.prog 97 = true := by kernel_rfl
@[go_sem] theorem v_fn98 : fnOk Tryd.prog 98 = true := by kernel_rfl
@[go_sem] theorem v_fn99 : fnOk Tryd.prog 99 = true := by kernel_rfl
@[go_sem] theorem v_fn100 : fnOk Tryd.prog 100 = true := by kernel_rfl
@[go_sem] theorem v_fn101 : fnOk Tryd.prog 101 = true := by kernel_rfl
@[go_sem] theorem v_fn102 : fnOk Tryd.prog 102 = true := by kernel_rfl
@[go_sem] theorem v_fn103 : fnOk Tryd.prog 103 = true := by kernel_rfl
@[go_sem] theorem v_fn104 : fnOk Tryd.prog 104 = true := by kernel_rfl
@[go_sem] theorem v_fn105 : fnOk Tryd.prog 105 = true := by kernel_rfl
@[go_sem] theorem v_fn106 : fnOk Tryd.prog 106 = true := by kernel_rfl
@[go_sem] theorem v_fn108 : fnOk Tryd.prog 108 = true := by kernel_rfl
@[go_sem] theorem v_fn109 : fnOk Tryd.prog 109 = true := by kernel_rfl
@[go_sem] theorem v_fn110 : fnOk Tryd.prog 110 = true := by kernel_rfl
@[go_sem] theorem v_fn111 : fnOk Tryd.prog 111 = true := by kernel_rfl
@[go_sem] theorem v_fn112 : fnOk Tryd.prog 112 = true := by kernel_rfl
@[go_sem] theorem v_fn113 : fnOk Tryd.prog 113 = true := by kernel_rfl
@[go_sem] theorem v_fn114 : fnOk Tryd.prog 114 = true := by kernel_rfl
@[go_sem] theorem v_fn115 : fnOk Tryd.prog 115 = true := by kernel_rfl
@[go_sem] theorem v_fn116 : fnOk Tryd.prog 116 = true := by kernel_rfl
@[go_sem] theorem v_fn117 : fnOk Tryd.prog 117 = true := by kernel_rfl
@[go_sem] theorem v_fn118 : fnOk Tryd.prog 118 = true := by kernel_rfl
@[go_sem] theorem v_fn119 : fnOk Tryd.prog 119 = true := by kernel_rfl
@[go_sem] theorem v_fn120 : fnOk Tryd.prog 120 = true := by kernel_rfl
@[go_sem] theorem v_fn121 : fnOk Tryd.prog 121 = true := by kernel_rfl
@[go_sem] theorem v_fn122 : fnOk Tryd.prog 122 = true := by kernel_rfl
@[go_sem] theorem v_fn123 : fnOk Tryd.prog 123 = true := by kernel_rfl
@[go_sem] theorem v_fn124 : fnOk Tryd.prog 124 = true := by kernel_rfl
@[go_sem] theorem v_fn125 : fnOk Tryd.prog 125 = true := by kernel_rfl
@[go_sem] theorem v_fn126 : fnOk Tryd.prog 126 = true := by kernel_rfl
@[go_sem] theorem v_fn127 : fnOk Tryd.prog 127 = true := by kernel_rfl
@[go_sem] theorem v_fn128 : fnOk Tryd.prog 128 = true := by kernel_rfl
@[go_sem] theorem v_fn129 : fnOk Tryd.prog 129 = true := by kernel_rfl
@[go_sem] theorem v_fn130 : fnOk Tryd.prog 130 = true := by kernel_rfl
@[go_sem] theorem v_fn131 : fnOk Tryd.prog 131 = true := by kernel_rfl
@[go_sem] theorem v_fn132 : fnOk Tryd.prog 132 = true := by kernel_rfl
@[go_sem] theorem v_fn133 : fnOk Tryd.prog 133 = true := by kernel_rfl
@[go_sem] theorem v_fn134 : fnOk Tryd.prog 134 = true := by kernel_rfl
@[go_sem] theorem v_fn135 : fnOk Tryd.prog 135 = true := by kernel_rfl
@[go_sem] theorem v_fn136 : fnOk Tryd.prog 136 = true := by kernel_rfl
@[go_sem] theorem v_fn137 : fnOk Tryd.prog 137 = true := by kernel_rfl
@[go_sem] theorem v_fn138 : fnOk Tryd.prog 138 = true := by kernel_rfl
@[go_sem] theorem v_fn139 : fnOk Tryd.prog 139 = true := by kernel_rfl
@[go_sem] theorem v_fn140 : fnOk Tryd.prog 140 = true := by kernel_rfl
@[go_sem] theorem v_fn141 : fnOk Tryd.prog 141 = true := by kernel_rfl
@[go_sem] theorem v_fn142 : fnOk Tryd.prog 142 = true := by kernel_rfl
@[go_sem] theorem v_fn143 : fnOk Tryd.prog 143 = true := by kernel_rfl
@[go_sem] theorem v_fn144 : fnOk Tryd.prog 144 = true := by kernel_rfl
@[go_sem] theorem v_fn145 : fnOk Tryd.prog 145 = true := by kernel_rfl
@[go_sem] theorem v_fn146 : fnOk Tryd.prog 146 = true := by kernel_rfl
@[go_sem] theorem v_fn147 : fnOk Tryd.prog 147 = true := by kernel_rfl
@[go_sem] theorem v_fn148 : fnOk Tryd.prog 148 = true := by kernel_rfl
@[go_sem] theorem v_fn149 : fnOk Tryd.prog 149 = true := by kernel_rfl
@[go_sem] theorem v_fn150 : fnOk Tryd.prog 150 = true := by kernel_rfl
@[go_sem] theorem v_fn151 : fnOk Tryd.prog 151 = true := by kernel_rfl
@[go_sem] theorem v_fn169 : fnOk Tryd.prog 169 = true := by kernel_rfl
@[go_sem] theorem v_fn172 : fnOk Tryd.prog 172 = true := by kernel_rfl
@[go_sem] theorem v_zv145 : zV Tryd.prog 145 = some (.agg [.int .i64 0]) := by kernel_rfl
@[go_sem] theorem v_zv147 : zV Tryd.prog 147 = some (.agg [.int .i64 0]) := by kernel_rfl
@[go_sem] theorem v_zv149 : zV Tryd.prog 149 = some (.agg [.int .i64 0, .int .i64 0]) := by kernel_rfl
@[go_sem] theorem v_zv151 : zV Tryd.prog 151 = some (.agg [.int .i64 0, .int .i64 0]) := by kernel_rfl
@[go_sem] theorem v_meth145_168 : methF Tryd.prog 145 "Text" = some 168 := by kernel_rfl
@[go_sem] theorem v_fn168 : fnOk Tryd.prog 168 = true := by kernel_rfl
@[go_sem] theorem v_meth147_170 : methF Tryd.prog 147 "Text" = some 170 := by kernel_rfl
@[go_sem] theorem v_fn170 : fnOk Tryd.prog 170 = true := by kernel_rfl
@[go_sem] theorem v_meth149_171 : methF Tryd.prog 149 "Text" = some 171 := by kernel_rfl
@[go_sem] theorem v_fn171 : fnOk Tryd.prog 171 = true := by kernel_rfl
@[go_sem] theorem v_meth151_173 : methF Tryd.prog 151 "Text" = some 173 := by kernel_rfl
@[go_sem] theorem v_fn173 : fnOk Tryd.prog 173 = true := by kernel_rfl
@[go_sem] theorem v_res2 : Tryd.f2.results.toList = [] := rfl
@[go_sem] theorem v_res3 : Tryd.f3.results.toList = [.tmp 2] := rfl
@[go_sem] theorem v_res4 : Tryd.f4.results.toList = [.tmp 6] := rfl
@[go_sem] theorem v_res5 : Tryd.f5.results.toList = [.tmp 4] := rfl
@[go_sem] theorem v_res6 : Tryd.f6.results.toList = [.tmp 2] := rfl
@[go_sem] theorem v_res7 : Tryd.f7.results.toList = [.tmp 2] := rfl
@[go_sem] theorem v_res8 : Tryd.f8.results.toList = [.tmp 2] := rfl
@[go_sem] theorem v_res9 : Tryd.f9.results.toList = [.tmp 2] := rfl
@[go_sem] theorem v_res10 : Tryd.f10.results.toList = [.tmp 6] := rfl
@[go_sem] theorem v_res11 : Tryd.f11.results.toList = [.tmp 2] := rfl
@[go_sem] theorem v_res12 : Tryd.f12.results.toList = [.tmp 8] := rfl
@[go_sem] theorem v_res13 : Tryd.f13.results.toList = [.tmp 4] := rfl
@[go_sem] theorem v_res14 : Tryd.f14.results.toList = [.tmp 4] := rfl
@[go_sem] theorem v_res15 : Tryd.f15.results.toList = [.tmp 4] := rfl
@[go_sem] theorem v_res16 : Tryd.f16.results.toList = [.tmp 2, .cell 3 26] := rfl
@[go_sem] theorem v_res17 : Tryd.f17.results.toList = [.tmp 2, .cell 3 26] := rfl
@[go_sem] theorem v_res18 : Tryd.f18.results.toList = [.tmp 4] := rfl
@[go_sem] theorem v_res19 : Tryd.f19.results.toList = [.tmp 0] := rfl
@[go_sem] theorem v_res20 : Tryd.f20.results.toList = [.tmp 2] := rfl
@[go_sem] theorem v_res21 : Tryd.f21.results.toList = [.cell 6 38] := rfl
@[go_sem] theorem v_res22 : Tryd.f22.results.toList = [.tmp 4] := rfl
@[go_sem] theorem v_res23 : Tryd.f23.results.toList = [.tmp 2] := rfl
@[go_sem] theorem v_res24 : Tryd.f24.results.toList = [.tmp 2] := rfl
@[go_sem] theorem v_res25 : Tryd.f25.results.toList = [.tmp 0] := rfl
@[go_sem] theorem v_res26 : Tryd.f26.results.toList = [.tmp 2] := rfl
@[go_sem] theorem v_res27 : Tryd.f27.results.toList = [.tmp 2] := rfl
@[go_sem] theorem v_res28 : Tryd.f28.results.toList = [.cell 4 55] := rfl
@[go_sem] theorem v_res29 : Tryd.f29.results.toList = [.tmp 4] := rfl
@[go_sem] theorem v_res30 : Tryd.f30.results.toList = [.tmp 4] := rfl
@[go_sem] theorem v_res31 : Tryd.f31.results.toList = [.tmp 4] := rfl
@[go_sem] theorem v_res32 : Tryd.f32.results.toList = [.cell 2 38, .cell 3 26] := rfl
@[go_sem] theorem v_res33 : Tryd.f33.results.toList = [.tmp 0] := rfl
@[go_sem] theorem v_res34 : Tryd.f34.results.toList = [.tmp 2] := rfl
@[go_sem] theorem v_res35 : Tryd.f35.results.toList = [.tmp 2] := rfl
@[go_sem] theorem v_res36 : Tryd.f36.results.toList = [.cell 4 26] := rfl
@[go_sem] theorem v_res37 : Tryd.f37.results.toList = [.tmp 2] := rfl
@[go_sem] theorem v_res38 : Tryd.f38.results.toList = [.tmp 4, .tmp 5] := rfl
@[go_sem] theorem v_res39 : Tryd.f39.results.toList = [.tmp 4] := rfl
@[go_sem] theorem v_res40 : Tryd.f40.results.toList = [.tmp 2, .tmp 3] := rfl
@[go_sem] theorem v_res41 : Tryd.f41.results.toList = [.tmp 2] := rfl
@[go_sem] theorem v_res42 : Tryd.f42.results.toList = [.tmp 2] := rfl
@[go_sem] theorem v_res43 : Tryd.f43.results.toList = [.tmp 2] := rfl
@[go_sem] theorem v_res44 : Tryd.f44.results.toList = [.tmp 2, .tmp 3] := rfl
@[go_sem] theorem v_res45 : Tryd.f45.results.toList = [.tmp 2, .tmp 3] := rfl
@[go_sem] theorem v_res46 : Tryd.f46.results.toList = [.tmp 2] := rfl
@[go_sem] theorem v_res47 : Tryd.f47.results.toList = [.tmp 2] := rfl
@[go_sem] theorem v_res48 : Tryd.f48.results.toList = [.tmp 2] := rfl
@[go_sem] theorem v_res49 : Tryd.f49.results.toList = [.tmp 2] := rfl
@[go_sem] theorem v_res50 : Tryd.f50.results.toList = [.tmp 2] := rfl
@[go_sem] theorem v_res51 : Tryd.f51.results.toList = [.tmp 4, .tmp 5] := rfl
@[go_sem] theorem v_res52 : Tryd.f52.results.toList = [.tmp 2] := rfl
@[go_sem] theorem v_res53 : Tryd.f53.results.toList = [.tmp 2] := rfl
@[go_sem] theorem v_res54 : Tryd.f54.results.toList = [.cell 2 53] := rfl
@[go_sem] theorem v_res55 : Tryd.f55.results.toList = [.cell 4 53] := rfl
@[go_sem] theorem v_res56 : Tryd.f56.results.toList = [.cell 2 53] := rfl
@[go_sem] theorem v_res57 : Tryd.f57.results.toList = [.tmp 2] := rfl
@[go_sem] theorem v_res58 : Tryd.f58.results.toList = [.tmp 4] := rfl
@[go_sem] theorem v_res59 : Tryd.f59.results.toList = [.tmp 2, .tmp 3] := rfl
@[go_sem] theorem v_res60 : Tryd.f60.results.toList = [.tmp 4] := rfl
@[go_sem] theorem v_res61 : Tryd.f61.results.toList = [.tmp 4] := rfl
@[go_sem] theorem v_res62 : Tryd.f62.results.toList = [.tmp 2] := rfl
@[go_sem] theorem v_res63 : Tryd.f63.results.toList = [.tmp 4] := rfl
@[go_sem] theorem v_res64 : Tryd.f64.results.toList = [.tmp 2] := rfl
@[go_sem] theorem v_res65 : Tryd.f65.results.toList = [.tmp 2] := rfl
@[go_sem] theorem v_res66 : Tryd.f66.results.toList = [.tmp 4] := rfl
@[go_sem] theorem v_res67 : Tryd.f67.results.toList = [.tmp 4] := rfl
@[go_sem] theorem v_res68 : Tryd.f68.results.toList = [.tmp 4] := rfl
@[go_sem] theorem v_res69 : Tryd.f69.results.toList = [.tmp 2] := rfl
@[go_sem] theorem v_res70 : Tryd.f70.results.toList = [.tmp 4] := rfl
@[go_sem] theorem v_res71 : Tryd.f71.results.toList = [.tmp 2, .tmp 3] := rfl
@[go_sem] theorem v_res72 : Tryd.f72.results.toList = [.tmp 2] := rfl
@[go_sem] theorem v_res73 : Tryd.f73.results.toList = [.tmp 6, .tmp 7] := rfl
@[go_sem] theorem v_res74 : Tryd.f74.results.toList = [.tmp 2] := rfl
@[go_sem] theorem v_res75 : Tryd.f75.results.toList = [.tmp 2] := rfl
@[go_sem] theorem v_res76 : Tryd.f76.results.toList = [.tmp 2, .tmp 3] := rfl
@[go_sem] theorem v_res77 : Tryd.f77.results.toList = [.tmp 2] := rfl
@[go_sem] theorem v_res78 : Tryd.f78.results.toList = [.tmp 4] := rfl
@[go_sem] theorem v_res79 : Tryd.f79.results.toList = [.tmp 2] := rfl
@[go_sem] theorem v_res80 : Tryd.f80.results.toList = [.tmp 4] := rfl
@[go_sem] theorem v_res81 : Tryd.f81.results.toList = [] := rfl
@[go_sem] theorem v_res82 : Tryd.f82.results.toList = [.tmp 4] := rfl
@[go_sem] theorem v_res83 : Tryd.f83.results.toList = [.tmp 2] := rfl
@[go_sem] theorem v_res84 : Tryd.f84.results.toList = [.tmp 0] := rfl
@[go_sem] theorem v_res85 : Tryd.f85.results.toList = [.tmp 0] := rfl
@[go_sem] theorem v_res86 : Tryd.f86.results.toList = [.tmp 2, .tmp 3] := rfl
@[go_sem] theorem v_res87 : Tryd.f87.results.toList = [.tmp 2] := rfl
@[go_sem] theorem v_res88 : Tryd.f88.results.toList = [.tmp 0] := rfl
@[go_sem] theorem v_res89 : Tryd.f89.results.toList = [.tmp 0] := rfl
@[go_sem] theorem v_res90 : Tryd.f90.results.toList = [.tmp 2] := rfl
@[go_sem] theorem v_res91 : Tryd.f91.results.toList = [.tmp 2] := rfl
@[go_sem] theorem v_res92 : Tryd.f92.results.toList = [.tmp 4] := rfl
@[go_sem] theorem v_res93 : Tryd.f93.results.toList = [.tmp 4] := rfl
@[go_sem] theorem v_res94 : Tryd.f94.results.toList = [.tmp 6] := rfl
@[go_sem] theorem v_res95 : Tryd.f95.results.toList = [.tmp 2] := rfl
@[go_sem] theorem v_res96 : Tryd.f96.results.toList = [.tmp 4] := rfl
@[go_sem] theorem v_res97 : Tryd.f97.results.toList = [.tmp 2, .tmp 3] := rfl
@[go_sem] theorem v_res98 : Tryd.f98.results.toList = [.tmp 6, .tmp 7] := rfl
@[go_sem] theorem v_res99 : Tryd.f99.results.toList = [.tmp 2] := rfl
@[go_sem] theorem v_res100 : Tryd.f100.results.toList = [.tmp 2] := rfl
@[go_sem] theorem v_res101 : Tryd.f101.results.toList = [.tmp 4] := rfl
@[go_sem] theorem v_res102 : Tryd.f102.results.toList = [.tmp 4] := rfl
@[go_sem] theorem v_res103 : Tryd.f103.results.toList = [.tmp 4] := rfl
@[go_sem] theorem v_res104 : Tryd.f104.results.toList = [.tmp 2] := rfl
@[go_sem] theorem v_res105 : Tryd.f105.results.toList = [.tmp 2] := rfl
@[go_sem] theorem v_res106 : Tryd.f106.results.toList = [.tmp 4] := rfl
@[go_sem] theorem v_res108 : Tryd.f108.results.toList = [.tmp 4] := rfl
@[go_sem] theorem v_res109 : Tryd.f109.results.toList = [.tmp 2] := rfl
@[go_sem] theorem v_res110 : Tryd.f110.results.toList = [.tmp 2] := rfl
@[go_sem] theorem v_res111 : Tryd.f111.results.toList = [.tmp 2] := rfl
@[go_sem] theorem v_res112 : Tryd.f112.results.toList = [.tmp 2] := rfl
@[go_sem] theorem v_res113 : Tryd.f113.results.toList = [.tmp 2] := rfl
@[go_sem] theorem v_res114 : Tryd.f114.results.toList = [.tmp 2] := rfl
@[go_sem] theorem v_res115 : Tryd.f115.results.toList = [.tmp 2] := rfl
@[go_sem] theorem v_res116 : Tryd.f116.results.toList = [.tmp 0] := rfl
@[go_sem] theorem v_res117 : Tryd.f117.results.toList = [.tmp 4, .tmp 5] := rfl
@[go_sem] theorem v_res118 : Tryd.f118.results.toList = [.tmp 6] := rfl
@[go_sem] theorem v_res119 : Tryd.f119.results.toList = [.cell 4 55, .tmp 5] := rfl
@[go_sem] theorem v_res120 : Tryd.f120.results.toList = [.tmp 6, .tmp 7] := rfl
@[go_sem] theorem v_res121 : Tryd.f121.results.toList = [.tmp 10] := rfl
@[go_sem] theorem v_res122 : Tryd.f122.results.toList = [.tmp 2, .tmp 3] := rfl
@[go_sem] theorem v_res123 : Tryd.f123.results.toList = [.tmp 2, .tmp 3, .tmp 4] := rfl
@[go_sem] theorem v_res124 : Tryd.f124.results.toList = [.tmp 2] := rfl
@[go_sem] theorem v_res125 : Tryd.f125.results.toList = [.tmp 2] := rfl
@[go_sem] theorem v_res126 : Tryd.f126.results.toList = [] := rfl
@[go_sem] theorem v_res127 : Tryd.f127.results.toList = [.tmp 10, .tmp 11] := rfl
@[go_sem] theorem v_res128 : Tryd.f128.results.toList = [.tmp 2, .tmp 3] := rfl
@[go_sem] theorem v_res129 : Tryd.f129.results.toList = [.tmp 2] := rfl
@[go_sem] theorem v_res130 : Tryd.f130.results.toList = [.cell 4 55, .tmp 5] := rfl
@[go_sem] theorem v_res131 : Tryd.f131.results.toList = [.tmp 6, .tmp 7] := rfl
@[go_sem] theorem v_res132 : Tryd.f132.results.toList = [.tmp 4] := rfl
@[go_sem] theorem v_res133 : Tryd.f133.results.toList = [.tmp 4] := rfl
@[go_sem] theorem v_res134 : Tryd.f134.results.toList = [.tmp 6] := rfl
@[go_sem] theorem v_res135 : Tryd.f135.results.toList = [.tmp 6] := rfl
@[go_sem] theorem v_res136 : Tryd.f136.results.toList = [.tmp 0] := rfl
@[go_sem] theorem v_res137 : Tryd.f137.results.toList = [.tmp 2] := rfl
@[go_sem] theorem v_res138 : Tryd.f138.results.toList = [.tmp 2] := rfl
@[go_sem] theorem v_res139 : Tryd.f139.results.toList = [.tmp 2] := rfl
@[go_sem] theorem v_res140 : Tryd.f140.results.toList = [.tmp 2] := rfl
@[go_sem] theorem v_res141 : Tryd.f141.results.toList = [.tmp 2] := rfl
@[go_sem] theorem v_res142 : Tryd.f142.results.toList = [.tmp 4] := rfl
@[go_sem] theorem v_res143 : Tryd.f143.results.toList = [.tmp 2] := rfl
@[go_sem] theorem v_res144 : Tryd.f144.results.toList = [.tmp 2] := rfl
@[go_sem] theorem v_res145 : Tryd.f145.results.toList = [.tmp 2] := rfl
@[go_sem] theorem v_res146 : Tryd.f146.results.toList = [.tmp 2] := rfl
@[go_sem] theorem v_res147 : Tryd.f147.results.toList = [.tmp 2] := rfl
@[go_sem] theorem v_res148 : Tryd.f148.results.toList = [.tmp 2] := rfl
@[go_sem] theorem v_res149 : Tryd.f149.results.toList = [.tmp 2] := rfl
@[go_sem] theorem v_res150 : Tryd.f150.results.toList = [.tmp 6] := rfl
@[go_sem] theorem v_res151 : Tryd.f151.results.toList = [.tmp 2] := rfl
@[go_sem] theorem v_res168 : Tryd.f168.results.toList = [.tmp 4] := rfl
@[go_sem] theorem v_res169 : Tryd.f169.results.toList = [.tmp 2] := rfl
@[go_sem] theorem v_res170 : Tryd.f170.results.toList = [.tmp 4] := rfl
@[go_sem] theorem v_res171 : Tryd.f171.results.toList = [.tmp 4] := rfl
@[go_sem] theorem v_res172 : Tryd.f172.results.toList = [.cell 2 53] := rfl
@[go_sem] theorem v_res173 : Tryd.f173.results.toList = [.tmp 4] := rfl
@[go_sem] theorem v_res187 : Tryd.f187.results.toList = [] := rfl
theorem v_mixed : Tryd.prog.follows .mixedOrders = true := by kernel_rfl
end Go.Proofs.YtocjejladeeckaaDoor
