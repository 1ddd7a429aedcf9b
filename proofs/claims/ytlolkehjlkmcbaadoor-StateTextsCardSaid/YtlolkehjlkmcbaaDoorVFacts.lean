import Derived.Test.YtlolkehjlkmcbaaDoorProg
import Derived.Test.YtlolkehjlkmcbaaDoorVu3
import Derived.KernelRfl
set_option linter.unusedVariables false
set_option maxRecDepth 100000
set_option linter.unusedSectionVars false
namespace Go.Proofs.YtlolkehjlkmcbaaDoor
open Go.Vs
@[go_sem] theorem v_agg2 : aggOf Tryd.prog 2 = some false := by kernel_rfl
@[go_sem] theorem v_sz2 : tsz Tryd.prog 2 = some 1 := by kernel_rfl
@[go_sem] theorem v_by2 : bytesOf Tryd.prog 2 = some 8 := by kernel_rfl
@[go_sem] theorem v_zero2 : tzero Tryd.prog 2 = some [.int .i64 0] := by kernel_rfl
@[go_sem] theorem v_ik2 : intKind Tryd.prog 2 = some .i64 := by kernel_rfl
@[go_sem] theorem v_un2 : (Tryd.prog.underlying 2).isSome = true := by kernel_rfl
@[go_sem] theorem v_bool2 : isBool Tryd.prog 2 = false := by kernel_rfl
@[go_sem] theorem v_str2 : isStr Tryd.prog 2 = false := by kernel_rfl
@[go_sem] theorem v_el2 : elemOf' Tryd.prog 2 = none := by kernel_rfl
@[go_sem] theorem v_isb2 : isBytes Tryd.prog 2 = false := by kernel_rfl
@[go_sem] theorem v_if2 : ifaceB Tryd.prog 2 = some false := by kernel_rfl
@[go_sem] theorem v_agg3 : aggOf Tryd.prog 3 = some false := by kernel_rfl
@[go_sem] theorem v_sz3 : tsz Tryd.prog 3 = some 1 := by kernel_rfl
@[go_sem] theorem v_by3 : bytesOf Tryd.prog 3 = some 8 := by kernel_rfl
@[go_sem] theorem v_zero3 : tzero Tryd.prog 3 = some [.int .i64 0] := by kernel_rfl
@[go_sem] theorem v_ik3 : intKind Tryd.prog 3 = some .i64 := by kernel_rfl
@[go_sem] theorem v_un3 : (Tryd.prog.underlying 3).isSome = true := by kernel_rfl
@[go_sem] theorem v_bool3 : isBool Tryd.prog 3 = false := by kernel_rfl
@[go_sem] theorem v_str3 : isStr Tryd.prog 3 = false := by kernel_rfl
@[go_sem] theorem v_el3 : elemOf' Tryd.prog 3 = none := by kernel_rfl
@[go_sem] theorem v_isb3 : isBytes Tryd.prog 3 = false := by kernel_rfl
@[go_sem] theorem v_if3 : ifaceB Tryd.prog 3 = some false := by kernel_rfl
@[go_sem] theorem v_agg4 : aggOf Tryd.prog 4 = some false := by kernel_rfl
@[go_sem] theorem v_sz4 : tsz Tryd.prog 4 = some 1 := by kernel_rfl
@[go_sem] theorem v_by4 : bytesOf Tryd.prog 4 = some 1 := by kernel_rfl
@[go_sem] theorem v_zero4 : tzero Tryd.prog 4 = some [.bool false] := by kernel_rfl
@[go_sem] theorem v_un4 : (Tryd.prog.underlying 4).isSome = true := by kernel_rfl
@[go_sem] theorem v_bool4 : isBool Tryd.prog 4 = true := by kernel_rfl
@[go_sem] theorem v_str4 : isStr Tryd.prog 4 = false := by kernel_rfl
@[go_sem] theorem v_el4 : elemOf' Tryd.prog 4 = none := by kernel_rfl
@[go_sem] theorem v_isb4 : isBytes Tryd.prog 4 = false := by kernel_rfl
@[go_sem] theorem v_if4 : ifaceB Tryd.prog 4 = some false := by kernel_rfl
@[go_sem] theorem v_agg5 : aggOf Tryd.prog 5 = some false := by kernel_rfl
@[go_sem] theorem v_sz5 : tsz Tryd.prog 5 = some 1 := by kernel_rfl
@[go_sem] theorem v_by5 : bytesOf Tryd.prog 5 = some 1 := by kernel_rfl
@[go_sem] theorem v_zero5 : tzero Tryd.prog 5 = some [.int .u8 0] := by kernel_rfl
@[go_sem] theorem v_ik5 : intKind Tryd.prog 5 = some .u8 := by kernel_rfl
@[go_sem] theorem v_un5 : (Tryd.prog.underlying 5).isSome = true := by kernel_rfl
@[go_sem] theorem v_bool5 : isBool Tryd.prog 5 = false := by kernel_rfl
@[go_sem] theorem v_str5 : isStr Tryd.prog 5 = false := by kernel_rfl
@[go_sem] theorem v_el5 : elemOf' Tryd.prog 5 = none := by kernel_rfl
@[go_sem] theorem v_isb5 : isBytes Tryd.prog 5 = false := by kernel_rfl
@[go_sem] theorem v_if5 : ifaceB Tryd.prog 5 = some false := by kernel_rfl
@[go_sem] theorem v_agg9 : aggOf Tryd.prog 9 = some false := by kernel_rfl
@[go_sem] theorem v_sz9 : tsz Tryd.prog 9 = some 1 := by kernel_rfl
@[go_sem] theorem v_by9 : bytesOf Tryd.prog 9 = some 16 := by kernel_rfl
@[go_sem] theorem v_zero9 : tzero Tryd.prog 9 = some [.str ⟨#[]⟩] := by kernel_rfl
@[go_sem] theorem v_un9 : (Tryd.prog.underlying 9).isSome = true := by kernel_rfl
@[go_sem] theorem v_bool9 : isBool Tryd.prog 9 = false := by kernel_rfl
@[go_sem] theorem v_str9 : isStr Tryd.prog 9 = true := by kernel_rfl
@[go_sem] theorem v_el9 : elemOf' Tryd.prog 9 = none := by kernel_rfl
@[go_sem] theorem v_isb9 : isBytes Tryd.prog 9 = false := by kernel_rfl
@[go_sem] theorem v_if9 : ifaceB Tryd.prog 9 = some false := by kernel_rfl
@[go_sem] theorem v_agg22 : aggOf Tryd.prog 22 = some false := by kernel_rfl
@[go_sem] theorem v_sz22 : tsz Tryd.prog 22 = some 1 := by kernel_rfl
@[go_sem] theorem v_by22 : bytesOf Tryd.prog 22 = some 24 := by kernel_rfl
@[go_sem] theorem v_zero22 : tzero Tryd.prog 22 = some [.nils] := by kernel_rfl
@[go_sem] theorem v_un22 : (Tryd.prog.underlying 22).isSome = true := by kernel_rfl
@[go_sem] theorem v_bool22 : isBool Tryd.prog 22 = false := by kernel_rfl
@[go_sem] theorem v_str22 : isStr Tryd.prog 22 = false := by kernel_rfl
@[go_sem] theorem v_el22 : elemOf' Tryd.prog 22 = some 2 := by kernel_rfl
@[go_sem] theorem v_ix22 : ixOf Tryd.prog 22 = some (none, 2) := by kernel_rfl
@[go_sem] theorem v_isb22 : isBytes Tryd.prog 22 = false := by kernel_rfl
@[go_sem] theorem v_if22 : ifaceB Tryd.prog 22 = some false := by kernel_rfl
@[go_sem] theorem v_agg23 : aggOf Tryd.prog 23 = some false := by kernel_rfl
@[go_sem] theorem v_sz23 : tsz Tryd.prog 23 = some 1 := by kernel_rfl
@[go_sem] theorem v_by23 : bytesOf Tryd.prog 23 = some 24 := by kernel_rfl
@[go_sem] theorem v_zero23 : tzero Tryd.prog 23 = some [.nils] := by kernel_rfl
@[go_sem] theorem v_un23 : (Tryd.prog.underlying 23).isSome = true := by kernel_rfl
@[go_sem] theorem v_bool23 : isBool Tryd.prog 23 = false := by kernel_rfl
@[go_sem] theorem v_str23 : isStr Tryd.prog 23 = false := by kernel_rfl
@[go_sem] theorem v_el23 : elemOf' Tryd.prog 23 = some 39 := by kernel_rfl
@[go_sem] theorem v_ix23 : ixOf Tryd.prog 23 = some (none, 39) := by kernel_rfl
@[go_sem] theorem v_isb23 : isBytes Tryd.prog 23 = false := by kernel_rfl
@[go_sem] theorem v_if23 : ifaceB Tryd.prog 23 = some false := by kernel_rfl
@[go_sem] theorem v_agg24 : aggOf Tryd.prog 24 = some false := by kernel_rfl
@[go_sem] theorem v_sz24 : tsz Tryd.prog 24 = some 1 := by kernel_rfl
@[go_sem] theorem v_by24 : bytesOf Tryd.prog 24 = some 24 := by kernel_rfl
@[go_sem] theorem v_zero24 : tzero Tryd.prog 24 = some [.nils] := by kernel_rfl
@[go_sem] theorem v_un24 : (Tryd.prog.underlying 24).isSome = true := by kernel_rfl
@[go_sem] theorem v_bool24 : isBool Tryd.prog 24 = false := by kernel_rfl
@[go_sem] theorem v_str24 : isStr Tryd.prog 24 = false := by kernel_rfl
@[go_sem] theorem v_el24 : elemOf' Tryd.prog 24 = some 40 := by kernel_rfl
@[go_sem] theorem v_ix24 : ixOf Tryd.prog 24 = some (none, 40) := by kernel_rfl
@[go_sem] theorem v_isb24 : isBytes Tryd.prog 24 = false := by kernel_rfl
@[go_sem] theorem v_if24 : ifaceB Tryd.prog 24 = some false := by kernel_rfl
@[go_sem] theorem v_agg26 : aggOf Tryd.prog 26 = some true := by kernel_rfl
@[go_sem] theorem v_sz26 : tsz Tryd.prog 26 = some 4 := by kernel_rfl
@[go_sem] theorem v_by26 : bytesOf Tryd.prog 26 = some 80 := by kernel_rfl
@[go_sem] theorem v_zero26 : tzero Tryd.prog 26 = some [.nils, .nils, .nils, .int .i64 0] := by kernel_rfl
@[go_sem] theorem v_plc26 : plc Tryd.prog 26 = some [(0, 1), (1, 1), (2, 1), (3, 1)] := by kernel_rfl
@[go_sem] theorem v_un26 : (Tryd.prog.underlying 26).isSome = true := by kernel_rfl
@[go_sem] theorem v_bool26 : isBool Tryd.prog 26 = false := by kernel_rfl
@[go_sem] theorem v_str26 : isStr Tryd.prog 26 = false := by kernel_rfl
@[go_sem] theorem v_el26 : elemOf' Tryd.prog 26 = none := by kernel_rfl
@[go_sem] theorem v_isb26 : isBytes Tryd.prog 26 = false := by kernel_rfl
@[go_sem] theorem v_if26 : ifaceB Tryd.prog 26 = some false := by kernel_rfl
@[go_sem] theorem v_agg35 : aggOf Tryd.prog 35 = some true := by kernel_rfl
@[go_sem] theorem v_sz35 : tsz Tryd.prog 35 = some 8 := by kernel_rfl
@[go_sem] theorem v_by35 : bytesOf Tryd.prog 35 = some 64 := by kernel_rfl
@[go_sem] theorem v_zero35 : tzero Tryd.prog 35 = some [.int .i64 0, .int .i64 0, .int .i64 0, .int .i64 0, .int .i64 0, .int .i64 0, .int .i64 0, .int .i64 0] := by kernel_rfl
@[go_sem] theorem v_un35 : (Tryd.prog.underlying 35).isSome = true := by kernel_rfl
@[go_sem] theorem v_bool35 : isBool Tryd.prog 35 = false := by kernel_rfl
@[go_sem] theorem v_str35 : isStr Tryd.prog 35 = false := by kernel_rfl
@[go_sem] theorem v_el35 : elemOf' Tryd.prog 35 = none := by kernel_rfl
@[go_sem] theorem v_ix35 : ixOf Tryd.prog 35 = some (some 8, 2) := by kernel_rfl
@[go_sem] theorem v_ar35 : arrOf Tryd.prog 35 = some (8, 2) := by kernel_rfl
@[go_sem] theorem v_isb35 : isBytes Tryd.prog 35 = false := by kernel_rfl
@[go_sem] theorem v_if35 : ifaceB Tryd.prog 35 = some false := by kernel_rfl
@[go_sem] theorem v_agg37 : aggOf Tryd.prog 37 = some true := by kernel_rfl
@[go_sem] theorem v_sz37 : tsz Tryd.prog 37 = some 4 := by kernel_rfl
@[go_sem] theorem v_by37 : bytesOf Tryd.prog 37 = some 4 := by kernel_rfl
@[go_sem] theorem v_zero37 : tzero Tryd.prog 37 = some [.bool false, .bool false, .bool false, .bool false] := by kernel_rfl
@[go_sem] theorem v_plc37 : plc Tryd.prog 37 = some [(0, 1), (1, 1), (2, 1), (3, 1)] := by kernel_rfl
@[go_sem] theorem v_un37 : (Tryd.prog.underlying 37).isSome = true := by kernel_rfl
@[go_sem] theorem v_bool37 : isBool Tryd.prog 37 = false := by kernel_rfl
@[go_sem] theorem v_str37 : isStr Tryd.prog 37 = false := by kernel_rfl
@[go_sem] theorem v_el37 : elemOf' Tryd.prog 37 = none := by kernel_rfl
@[go_sem] theorem v_isb37 : isBytes Tryd.prog 37 = false := by kernel_rfl
@[go_sem] theorem v_if37 : ifaceB Tryd.prog 37 = some false := by kernel_rfl
@[go_sem] theorem v_agg39 : aggOf Tryd.prog 39 = some true := by kernel_rfl
@[go_sem] theorem v_sz39 : tsz Tryd.prog 39 = some 16 := by kernel_rfl
@[go_sem] theorem v_by39 : bytesOf Tryd.prog 39 = some 104 := by kernel_rfl
@[go_sem] theorem v_zero39 : tzero Tryd.prog 39 = some [.int .i64 0, .int .i64 0, .int .i64 0, .int .i64 0, .int .i64 0, .int .i64 0, .int .i64 0, .int .i64 0, .bool false, .bool false, .bool false, .bool false, .int .i64 0, .int .i64 0, .int .i64 0, .int .i64 0] := by kernel_rfl
@[go_sem] theorem v_plc39 : plc Tryd.prog 39 = some [(0, 8), (8, 4), (12, 1), (13, 1), (14, 1), (15, 1)] := by kernel_rfl
@[go_sem] theorem v_un39 : (Tryd.prog.underlying 39).isSome = true := by kernel_rfl
@[go_sem] theorem v_bool39 : isBool Tryd.prog 39 = false := by kernel_rfl
@[go_sem] theorem v_str39 : isStr Tryd.prog 39 = false := by kernel_rfl
@[go_sem] theorem v_el39 : elemOf' Tryd.prog 39 = none := by kernel_rfl
@[go_sem] theorem v_isb39 : isBytes Tryd.prog 39 = false := by kernel_rfl
@[go_sem] theorem v_if39 : ifaceB Tryd.prog 39 = some false := by kernel_rfl
@[go_sem] theorem v_agg40 : aggOf Tryd.prog 40 = some false := by kernel_rfl
@[go_sem] theorem v_sz40 : tsz Tryd.prog 40 = some 1 := by kernel_rfl
@[go_sem] theorem v_by40 : bytesOf Tryd.prog 40 = some 24 := by kernel_rfl
@[go_sem] theorem v_zero40 : tzero Tryd.prog 40 = some [.nils] := by kernel_rfl
@[go_sem] theorem v_un40 : (Tryd.prog.underlying 40).isSome = true := by kernel_rfl
@[go_sem] theorem v_bool40 : isBool Tryd.prog 40 = false := by kernel_rfl
@[go_sem] theorem v_str40 : isStr Tryd.prog 40 = false := by kernel_rfl
@[go_sem] theorem v_el40 : elemOf' Tryd.prog 40 = some 42 := by kernel_rfl
@[go_sem] theorem v_ix40 : ixOf Tryd.prog 40 = some (none, 42) := by kernel_rfl
@[go_sem] theorem v_isb40 : isBytes Tryd.prog 40 = false := by kernel_rfl
@[go_sem] theorem v_if40 : ifaceB Tryd.prog 40 = some false := by kernel_rfl
@[go_sem] theorem v_agg42 : aggOf Tryd.prog 42 = some true := by kernel_rfl
@[go_sem] theorem v_sz42 : tsz Tryd.prog 42 = some 2 := by kernel_rfl
@[go_sem] theorem v_by42 : bytesOf Tryd.prog 42 = some 16 := by kernel_rfl
@[go_sem] theorem v_zero42 : tzero Tryd.prog 42 = some [.int .i64 0, .int .i64 0] := by kernel_rfl
@[go_sem] theorem v_plc42 : plc Tryd.prog 42 = some [(0, 1), (1, 1)] := by kernel_rfl
@[go_sem] theorem v_un42 : (Tryd.prog.underlying 42).isSome = true := by kernel_rfl
@[go_sem] theorem v_bool42 : isBool Tryd.prog 42 = false := by kernel_rfl
@[go_sem] theorem v_str42 : isStr Tryd.prog 42 = false := by kernel_rfl
@[go_sem] theorem v_el42 : elemOf' Tryd.prog 42 = none := by kernel_rfl
@[go_sem] theorem v_isb42 : isBytes Tryd.prog 42 = false := by kernel_rfl
@[go_sem] theorem v_if42 : ifaceB Tryd.prog 42 = some false := by kernel_rfl
@[go_sem] theorem v_agg46 : aggOf Tryd.prog 46 = some false := by kernel_rfl
@[go_sem] theorem v_sz46 : tsz Tryd.prog 46 = some 1 := by kernel_rfl
@[go_sem] theorem v_by46 : bytesOf Tryd.prog 46 = some 8 := by kernel_rfl
@[go_sem] theorem v_zero46 : tzero Tryd.prog 46 = some [.nilp] := by kernel_rfl
@[go_sem] theorem v_un46 : (Tryd.prog.underlying 46).isSome = true := by kernel_rfl
@[go_sem] theorem v_bool46 : isBool Tryd.prog 46 = false := by kernel_rfl
@[go_sem] theorem v_str46 : isStr Tryd.prog 46 = false := by kernel_rfl
@[go_sem] theorem v_el46 : elemOf' Tryd.prog 46 = none := by kernel_rfl
@[go_sem] theorem v_isb46 : isBytes Tryd.prog 46 = false := by kernel_rfl
@[go_sem] theorem v_if46 : ifaceB Tryd.prog 46 = some false := by kernel_rfl
@[go_sem] theorem v_agg47 : aggOf Tryd.prog 47 = some false := by kernel_rfl
@[go_sem] theorem v_sz47 : tsz Tryd.prog 47 = some 1 := by kernel_rfl
@[go_sem] theorem v_by47 : bytesOf Tryd.prog 47 = some 24 := by kernel_rfl
@[go_sem] theorem v_zero47 : tzero Tryd.prog 47 = some [.nils] := by kernel_rfl
@[go_sem] theorem v_un47 : (Tryd.prog.underlying 47).isSome = true := by kernel_rfl
@[go_sem] theorem v_bool47 : isBool Tryd.prog 47 = false := by kernel_rfl
@[go_sem] theorem v_str47 : isStr Tryd.prog 47 = false := by kernel_rfl
@[go_sem] theorem v_el47 : elemOf' Tryd.prog 47 = some 5 := by kernel_rfl
@[go_sem] theorem v_ix47 : ixOf Tryd.prog 47 = some (none, 5) := by kernel_rfl
@[go_sem] theorem v_isb47 : isBytes Tryd.prog 47 = true := by kernel_rfl
@[go_sem] theorem v_if47 : ifaceB Tryd.prog 47 = some false := by kernel_rfl
@[go_sem] theorem v_agg49 : aggOf Tryd.prog 49 = some true := by kernel_rfl
@[go_sem] theorem v_sz49 : tsz Tryd.prog 49 = some 2 := by kernel_rfl
@[go_sem] theorem v_by49 : bytesOf Tryd.prog 49 = some 32 := by kernel_rfl
@[go_sem] theorem v_zero49 : tzero Tryd.prog 49 = some [.nilp, .nils] := by kernel_rfl
@[go_sem] theorem v_plc49 : plc Tryd.prog 49 = some [(0, 1), (1, 1)] := by kernel_rfl
@[go_sem] theorem v_un49 : (Tryd.prog.underlying 49).isSome = true := by kernel_rfl
@[go_sem] theorem v_bool49 : isBool Tryd.prog 49 = false := by kernel_rfl
@[go_sem] theorem v_str49 : isStr Tryd.prog 49 = false := by kernel_rfl
@[go_sem] theorem v_el49 : elemOf' Tryd.prog 49 = none := by kernel_rfl
@[go_sem] theorem v_isb49 : isBytes Tryd.prog 49 = false := by kernel_rfl
@[go_sem] theorem v_if49 : ifaceB Tryd.prog 49 = some false := by kernel_rfl
@[go_sem] theorem v_agg62 : aggOf Tryd.prog 62 = some false := by kernel_rfl
@[go_sem] theorem v_sz62 : tsz Tryd.prog 62 = some 1 := by kernel_rfl
@[go_sem] theorem v_by62 : bytesOf Tryd.prog 62 = some 24 := by kernel_rfl
@[go_sem] theorem v_zero62 : tzero Tryd.prog 62 = some [.nils] := by kernel_rfl
@[go_sem] theorem v_un62 : (Tryd.prog.underlying 62).isSome = true := by kernel_rfl
@[go_sem] theorem v_bool62 : isBool Tryd.prog 62 = false := by kernel_rfl
@[go_sem] theorem v_str62 : isStr Tryd.prog 62 = false := by kernel_rfl
@[go_sem] theorem v_el62 : elemOf' Tryd.prog 62 = some 4 := by kernel_rfl
@[go_sem] theorem v_ix62 : ixOf Tryd.prog 62 = some (none, 4) := by kernel_rfl
@[go_sem] theorem v_isb62 : isBytes Tryd.prog 62 = false := by kernel_rfl
@[go_sem] theorem v_if62 : ifaceB Tryd.prog 62 = some false := by kernel_rfl
@[go_sem] theorem v_agg63 : aggOf Tryd.prog 63 = some false := by kernel_rfl
@[go_sem] theorem v_sz63 : tsz Tryd.prog 63 = some 1 := by kernel_rfl
@[go_sem] theorem v_by63 : bytesOf Tryd.prog 63 = some 8 := by kernel_rfl
@[go_sem] theorem v_zero63 : tzero Tryd.prog 63 = some [.nilp] := by kernel_rfl
@[go_sem] theorem v_un63 : (Tryd.prog.underlying 63).isSome = true := by kernel_rfl
@[go_sem] theorem v_bool63 : isBool Tryd.prog 63 = false := by kernel_rfl
@[go_sem] theorem v_str63 : isStr Tryd.prog 63 = false := by kernel_rfl
@[go_sem] theorem v_el63 : elemOf' Tryd.prog 63 = none := by kernel_rfl
@[go_sem] theorem v_isb63 : isBytes Tryd.prog 63 = false := by kernel_rfl
@[go_sem] theorem v_if63 : ifaceB Tryd.prog 63 = some false := by kernel_rfl
@[go_sem] theorem v_agg64 : aggOf Tryd.prog 64 = some false := by kernel_rfl
@[go_sem] theorem v_sz64 : tsz Tryd.prog 64 = some 1 := by kernel_rfl
@[go_sem] theorem v_by64 : bytesOf Tryd.prog 64 = some 8 := by kernel_rfl
@[go_sem] theorem v_zero64 : tzero Tryd.prog 64 = some [.int .u64 0] := by kernel_rfl
@[go_sem] theorem v_ik64 : intKind Tryd.prog 64 = some .u64 := by kernel_rfl
@[go_sem] theorem v_un64 : (Tryd.prog.underlying 64).isSome = true := by kernel_rfl
@[go_sem] theorem v_bool64 : isBool Tryd.prog 64 = false := by kernel_rfl
@[go_sem] theorem v_str64 : isStr Tryd.prog 64 = false := by kernel_rfl
@[go_sem] theorem v_el64 : elemOf' Tryd.prog 64 = none := by kernel_rfl
@[go_sem] theorem v_isb64 : isBytes Tryd.prog 64 = false := by kernel_rfl
@[go_sem] theorem v_if64 : ifaceB Tryd.prog 64 = some false := by kernel_rfl
@[go_sem] theorem v_agg65 : aggOf Tryd.prog 65 = some false := by kernel_rfl
@[go_sem] theorem v_sz65 : tsz Tryd.prog 65 = some 1 := by kernel_rfl
@[go_sem] theorem v_by65 : bytesOf Tryd.prog 65 = some 8 := by kernel_rfl
@[go_sem] theorem v_zero65 : tzero Tryd.prog 65 = some [.nilp] := by kernel_rfl
@[go_sem] theorem v_un65 : (Tryd.prog.underlying 65).isSome = true := by kernel_rfl
@[go_sem] theorem v_bool65 : isBool Tryd.prog 65 = false := by kernel_rfl
@[go_sem] theorem v_str65 : isStr Tryd.prog 65 = false := by kernel_rfl
@[go_sem] theorem v_el65 : elemOf' Tryd.prog 65 = none := by kernel_rfl
@[go_sem] theorem v_isb65 : isBytes Tryd.prog 65 = false := by kernel_rfl
@[go_sem] theorem v_if65 : ifaceB Tryd.prog 65 = some false := by kernel_rfl
@[go_sem] theorem v_agg68 : aggOf Tryd.prog 68 = some true := by kernel_rfl
@[go_sem] theorem v_sz68 : tsz Tryd.prog 68 = some 24 := by kernel_rfl
@[go_sem] theorem v_by68 : bytesOf Tryd.prog 68 = some 24 := by kernel_rfl
@[go_sem] theorem v_zero68 : tzero Tryd.prog 68 = some [.int .u8 0, .int .u8 0, .int .u8 0, .int .u8 0, .int .u8 0, .int .u8 0, .int .u8 0, .int .u8 0, .int .u8 0, .int .u8 0, .int .u8 0, .int .u8 0, .int .u8 0, .int .u8 0, .int .u8 0, .int .u8 0, .int .u8 0, .int .u8 0, .int .u8 0, .int .u8 0, .int .u8 0, .int .u8 0, .int .u8 0, .int .u8 0] := by kernel_rfl
@[go_sem] theorem v_un68 : (Tryd.prog.underlying 68).isSome = true := by kernel_rfl
@[go_sem] theorem v_bool68 : isBool Tryd.prog 68 = false := by kernel_rfl
@[go_sem] theorem v_str68 : isStr Tryd.prog 68 = false := by kernel_rfl
@[go_sem] theorem v_el68 : elemOf' Tryd.prog 68 = none := by kernel_rfl
@[go_sem] theorem v_ix68 : ixOf Tryd.prog 68 = some (some 24, 5) := by kernel_rfl
@[go_sem] theorem v_ar68 : arrOf Tryd.prog 68 = some (24, 5) := by kernel_rfl
@[go_sem] theorem v_isb68 : isBytes Tryd.prog 68 = false := by kernel_rfl
@[go_sem] theorem v_if68 : ifaceB Tryd.prog 68 = some false := by kernel_rfl
@[go_sem] theorem v_agg75 : aggOf Tryd.prog 75 = some true := by kernel_rfl
@[go_sem] theorem v_sz75 : tsz Tryd.prog 75 = some 20 := by kernel_rfl
@[go_sem] theorem v_by75 : bytesOf Tryd.prog 75 = some 160 := by kernel_rfl
@[go_sem] theorem v_zero75 : tzero Tryd.prog 75 = some [.int .u64 0, .int .u64 0, .int .u64 0, .int .u64 0, .int .u64 0, .int .u64 0, .int .u64 0, .int .u64 0, .int .u64 0, .int .u64 0, .int .u64 0, .int .u64 0, .int .u64 0, .int .u64 0, .int .u64 0, .int .u64 0, .int .u64 0, .int .u64 0, .int .u64 0, .int .u64 0] := by kernel_rfl
@[go_sem] theorem v_un75 : (Tryd.prog.underlying 75).isSome = true := by kernel_rfl
@[go_sem] theorem v_bool75 : isBool Tryd.prog 75 = false := by kernel_rfl
@[go_sem] theorem v_str75 : isStr Tryd.prog 75 = false := by kernel_rfl
@[go_sem] theorem v_el75 : elemOf' Tryd.prog 75 = none := by kernel_rfl
@[go_sem] theorem v_ix75 : ixOf Tryd.prog 75 = some (some 20, 64) := by kernel_rfl
@[go_sem] theorem v_ar75 : arrOf Tryd.prog 75 = some (20, 64) := by kernel_rfl
@[go_sem] theorem v_isb75 : isBytes Tryd.prog 75 = false := by kernel_rfl
@[go_sem] theorem v_if75 : ifaceB Tryd.prog 75 = some false := by kernel_rfl
@[go_sem] theorem v_agg76 : aggOf Tryd.prog 76 = some false := by kernel_rfl
@[go_sem] theorem v_sz76 : tsz Tryd.prog 76 = some 1 := by kernel_rfl
@[go_sem] theorem v_by76 : bytesOf Tryd.prog 76 = some 4 := by kernel_rfl
@[go_sem] theorem v_zero76 : tzero Tryd.prog 76 = some [.int .u32 0] := by kernel_rfl
@[go_sem] theorem v_ik76 : intKind Tryd.prog 76 = some .u32 := by kernel_rfl
@[go_sem] theorem v_un76 : (Tryd.prog.underlying 76).isSome = true := by kernel_rfl
@[go_sem] theorem v_bool76 : isBool Tryd.prog 76 = false := by kernel_rfl
@[go_sem] theorem v_str76 : isStr Tryd.prog 76 = false := by kernel_rfl
@[go_sem] theorem v_el76 : elemOf' Tryd.prog 76 = none := by kernel_rfl
@[go_sem] theorem v_isb76 : isBytes Tryd.prog 76 = false := by kernel_rfl
@[go_sem] theorem v_if76 : ifaceB Tryd.prog 76 = some false := by kernel_rfl
@[go_sem] theorem v_agg77 : aggOf Tryd.prog 77 = some true := by kernel_rfl
@[go_sem] theorem v_sz77 : tsz Tryd.prog 77 = some 65 := by kernel_rfl
@[go_sem] theorem v_by77 : bytesOf Tryd.prog 77 = some 65 := by kernel_rfl
@[go_sem] theorem v_un77 : (Tryd.prog.underlying 77).isSome = true := by kernel_rfl
@[go_sem] theorem v_bool77 : isBool Tryd.prog 77 = false := by kernel_rfl
@[go_sem] theorem v_str77 : isStr Tryd.prog 77 = false := by kernel_rfl
@[go_sem] theorem v_el77 : elemOf' Tryd.prog 77 = none := by kernel_rfl
@[go_sem] theorem v_ix77 : ixOf Tryd.prog 77 = some (some 65, 5) := by kernel_rfl
@[go_sem] theorem v_ar77 : arrOf Tryd.prog 77 = some (65, 5) := by kernel_rfl
@[go_sem] theorem v_isb77 : isBytes Tryd.prog 77 = false := by kernel_rfl
@[go_sem] theorem v_if77 : ifaceB Tryd.prog 77 = some false := by kernel_rfl
@[go_sem] theorem v_agg79 : aggOf Tryd.prog 79 = some false := by kernel_rfl
@[go_sem] theorem v_sz79 : tsz Tryd.prog 79 = some 1 := by kernel_rfl
@[go_sem] theorem v_by79 : bytesOf Tryd.prog 79 = some 8 := by kernel_rfl
@[go_sem] theorem v_zero79 : tzero Tryd.prog 79 = some [.int .u64 0] := by kernel_rfl
@[go_sem] theorem v_ik79 : intKind Tryd.prog 79 = some .u64 := by kernel_rfl
@[go_sem] theorem v_un79 : (Tryd.prog.underlying 79).isSome = true := by kernel_rfl
@[go_sem] theorem v_bool79 : isBool Tryd.prog 79 = false := by kernel_rfl
@[go_sem] theorem v_str79 : isStr Tryd.prog 79 = false := by kernel_rfl
@[go_sem] theorem v_el79 : elemOf' Tryd.prog 79 = none := by kernel_rfl
@[go_sem] theorem v_isb79 : isBytes Tryd.prog 79 = false := by kernel_rfl
@[go_sem] theorem v_if79 : ifaceB Tryd.prog 79 = some false := by kernel_rfl
@[go_sem] theorem v_agg82 : aggOf Tryd.prog 82 = some true := by kernel_rfl
@[go_sem] theorem v_sz82 : tsz Tryd.prog 82 = some 32 := by kernel_rfl
@[go_sem] theorem v_by82 : bytesOf Tryd.prog 82 = some 32 := by kernel_rfl
@[go_sem] theorem v_zero82 : tzero Tryd.prog 82 = some [.int .u8 0, .int .u8 0, .int .u8 0, .int .u8 0, .int .u8 0, .int .u8 0, .int .u8 0, .int .u8 0, .int .u8 0, .int .u8 0, .int .u8 0, .int .u8 0, .int .u8 0, .int .u8 0, .int .u8 0, .int .u8 0, .int .u8 0, .int .u8 0, .int .u8 0, .int .u8 0, .int .u8 0, .int .u8 0, .int .u8 0, .int .u8 0, .int .u8 0, .int .u8 0, .int .u8 0, .int .u8 0, .int .u8 0, .int .u8 0, .int .u8 0, .int .u8 0] := by kernel_rfl
@[go_sem] theorem v_un82 : (Tryd.prog.underlying 82).isSome = true := by kernel_rfl
@[go_sem] theorem v_bool82 : isBool Tryd.prog 82 = false := by kernel_rfl
@[go_sem] theorem v_str82 : isStr Tryd.prog 82 = false := by kernel_rfl
@[go_sem] theorem v_el82 : elemOf' Tryd.prog 82 = none := by kernel_rfl
@[go_sem] theorem v_ix82 : ixOf Tryd.prog 82 = some (some 32, 5) := by kernel_rfl
@[go_sem] theorem v_ar82 : arrOf Tryd.prog 82 = some (32, 5) := by kernel_rfl
@[go_sem] theorem v_isb82 : isBytes Tryd.prog 82 = false := by kernel_rfl
@[go_sem] theorem v_if82 : ifaceB Tryd.prog 82 = some false := by kernel_rfl
@[go_sem] theorem v_agg83 : aggOf Tryd.prog 83 = some true := by kernel_rfl
@[go_sem] theorem v_sz83 : tsz Tryd.prog 83 = some 64 := by kernel_rfl
@[go_sem] theorem v_by83 : bytesOf Tryd.prog 83 = some 64 := by kernel_rfl
@[go_sem] theorem v_zero83 : tzero Tryd.prog 83 = some [.int .u8 0, .int .u8 0, .int .u8 0, .int .u8 0, .int .u8 0, .int .u8 0, .int .u8 0, .int .u8 0, .int .u8 0, .int .u8 0, .int .u8 0, .int .u8 0, .int .u8 0, .int .u8 0, .int .u8 0, .int .u8 0, .int .u8 0, .int .u8 0, .int .u8 0, .int .u8 0, .int .u8 0, .int .u8 0, .int .u8 0, .int .u8 0, .int .u8 0, .int .u8 0, .int .u8 0, .int .u8 0, .int .u8 0, .int .u8 0, .int .u8 0, .int .u8 0, .int .u8 0, .int .u8 0, .int .u8 0, .int .u8 0, .int .u8 0, .int .u8 0, .int .u8 0, .int .u8 0, .int .u8 0, .int .u8 0, .int .u8 0, .int .u8 0, .int .u8 0, .int .u8 0, .int .u8 0, .int .u8 0, .int .u8 0, .int .u8 0, .int .u8 0, .int .u8 0, .int .u8 0, .int .u8 0, .int .u8 0, .int .u8 0, .int .u8 0, .int .u8 0, .int .u8 0, .int .u8 0, .int .u8 0, .int .u8 0, .int .u8 0, .int .u8 0] := by kernel_rfl
@[go_sem] theorem v_un83 : (Tryd.prog.underlying 83).isSome = true := by kernel_rfl
@[go_sem] theorem v_bool83 : isBool Tryd.prog 83 = false := by kernel_rfl
@[go_sem] theorem v_str83 : isStr Tryd.prog 83 = false := by kernel_rfl
@[go_sem] theorem v_el83 : elemOf' Tryd.prog 83 = none := by kernel_rfl
@[go_sem] theorem v_ix83 : ixOf Tryd.prog 83 = some (some 64, 5) := by kernel_rfl
@[go_sem] theorem v_ar83 : arrOf Tryd.prog 83 = some (64, 5) := by kernel_rfl
@[go_sem] theorem v_isb83 : isBytes Tryd.prog 83 = false := by kernel_rfl
@[go_sem] theorem v_if83 : ifaceB Tryd.prog 83 = some false := by kernel_rfl
@[go_sem] theorem v_pt63 : ptrTo Tryd.prog 63 = some 5 := by kernel_rfl
@[go_sem] theorem v_co5 : Tryd.prog.cellsOf 5 = 1 := by kernel_rfl
@[go_sem] theorem v_eq39 : eqOk Tryd.prog 39 = some [1, 1, 1, 1, 1, 1, 1, 1, 0, 0, 0, 0, 1, 1, 1, 1] := by kernel_rfl
@[go_sem] theorem v_eq42 : eqOk Tryd.prog 42 = some [1, 1] := by kernel_rfl
@[go_sem] theorem v_fn7 : fnOk Tryd.prog 7 = true := by kernel_rfl
@[go_sem] theorem v_fn8 : fnOk Tryd.prog 8 = true := by kernel_rfl
@[go_sem] theorem v_fn9 : fnOk Tryd.prog 9 = true := by kernel_rfl
@[go_sem] theorem v_fn10 : fnOk Tryd.prog 10 = true := by kernel_rfl
@[go_sem] theorem v_fn11 : fnOk Tryd.prog 11 = true := by kernel_rfl
@[go_sem] theorem v_fn12 : fnOk Tryd.prog 12 = true := by kernel_rfl
@[go_sem] theorem v_fn13 : fnOk Tryd.prog 13 = true := by kernel_rfl
@[go_sem] theorem v_fn14 : fnOk Tryd.prog 14 = true := by kernel_rfl
@[go_sem] theorem v_fn15 : fnOk Tryd.prog 15 = true := by kernel_rfl
@[go_sem] theorem v_fn16 : fnOk Tryd.prog 16 = true := by kernel_rfl
@[go_sem] theorem v_fn17 : fnOk Tryd.prog 17 = true := by kernel_rfl
@[go_sem] theorem v_fn18 : fnOk Tryd.prog 18 = true := by kernel_rfl
@[go_sem] theorem v_fn19 : fnOk Tryd.prog 19 = true := by kernel_rfl
@[go_sem] theorem v_fn20 : fnOk Tryd.prog 20 = true := by kernel_rfl
@[go_sem] theorem v_fn21 : fnOk Tryd.prog 21 = true := by kernel_rfl
@[go_sem] theorem v_fn22 : fnOk Tryd.prog 22 = true := by kernel_rfl
@[go_sem] theorem v_fn23 : fnOk Tryd.prog 23 = true := by kernel_rfl
@[go_sem] theorem v_fn24 : fnOk Tryd.prog 24 = true := by kernel_rfl
@[go_sem] theorem v_fn25 : fnOk Tryd.prog 25 = true := by kernel_rfl
@[go_sem] theorem v_fn26 : fnOk Tryd.prog 26 = true := by kernel_rfl
@[go_sem] theorem v_fn27 : fnOk Tryd.prog 27 = true := by kernel_rfl
@[go_sem] theorem v_fn28 : fnOk Tryd.prog 28 = true := by kernel_rfl
@[go_sem] theorem v_fn29 : fnOk Tryd.prog 29 = true := by kernel_rfl
@[go_sem] theorem v_fn30 : fnOk Tryd.prog 30 = true := by kernel_rfl
@[go_sem] theorem v_fn31 : fnOk Tryd.prog 31 = true := by kernel_rfl
@[go_sem] theorem v_fn32 : fnOk Tryd.prog 32 = true := by kernel_rfl
@[go_sem] theorem v_fn33 : fnOk Tryd.prog 33 = true := by kernel_rfl
@[go_sem] theorem v_fn35 : fnOk Tryd.prog 35 = true := by kernel_rfl
@[go_sem] theorem v_fn36 : fnOk Tryd.prog 36 = true := by kernel_rfl
@[go_sem] theorem v_fn37 : fnOk Tryd.prog 37 = true := by kernel_rfl
@[go_sem] theorem v_fn38 : fnOk Tryd.prog 38 = true := by kernel_rfl
@[go_sem] theorem v_fn39 : fnOk Tryd.prog 39 = true := by kernel_rfl
@[go_sem] theorem v_fn40 : fnOk Tryd.prog 40 = true := by kernel_rfl
@[go_sem] theorem v_fn41 : fnOk Tryd.prog 41 = true := by kernel_rfl
@[go_sem] theorem v_fn42 : fnOk Tryd.prog 42 = true := by kernel_rfl
@[go_sem] theorem v_fn43 : fnOk Tryd.prog 43 = true := by kernel_rfl
@[go_sem] theorem v_fn44 : fnOk Tryd.prog 44 = true := by kernel_rfl
@[go_sem] theorem v_fn45 : fnOk Tryd.prog 45 = true := by kernel_rfl
@[go_sem] theorem v_fn46 : fnOk Tryd.prog 46 = true := by kernel_rfl
@[go_sem] theorem v_res2 : Tryd.f2.results.toList = [] := rfl
@[go_sem] theorem v_res3 : Tryd.f3.results.toList = [.tmp 4] := rfl
@[go_sem] theorem v_res4 : Tryd.f4.results.toList = [.tmp 10] := rfl
@[go_sem] theorem v_res5 : Tryd.f5.results.toList = [.tmp 6] := rfl
@[go_sem] theorem v_res6 : Tryd.f6.results.toList = [.tmp 2] := rfl
@[go_sem] theorem v_res7 : Tryd.f7.results.toList = [.tmp 2] := rfl
@[go_sem] theorem v_res8 : Tryd.f8.results.toList = [.tmp 0] := rfl
@[go_sem] theorem v_res9 : Tryd.f9.results.toList = [.tmp 4] := rfl
@[go_sem] theorem v_res10 : Tryd.f10.results.toList = [.tmp 4] := rfl
@[go_sem] theorem v_res11 : Tryd.f11.results.toList = [.tmp 2] := rfl
@[go_sem] theorem v_res12 : Tryd.f12.results.toList = [.tmp 2] := rfl
@[go_sem] theorem v_res13 : Tryd.f13.results.toList = [.tmp 2] := rfl
@[go_sem] theorem v_res14 : Tryd.f14.results.toList = [.tmp 2] := rfl
@[go_sem] theorem v_res15 : Tryd.f15.results.toList = [.cell 8 26] := rfl
@[go_sem] theorem v_res16 : Tryd.f16.results.toList = [.cell 2 26] := rfl
@[go_sem] theorem v_res17 : Tryd.f17.results.toList = [.cell 2 26] := rfl
@[go_sem] theorem v_res18 : Tryd.f18.results.toList = [.tmp 4] := rfl
@[go_sem] theorem v_res19 : Tryd.f19.results.toList = [.tmp 4] := rfl
@[go_sem] theorem v_res20 : Tryd.f20.results.toList = [.tmp 4] := rfl
@[go_sem] theorem v_res21 : Tryd.f21.results.toList = [.tmp 4] := rfl
@[go_sem] theorem v_res22 : Tryd.f22.results.toList = [.tmp 4] := rfl
@[go_sem] theorem v_res23 : Tryd.f23.results.toList = [] := rfl
@[go_sem] theorem v_res24 : Tryd.f24.results.toList = [.tmp 4, .tmp 5] := rfl
@[go_sem] theorem v_res25 : Tryd.f25.results.toList = [.tmp 2] := rfl
@[go_sem] theorem v_res26 : Tryd.f26.results.toList = [.tmp 2] := rfl
@[go_sem] theorem v_res27 : Tryd.f27.results.toList = [.tmp 2] := rfl
@[go_sem] theorem v_res28 : Tryd.f28.results.toList = [.tmp 2] := rfl
@[go_sem] theorem v_res29 : Tryd.f29.results.toList = [.tmp 2] := rfl
@[go_sem] theorem v_res30 : Tryd.f30.results.toList = [.tmp 2] := rfl
@[go_sem] theorem v_res31 : Tryd.f31.results.toList = [.tmp 4] := rfl
@[go_sem] theorem v_res32 : Tryd.f32.results.toList = [] := rfl
@[go_sem] theorem v_res33 : Tryd.f33.results.toList = [.tmp 4] := rfl
@[go_sem] theorem v_res35 : Tryd.f35.results.toList = [.tmp 4] := rfl
@[go_sem] theorem v_res36 : Tryd.f36.results.toList = [.tmp 2] := rfl
@[go_sem] theorem v_res37 : Tryd.f37.results.toList = [.tmp 2] := rfl
@[go_sem] theorem v_res38 : Tryd.f38.results.toList = [] := rfl
@[go_sem] theorem v_res39 : Tryd.f39.results.toList = [.tmp 10, .tmp 11] := rfl
@[go_sem] theorem v_res40 : Tryd.f40.results.toList = [.tmp 2] := rfl
@[go_sem] theorem v_res41 : Tryd.f41.results.toList = [.tmp 2] := rfl
@[go_sem] theorem v_res42 : Tryd.f42.results.toList = [.tmp 2] := rfl
@[go_sem] theorem v_res43 : Tryd.f43.results.toList = [.tmp 2] := rfl
@[go_sem] theorem v_res44 : Tryd.f44.results.toList = [.tmp 2] := rfl
@[go_sem] theorem v_res45 : Tryd.f45.results.toList = [.tmp 2] := rfl
@[go_sem] theorem v_res46 : Tryd.f46.results.toList = [.tmp 2] := rfl
@[go_sem] theorem v_res69 : Tryd.f69.results.toList = [] := rfl
theorem v_mixed : Tryd.prog.follows .mixedOrders = true := by kernel_rfl
end Go.Proofs.YtlolkehjlkmcbaaDoor
