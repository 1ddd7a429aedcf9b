import Derived.Test.YtpdjmghnimimgaaProg
import Derived.Test.YtpdjmghnimimgaaVsL
import Derived.KernelRfl
set_option linter.unusedVariables false
set_option maxRecDepth 100000
namespace Go.Proofs.Ytpdjmghnimimgaa
open Go.Vs
@[go_sem] theorem v_agg2 : aggOf Try.prog 2 = some false := by kernel_rfl
@[go_sem] theorem v_sz2 : tsz Try.prog 2 = some 1 := by kernel_rfl
@[go_sem] theorem v_zero2 : tzero Try.prog 2 = some [.int .i64 0] := by kernel_rfl
@[go_sem] theorem v_ik2 : intKind Try.prog 2 = some .i64 := by kernel_rfl
@[go_sem] theorem v_un2 : (Try.prog.underlying 2).isSome = true := by kernel_rfl
@[go_sem] theorem v_bool2 : isBool Try.prog 2 = false := by kernel_rfl
@[go_sem] theorem v_str2 : isStr Try.prog 2 = false := by kernel_rfl
@[go_sem] theorem v_el2 : elemOf' Try.prog 2 = none := by kernel_rfl
@[go_sem] theorem v_if2 : ifaceB Try.prog 2 = some false := by kernel_rfl
@[go_sem] theorem v_agg3 : aggOf Try.prog 3 = some false := by kernel_rfl
@[go_sem] theorem v_sz3 : tsz Try.prog 3 = some 1 := by kernel_rfl
@[go_sem] theorem v_zero3 : tzero Try.prog 3 = some [.int .i64 0] := by kernel_rfl
@[go_sem] theorem v_ik3 : intKind Try.prog 3 = some .i64 := by kernel_rfl
@[go_sem] theorem v_un3 : (Try.prog.underlying 3).isSome = true := by kernel_rfl
@[go_sem] theorem v_bool3 : isBool Try.prog 3 = false := by kernel_rfl
@[go_sem] theorem v_str3 : isStr Try.prog 3 = false := by kernel_rfl
@[go_sem] theorem v_el3 : elemOf' Try.prog 3 = none := by kernel_rfl
@[go_sem] theorem v_if3 : ifaceB Try.prog 3 = some false := by kernel_rfl
@[go_sem] theorem v_agg4 : aggOf Try.prog 4 = some false := by kernel_rfl
@[go_sem] theorem v_sz4 : tsz Try.prog 4 = some 1 := by kernel_rfl
@[go_sem] theorem v_zero4 : tzero Try.prog 4 = some [.bool false] := by kernel_rfl
@[go_sem] theorem v_un4 : (Try.prog.underlying 4).isSome = true := by kernel_rfl
@[go_sem] theorem v_bool4 : isBool Try.prog 4 = true := by kernel_rfl
@[go_sem] theorem v_str4 : isStr Try.prog 4 = false := by kernel_rfl
@[go_sem] theorem v_el4 : elemOf' Try.prog 4 = none := by kernel_rfl
@[go_sem] theorem v_if4 : ifaceB Try.prog 4 = some false := by kernel_rfl
@[go_sem] theorem v_agg5 : aggOf Try.prog 5 = some false := by kernel_rfl
@[go_sem] theorem v_sz5 : tsz Try.prog 5 = some 1 := by kernel_rfl
@[go_sem] theorem v_zero5 : tzero Try.prog 5 = some [.int .u8 0] := by kernel_rfl
@[go_sem] theorem v_ik5 : intKind Try.prog 5 = some .u8 := by kernel_rfl
@[go_sem] theorem v_un5 : (Try.prog.underlying 5).isSome = true := by kernel_rfl
@[go_sem] theorem v_bool5 : isBool Try.prog 5 = false := by kernel_rfl
@[go_sem] theorem v_str5 : isStr Try.prog 5 = false := by kernel_rfl
@[go_sem] theorem v_el5 : elemOf' Try.prog 5 = none := by kernel_rfl
@[go_sem] theorem v_if5 : ifaceB Try.prog 5 = some false := by kernel_rfl
@[go_sem] theorem v_agg9 : aggOf Try.prog 9 = some false := by kernel_rfl
@[go_sem] theorem v_sz9 : tsz Try.prog 9 = some 1 := by kernel_rfl
@[go_sem] theorem v_zero9 : tzero Try.prog 9 = some [.str ⟨#[]⟩] := by kernel_rfl
@[go_sem] theorem v_un9 : (Try.prog.underlying 9).isSome = true := by kernel_rfl
@[go_sem] theorem v_bool9 : isBool Try.prog 9 = false := by kernel_rfl
@[go_sem] theorem v_str9 : isStr Try.prog 9 = true := by kernel_rfl
@[go_sem] theorem v_el9 : elemOf' Try.prog 9 = none := by kernel_rfl
@[go_sem] theorem v_if9 : ifaceB Try.prog 9 = some false := by kernel_rfl
@[go_sem] theorem v_agg20 : aggOf Try.prog 20 = some false := by kernel_rfl
@[go_sem] theorem v_sz20 : tsz Try.prog 20 = some 1 := by kernel_rfl
@[go_sem] theorem v_zero20 : tzero Try.prog 20 = some [.nili] := by kernel_rfl
@[go_sem] theorem v_un20 : (Try.prog.underlying 20).isSome = true := by kernel_rfl
@[go_sem] theorem v_bool20 : isBool Try.prog 20 = false := by kernel_rfl
@[go_sem] theorem v_str20 : isStr Try.prog 20 = false := by kernel_rfl
@[go_sem] theorem v_el20 : elemOf' Try.prog 20 = none := by kernel_rfl
@[go_sem] theorem v_if20 : ifaceB Try.prog 20 = some true := by kernel_rfl
@[go_sem] theorem v_agg21 : aggOf Try.prog 21 = some false := by kernel_rfl
@[go_sem] theorem v_sz21 : tsz Try.prog 21 = some 1 := by kernel_rfl
@[go_sem] theorem v_zero21 : tzero Try.prog 21 = some [.int .i32 0] := by kernel_rfl
@[go_sem] theorem v_ik21 : intKind Try.prog 21 = some .i32 := by kernel_rfl
@[go_sem] theorem v_un21 : (Try.prog.underlying 21).isSome = true := by kernel_rfl
@[go_sem] theorem v_bool21 : isBool Try.prog 21 = false := by kernel_rfl
@[go_sem] theorem v_str21 : isStr Try.prog 21 = false := by kernel_rfl
@[go_sem] theorem v_el21 : elemOf' Try.prog 21 = none := by kernel_rfl
@[go_sem] theorem v_if21 : ifaceB Try.prog 21 = some false := by kernel_rfl
@[go_sem] theorem v_agg23 : aggOf Try.prog 23 = some true := by kernel_rfl
@[go_sem] theorem v_sz23 : tsz Try.prog 23 = some 4 := by kernel_rfl
@[go_sem] theorem v_zero23 : tzero Try.prog 23 = some [.bool false, .bool false, .bool false, .bool false] := by kernel_rfl
@[go_sem] theorem v_plc23 : plc Try.prog 23 = some [(0, 1), (1, 1), (2, 1), (3, 1)] := by kernel_rfl
@[go_sem] theorem v_un23 : (Try.prog.underlying 23).isSome = true := by kernel_rfl
@[go_sem] theorem v_bool23 : isBool Try.prog 23 = false := by kernel_rfl
@[go_sem] theorem v_str23 : isStr Try.prog 23 = false := by kernel_rfl
@[go_sem] theorem v_el23 : elemOf' Try.prog 23 = none := by kernel_rfl
@[go_sem] theorem v_if23 : ifaceB Try.prog 23 = some false := by kernel_rfl
@[go_sem] theorem v_agg32 : aggOf Try.prog 32 = some false := by kernel_rfl
@[go_sem] theorem v_sz32 : tsz Try.prog 32 = some 1 := by kernel_rfl
@[go_sem] theorem v_zero32 : tzero Try.prog 32 = some [.int .u64 0] := by kernel_rfl
@[go_sem] theorem v_ik32 : intKind Try.prog 32 = some .u64 := by kernel_rfl
@[go_sem] theorem v_un32 : (Try.prog.underlying 32).isSome = true := by kernel_rfl
@[go_sem] theorem v_bool32 : isBool Try.prog 32 = false := by kernel_rfl
@[go_sem] theorem v_str32 : isStr Try.prog 32 = false := by kernel_rfl
@[go_sem] theorem v_el32 : elemOf' Try.prog 32 = none := by kernel_rfl
@[go_sem] theorem v_if32 : ifaceB Try.prog 32 = some false := by kernel_rfl
@[go_sem] theorem v_agg33 : aggOf Try.prog 33 = some false := by kernel_rfl
@[go_sem] theorem v_sz33 : tsz Try.prog 33 = some 1 := by kernel_rfl
@[go_sem] theorem v_zero33 : tzero Try.prog 33 = some [.nils] := by kernel_rfl
@[go_sem] theorem v_un33 : (Try.prog.underlying 33).isSome = true := by kernel_rfl
@[go_sem] theorem v_bool33 : isBool Try.prog 33 = false := by kernel_rfl
@[go_sem] theorem v_str33 : isStr Try.prog 33 = false := by kernel_rfl
@[go_sem] theorem v_el33 : elemOf' Try.prog 33 = some 4 := by kernel_rfl
@[go_sem] theorem v_if33 : ifaceB Try.prog 33 = some false := by kernel_rfl
@[go_sem] theorem v_agg36 : aggOf Try.prog 36 = some true := by kernel_rfl
@[go_sem] theorem v_sz36 : tsz Try.prog 36 = some 4 := by kernel_rfl
@[go_sem] theorem v_zero36 : tzero Try.prog 36 = some [.int .i64 0, .int .i64 0, .int .i64 0, .int .i64 0] := by kernel_rfl
@[go_sem] theorem v_plc36 : plc Try.prog 36 = some [(0, 1), (1, 1), (2, 1), (3, 1)] := by kernel_rfl
@[go_sem] theorem v_un36 : (Try.prog.underlying 36).isSome = true := by kernel_rfl
@[go_sem] theorem v_bool36 : isBool Try.prog 36 = false := by kernel_rfl
@[go_sem] theorem v_str36 : isStr Try.prog 36 = false := by kernel_rfl
@[go_sem] theorem v_el36 : elemOf' Try.prog 36 = none := by kernel_rfl
@[go_sem] theorem v_if36 : ifaceB Try.prog 36 = some false := by kernel_rfl
@[go_sem] theorem v_agg37 : aggOf Try.prog 37 = some false := by kernel_rfl
@[go_sem] theorem v_sz37 : tsz Try.prog 37 = some 1 := by kernel_rfl
@[go_sem] theorem v_zero37 : tzero Try.prog 37 = some [.nils] := by kernel_rfl
@[go_sem] theorem v_un37 : (Try.prog.underlying 37).isSome = true := by kernel_rfl
@[go_sem] theorem v_bool37 : isBool Try.prog 37 = false := by kernel_rfl
@[go_sem] theorem v_str37 : isStr Try.prog 37 = false := by kernel_rfl
@[go_sem] theorem v_el37 : elemOf' Try.prog 37 = some 9 := by kernel_rfl
@[go_sem] theorem v_if37 : ifaceB Try.prog 37 = some false := by kernel_rfl
@[go_sem] theorem v_agg40 : aggOf Try.prog 40 = some false := by kernel_rfl
@[go_sem] theorem v_sz40 : tsz Try.prog 40 = some 1 := by kernel_rfl
@[go_sem] theorem v_zero40 : tzero Try.prog 40 = some [.nili] := by kernel_rfl
@[go_sem] theorem v_un40 : (Try.prog.underlying 40).isSome = true := by kernel_rfl
@[go_sem] theorem v_bool40 : isBool Try.prog 40 = false := by kernel_rfl
@[go_sem] theorem v_str40 : isStr Try.prog 40 = false := by kernel_rfl
@[go_sem] theorem v_el40 : elemOf' Try.prog 40 = none := by kernel_rfl
@[go_sem] theorem v_if40 : ifaceB Try.prog 40 = some true := by kernel_rfl
@[go_sem] theorem v_agg49 : aggOf Try.prog 49 = some true := by kernel_rfl
@[go_sem] theorem v_sz49 : tsz Try.prog 49 = some 1 := by kernel_rfl
@[go_sem] theorem v_zero49 : tzero Try.prog 49 = some [.int .i64 0] := by kernel_rfl
@[go_sem] theorem v_plc49 : plc Try.prog 49 = some [(0, 1)] := by kernel_rfl
@[go_sem] theorem v_un49 : (Try.prog.underlying 49).isSome = true := by kernel_rfl
@[go_sem] theorem v_bool49 : isBool Try.prog 49 = false := by kernel_rfl
@[go_sem] theorem v_str49 : isStr Try.prog 49 = false := by kernel_rfl
@[go_sem] theorem v_el49 : elemOf' Try.prog 49 = none := by kernel_rfl
@[go_sem] theorem v_if49 : ifaceB Try.prog 49 = some false := by kernel_rfl
@[go_sem] theorem v_agg51 : aggOf Try.prog 51 = some true := by kernel_rfl
@[go_sem] theorem v_sz51 : tsz Try.prog 51 = some 1 := by kernel_rfl
@[go_sem] theorem v_zero51 : tzero Try.prog 51 = some [.int .i64 0] := by kernel_rfl
@[go_sem] theorem v_plc51 : plc Try.prog 51 = some [(0, 1)] := by kernel_rfl
@[go_sem] theorem v_un51 : (Try.prog.underlying 51).isSome = true := by kernel_rfl
@[go_sem] theorem v_bool51 : isBool Try.prog 51 = false := by kernel_rfl
@[go_sem] theorem v_str51 : isStr Try.prog 51 = false := by kernel_rfl
@[go_sem] theorem v_el51 : elemOf' Try.prog 51 = none := by kernel_rfl
@[go_sem] theorem v_if51 : ifaceB Try.prog 51 = some false := by kernel_rfl
@[go_sem] theorem v_agg53 : aggOf Try.prog 53 = some true := by kernel_rfl
@[go_sem] theorem v_sz53 : tsz Try.prog 53 = some 2 := by kernel_rfl
@[go_sem] theorem v_zero53 : tzero Try.prog 53 = some [.int .i64 0, .int .i64 0] := by kernel_rfl
@[go_sem] theorem v_plc53 : plc Try.prog 53 = some [(0, 1), (1, 1)] := by kernel_rfl
@[go_sem] theorem v_un53 : (Try.prog.underlying 53).isSome = true := by kernel_rfl
@[go_sem] theorem v_bool53 : isBool Try.prog 53 = false := by kernel_rfl
@[go_sem] theorem v_str53 : isStr Try.prog 53 = false := by kernel_rfl
@[go_sem] theorem v_el53 : elemOf' Try.prog 53 = none := by kernel_rfl
@[go_sem] theorem v_if53 : ifaceB Try.prog 53 = some false := by kernel_rfl
@[go_sem] theorem v_agg55 : aggOf Try.prog 55 = some true := by kernel_rfl
@[go_sem] theorem v_sz55 : tsz Try.prog 55 = some 2 := by kernel_rfl
@[go_sem] theorem v_zero55 : tzero Try.prog 55 = some [.int .i64 0, .int .i64 0] := by kernel_rfl
@[go_sem] theorem v_plc55 : plc Try.prog 55 = some [(0, 1), (1, 1)] := by kernel_rfl
@[go_sem] theorem v_un55 : (Try.prog.underlying 55).isSome = true := by kernel_rfl
@[go_sem] theorem v_bool55 : isBool Try.prog 55 = false := by kernel_rfl
@[go_sem] theorem v_str55 : isStr Try.prog 55 = false := by kernel_rfl
@[go_sem] theorem v_el55 : elemOf' Try.prog 55 = none := by kernel_rfl
@[go_sem] theorem v_if55 : ifaceB Try.prog 55 = some false := by kernel_rfl
@[go_sem] theorem v_agg56 : aggOf Try.prog 56 = some false := by kernel_rfl
@[go_sem] theorem v_sz56 : tsz Try.prog 56 = some 1 := by kernel_rfl
@[go_sem] theorem v_zero56 : tzero Try.prog 56 = some [.nils] := by kernel_rfl
@[go_sem] theorem v_un56 : (Try.prog.underlying 56).isSome = true := by kernel_rfl
@[go_sem] theorem v_bool56 : isBool Try.prog 56 = false := by kernel_rfl
@[go_sem] theorem v_str56 : isStr Try.prog 56 = false := by kernel_rfl
@[go_sem] theorem v_el56 : elemOf' Try.prog 56 = some 40 := by kernel_rfl
@[go_sem] theorem v_if56 : ifaceB Try.prog 56 = some false := by kernel_rfl
@[go_sem] theorem v_agg57 : aggOf Try.prog 57 = some false := by kernel_rfl
@[go_sem] theorem v_sz57 : tsz Try.prog 57 = some 1 := by kernel_rfl
@[go_sem] theorem v_zero57 : tzero Try.prog 57 = some [.nils] := by kernel_rfl
@[go_sem] theorem v_un57 : (Try.prog.underlying 57).isSome = true := by kernel_rfl
@[go_sem] theorem v_bool57 : isBool Try.prog 57 = false := by kernel_rfl
@[go_sem] theorem v_str57 : isStr Try.prog 57 = false := by kernel_rfl
@[go_sem] theorem v_el57 : elemOf' Try.prog 57 = some 36 := by kernel_rfl
@[go_sem] theorem v_if57 : ifaceB Try.prog 57 = some false := by kernel_rfl
@[go_sem] theorem v_agg78 : aggOf Try.prog 78 = some false := by kernel_rfl
@[go_sem] theorem v_sz78 : tsz Try.prog 78 = some 1 := by kernel_rfl
@[go_sem] theorem v_zero78 : tzero Try.prog 78 = some [.nils] := by kernel_rfl
@[go_sem] theorem v_un78 : (Try.prog.underlying 78).isSome = true := by kernel_rfl
@[go_sem] theorem v_bool78 : isBool Try.prog 78 = false := by kernel_rfl
@[go_sem] theorem v_str78 : isStr Try.prog 78 = false := by kernel_rfl
@[go_sem] theorem v_el78 : elemOf' Try.prog 78 = some 5 := by kernel_rfl
@[go_sem] theorem v_if78 : ifaceB Try.prog 78 = some false := by kernel_rfl
@[go_sem] theorem v_agg86 : aggOf Try.prog 86 = some false := by kernel_rfl
@[go_sem] theorem v_sz86 : tsz Try.prog 86 = some 1 := by kernel_rfl
@[go_sem] theorem v_zero86 : tzero Try.prog 86 = some [.int .u32 0] := by kernel_rfl
@[go_sem] theorem v_ik86 : intKind Try.prog 86 = some .u32 := by kernel_rfl
@[go_sem] theorem v_un86 : (Try.prog.underlying 86).isSome = true := by kernel_rfl
@[go_sem] theorem v_bool86 : isBool Try.prog 86 = false := by kernel_rfl
@[go_sem] theorem v_str86 : isStr Try.prog 86 = false := by kernel_rfl
@[go_sem] theorem v_el86 : elemOf' Try.prog 86 = none := by kernel_rfl
@[go_sem] theorem v_if86 : ifaceB Try.prog 86 = some false := by kernel_rfl
@[go_sem] theorem v_agg96 : aggOf Try.prog 96 = some true := by kernel_rfl
@[go_sem] theorem v_sz96 : tsz Try.prog 96 = some 24 := by kernel_rfl
@[go_sem] theorem v_zero96 : tzero Try.prog 96 = some [.int .u8 0, .int .u8 0, .int .u8 0, .int .u8 0, .int .u8 0, .int .u8 0, .int .u8 0, .int .u8 0, .int .u8 0, .int .u8 0, .int .u8 0, .int .u8 0, .int .u8 0, .int .u8 0, .int .u8 0, .int .u8 0, .int .u8 0, .int .u8 0, .int .u8 0, .int .u8 0, .int .u8 0, .int .u8 0, .int .u8 0, .int .u8 0] := by kernel_rfl
@[go_sem] theorem v_un96 : (Try.prog.underlying 96).isSome = true := by kernel_rfl
@[go_sem] theorem v_bool96 : isBool Try.prog 96 = false := by kernel_rfl
@[go_sem] theorem v_str96 : isStr Try.prog 96 = false := by kernel_rfl
@[go_sem] theorem v_el96 : elemOf' Try.prog 96 = none := by kernel_rfl
@[go_sem] theorem v_if96 : ifaceB Try.prog 96 = some false := by kernel_rfl
@[go_sem] theorem v_agg102 : aggOf Try.prog 102 = some true := by kernel_rfl
@[go_sem] theorem v_sz102 : tsz Try.prog 102 = some 20 := by kernel_rfl
@[go_sem] theorem v_zero102 : tzero Try.prog 102 = some [.int .u64 0, .int .u64 0, .int .u64 0, .int .u64 0, .int .u64 0, .int .u64 0, .int .u64 0, .int .u64 0, .int .u64 0, .int .u64 0, .int .u64 0, .int .u64 0, .int .u64 0, .int .u64 0, .int .u64 0, .int .u64 0, .int .u64 0, .int .u64 0, .int .u64 0, .int .u64 0] := by kernel_rfl
@[go_sem] theorem v_un102 : (Try.prog.underlying 102).isSome = true := by kernel_rfl
@[go_sem] theorem v_bool102 : isBool Try.prog 102 = false := by kernel_rfl
@[go_sem] theorem v_str102 : isStr Try.prog 102 = false := by kernel_rfl
@[go_sem] theorem v_el102 : elemOf' Try.prog 102 = none := by kernel_rfl
@[go_sem] theorem v_if102 : ifaceB Try.prog 102 = some false := by kernel_rfl
@[go_sem] theorem v_agg103 : aggOf Try.prog 103 = some true := by kernel_rfl
@[go_sem] theorem v_sz103 : tsz Try.prog 103 = some 65 := by kernel_rfl
@[go_sem] theorem v_un103 : (Try.prog.underlying 103).isSome = true := by kernel_rfl
@[go_sem] theorem v_bool103 : isBool Try.prog 103 = false := by kernel_rfl
@[go_sem] theorem v_str103 : isStr Try.prog 103 = false := by kernel_rfl
@[go_sem] theorem v_el103 : elemOf' Try.prog 103 = none := by kernel_rfl
@[go_sem] theorem v_if103 : ifaceB Try.prog 103 = some false := by kernel_rfl
@[go_sem] theorem v_agg104 : aggOf Try.prog 104 = some false := by kernel_rfl
@[go_sem] theorem v_sz104 : tsz Try.prog 104 = some 1 := by kernel_rfl
@[go_sem] theorem v_zero104 : tzero Try.prog 104 = some [.int .u64 0] := by kernel_rfl
@[go_sem] theorem v_ik104 : intKind Try.prog 104 = some .u64 := by kernel_rfl
@[go_sem] theorem v_un104 : (Try.prog.underlying 104).isSome = true := by kernel_rfl
@[go_sem] theorem v_bool104 : isBool Try.prog 104 = false := by kernel_rfl
@[go_sem] theorem v_str104 : isStr Try.prog 104 = false := by kernel_rfl
@[go_sem] theorem v_el104 : elemOf' Try.prog 104 = none := by kernel_rfl
@[go_sem] theorem v_if104 : ifaceB Try.prog 104 = some false := by kernel_rfl
@[go_sem] theorem v_agg107 : aggOf Try.prog 107 = some true := by kernel_rfl
@[go_sem] theorem v_sz107 : tsz Try.prog 107 = some 32 := by kernel_rfl
@[go_sem] theorem v_zero107 : tzero Try.prog 107 = some [.int .u8 0, .int .u8 0, .int .u8 0, .int .u8 0, .int .u8 0, .int .u8 0, .int .u8 0, .int .u8 0, .int .u8 0, .int .u8 0, .int .u8 0, .int .u8 0, .int .u8 0, .int .u8 0, .int .u8 0, .int .u8 0, .int .u8 0, .int .u8 0, .int .u8 0, .int .u8 0, .int .u8 0, .int .u8 0, .int .u8 0, .int .u8 0, .int .u8 0, .int .u8 0, .int .u8 0, .int .u8 0, .int .u8 0, .int .u8 0, .int .u8 0, .int .u8 0] := by kernel_rfl
@[go_sem] theorem v_un107 : (Try.prog.underlying 107).isSome = true := by kernel_rfl
@[go_sem] theorem v_bool107 : isBool Try.prog 107 = false := by kernel_rfl
@[go_sem] theorem v_str107 : isStr Try.prog 107 = false := by kernel_rfl
@[go_sem] theorem v_el107 : elemOf' Try.prog 107 = none := by kernel_rfl
@[go_sem] theorem v_if107 : ifaceB Try.prog 107 = some false := by kernel_rfl
@[go_sem] theorem v_agg108 : aggOf Try.prog 108 = some true := by kernel_rfl
@[go_sem] theorem v_sz108 : tsz Try.prog 108 = some 64 := by kernel_rfl
@[go_sem] theorem v_zero108 : tzero Try.prog 108 = some [.int .u8 0, .int .u8 0, .int .u8 0, .int .u8 0, .int .u8 0, .int .u8 0, .int .u8 0, .int .u8 0, .int .u8 0, .int .u8 0, .int .u8 0, .int .u8 0, .int .u8 0, .int .u8 0, .int .u8 0, .int .u8 0, .int .u8 0, .int .u8 0, .int .u8 0, .int .u8 0, .int .u8 0, .int .u8 0, .int .u8 0, .int .u8 0, .int .u8 0, .int .u8 0, .int .u8 0, .int .u8 0, .int .u8 0, .int .u8 0, .int .u8 0, .int .u8 0, .int .u8 0, .int .u8 0, .int .u8 0, .int .u8 0, .int .u8 0, .int .u8 0, .int .u8 0, .int .u8 0, .int .u8 0, .int .u8 0, .int .u8 0, .int .u8 0, .int .u8 0, .int .u8 0, .int .u8 0, .int .u8 0, .int .u8 0, .int .u8 0, .int .u8 0, .int .u8 0, .int .u8 0, .int .u8 0, .int .u8 0, .int .u8 0, .int .u8 0, .int .u8 0, .int .u8 0, .int .u8 0, .int .u8 0, .int .u8 0, .int .u8 0, .int .u8 0] := by kernel_rfl
@[go_sem] theorem v_un108 : (Try.prog.underlying 108).isSome = true := by kernel_rfl
@[go_sem] theorem v_bool108 : isBool Try.prog 108 = false := by kernel_rfl
@[go_sem] theorem v_str108 : isStr Try.prog 108 = false := by kernel_rfl
@[go_sem] theorem v_el108 : elemOf' Try.prog 108 = none := by kernel_rfl
@[go_sem] theorem v_if108 : ifaceB Try.prog 108 = some false := by kernel_rfl
@[go_sem] theorem v_eq23 : eqOk Try.prog 23 = some [0, 0, 0, 0] := by kernel_rfl
@[go_sem] theorem v_eq36 : eqOk Try.prog 36 = some [1, 1, 1, 1] := by kernel_rfl
@[go_sem] theorem v_fn15 : fnOk Try.prog 15 = true := by kernel_rfl
@[go_sem] theorem v_fn16 : fnOk Try.prog 16 = true := by kernel_rfl
@[go_sem] theorem v_fn17 : fnOk Try.prog 17 = true := by kernel_rfl
@[go_sem] theorem v_fn18 : fnOk Try.prog 18 = true := by kernel_rfl
@[go_sem] theorem v_fn19 : fnOk Try.prog 19 = true := by kernel_rfl
@[go_sem] theorem v_fn20 : fnOk Try.prog 20 = true := by kernel_rfl
@[go_sem] theorem v_fn21 : fnOk Try.prog 21 = true := by kernel_rfl
@[go_sem] theorem v_fn22 : fnOk Try.prog 22 = true := by kernel_rfl
@[go_sem] theorem v_fn23 : fnOk Try.prog 23 = true := by kernel_rfl
@[go_sem] theorem v_fn24 : fnOk Try.prog 24 = true := by kernel_rfl
@[go_sem] theorem v_fn25 : fnOk Try.prog 25 = true := by kernel_rfl
@[go_sem] theorem v_fn26 : fnOk Try.prog 26 = true := by kernel_rfl
@[go_sem] theorem v_fn27 : fnOk Try.prog 27 = true := by kernel_rfl
@[go_sem] theorem v_fn28 : fnOk Try.prog 28 = true := by kernel_rfl
@[go_sem] theorem v_fn29 : fnOk Try.prog 29 = true := by kernel_rfl
@[go_sem] theorem v_fn30 : fnOk Try.prog 30 = true := by kernel_rfl
@[go_sem] theorem v_fn31 : fnOk Try.prog 31 = true := by kernel_rfl
@[go_sem] theorem v_fn32 : fnOk Try.prog 32 = true := by kernel_rfl
@[go_sem] theorem v_fn33 : fnOk Try.prog 33 = true := by kernel_rfl
@[go_sem] theorem v_fn34 : fnOk Try.prog 34 = true := by kernel_rfl
@[go_sem] theorem v_fn35 : fnOk Try.prog 35 = true := by kernel_rfl
@[go_sem] theorem v_fn36 : fnOk Try.prog 36 = true := by kernel_rfl
@[go_sem] theorem v_fn37 : fnOk Try.prog 37 = true := by kernel_rfl
@[go_sem] theorem v_fn38 : fnOk Try.prog 38 = true := by kernel_rfl
@[go_sem] theorem v_fn39 : fnOk Try.prog 39 = true := by kernel_rfl
@[go_sem] theorem v_fn40 : fnOk Try.prog 40 = true := by kernel_rfl
@[go_sem] theorem v_fn42 : fnOk Try.prog 42 = true := by kernel_rfl
@[go_sem] theorem v_fn59 : fnOk Try.prog 59 = true := by kernel_rfl
@[go_sem] theorem v_fn60 : fnOk Try.prog 60 = true := by kernel_rfl
@[go_sem] theorem v_fn62 : fnOk Try.prog 62 = true := by kernel_rfl
@[go_sem] theorem v_fn63 : fnOk Try.prog 63 = true := by kernel_rfl
@[go_sem] theorem v_fn64 : fnOk Try.prog 64 = true := by kernel_rfl
@[go_sem] theorem v_fn65 : fnOk Try.prog 65 = true := by kernel_rfl
@[go_sem] theorem v_fn66 : fnOk Try.prog 66 = true := by kernel_rfl
@[go_sem] theorem v_fn67 : fnOk Try.prog 67 = true := by kernel_rfl
@[go_sem] theorem v_fn68 : fnOk Try.prog 68 = true := by kernel_rfl
@[go_sem] theorem v_fn69 : fnOk Try.prog 69 = true := by kernel_rfl
@[go_sem] theorem v_fn70 : fnOk Try.prog 70 = true := by kernel_rfl
@[go_sem] theorem v_fn71 : fnOk Try.prog 71 = true := by kernel_rfl
@[go_sem] theorem v_fn72 : fnOk Try.prog 72 = true := by kernel_rfl
@[go_sem] theorem v_fn73 : fnOk Try.prog 73 = true := by kernel_rfl
@[go_sem] theorem v_fn74 : fnOk Try.prog 74 = true := by kernel_rfl
@[go_sem] theorem v_fn75 : fnOk Try.prog 75 = true := by kernel_rfl
@[go_sem] theorem v_fldT49_0 : fldT Try.prog 49 0 = some (0, 3) := by kernel_rfl
@[go_sem] theorem v_zv49 : zV Try.prog 49 = some (.agg [.int .i64 0]) := by kernel_rfl
@[go_sem] theorem v_zv51 : zV Try.prog 51 = some (.agg [.int .i64 0]) := by kernel_rfl
@[go_sem] theorem v_zv53 : zV Try.prog 53 = some (.agg [.int .i64 0, .int .i64 0]) := by kernel_rfl
@[go_sem] theorem v_zv55 : zV Try.prog 55 = some (.agg [.int .i64 0, .int .i64 0]) := by kernel_rfl
@[go_sem] theorem v_meth49_58 : methF Try.prog 49 "Text" = some 58 := by kernel_rfl
@[go_sem] theorem v_fn58 : fnOk Try.prog 58 = true := by kernel_rfl
@[go_sem] theorem v_meth51_61 : methF Try.prog 51 "Text" = some 61 := by kernel_rfl
@[go_sem] theorem v_fn61 : fnOk Try.prog 61 = true := by kernel_rfl
@[go_sem] theorem v_meth53_76 : methF Try.prog 53 "Text" = some 76 := by kernel_rfl
@[go_sem] theorem v_fn76 : fnOk Try.prog 76 = true := by kernel_rfl
@[go_sem] theorem v_meth55_77 : methF Try.prog 55 "Text" = some 77 := by kernel_rfl
@[go_sem] theorem v_fn77 : fnOk Try.prog 77 = true := by kernel_rfl
@[go_sem] theorem v_res2 : Try.f2.results.toList = [] := rfl
@[go_sem] theorem v_res3 : Try.f3.results.toList = [.tmp 6] := rfl
@[go_sem] theorem v_res4 : Try.f4.results.toList = [.tmp 4] := rfl
@[go_sem] theorem v_res5 : Try.f5.results.toList = [.tmp 4] := rfl
@[go_sem] theorem v_res6 : Try.f6.results.toList = [.tmp 4] := rfl
@[go_sem] theorem v_res7 : Try.f7.results.toList = [.tmp 4] := rfl
@[go_sem] theorem v_res8 : Try.f8.results.toList = [.tmp 4] := rfl
@[go_sem] theorem v_res9 : Try.f9.results.toList = [.tmp 4] := rfl
@[go_sem] theorem v_res10 : Try.f10.results.toList = [.tmp 4] := rfl
@[go_sem] theorem v_res11 : Try.f11.results.toList = [.tmp 8] := rfl
@[go_sem] theorem v_res12 : Try.f12.results.toList = [.tmp 6] := rfl
@[go_sem] theorem v_res13 : Try.f13.results.toList = [.tmp 4] := rfl
@[go_sem] theorem v_res14 : Try.f14.results.toList = [.tmp 2] := rfl
@[go_sem] theorem v_res15 : Try.f15.results.toList = [.tmp 6, .cell 7 23, .tmp 8] := rfl
@[go_sem] theorem v_res16 : Try.f16.results.toList = [.tmp 6, .cell 7 23, .tmp 8] := rfl
@[go_sem] theorem v_res17 : Try.f17.results.toList = [.tmp 0] := rfl
@[go_sem] theorem v_res18 : Try.f18.results.toList = [.tmp 4] := rfl
@[go_sem] theorem v_res19 : Try.f19.results.toList = [.tmp 4] := rfl
@[go_sem] theorem v_res20 : Try.f20.results.toList = [.tmp 2] := rfl
@[go_sem] theorem v_res21 : Try.f21.results.toList = [.tmp 2] := rfl
@[go_sem] theorem v_res22 : Try.f22.results.toList = [.tmp 4] := rfl
@[go_sem] theorem v_res23 : Try.f23.results.toList = [.tmp 2] := rfl
@[go_sem] theorem v_res24 : Try.f24.results.toList = [.tmp 2, .tmp 3] := rfl
@[go_sem] theorem v_res25 : Try.f25.results.toList = [.tmp 2] := rfl
@[go_sem] theorem v_res26 : Try.f26.results.toList = [.tmp 2] := rfl
@[go_sem] theorem v_res27 : Try.f27.results.toList = [.tmp 4] := rfl
@[go_sem] theorem v_res28 : Try.f28.results.toList = [.tmp 4] := rfl
@[go_sem] theorem v_res29 : Try.f29.results.toList = [.tmp 0] := rfl
@[go_sem] theorem v_res30 : Try.f30.results.toList = [.cell 2 36] := rfl
@[go_sem] theorem v_res31 : Try.f31.results.toList = [.cell 2 4] := rfl
@[go_sem] theorem v_res32 : Try.f32.results.toList = [.tmp 2] := rfl
@[go_sem] theorem v_res33 : Try.f33.results.toList = [.tmp 2, .tmp 3] := rfl
@[go_sem] theorem v_res34 : Try.f34.results.toList = [.tmp 2, .tmp 3] := rfl
@[go_sem] theorem v_res35 : Try.f35.results.toList = [.tmp 2] := rfl
@[go_sem] theorem v_res36 : Try.f36.results.toList = [.cell 6 23] := rfl
@[go_sem] theorem v_res37 : Try.f37.results.toList = [.tmp 4] := rfl
@[go_sem] theorem v_res38 : Try.f38.results.toList = [.tmp 2] := rfl
@[go_sem] theorem v_res39 : Try.f39.results.toList = [.tmp 2] := rfl
@[go_sem] theorem v_res40 : Try.f40.results.toList = [.tmp 2] := rfl
@[go_sem] theorem v_res41 : Try.f41.results.toList = [] := rfl
@[go_sem] theorem v_res42 : Try.f42.results.toList = [.tmp 0] := rfl
@[go_sem] theorem v_res58 : Try.f58.results.toList = [.tmp 4] := rfl
@[go_sem] theorem v_res59 : Try.f59.results.toList = [.tmp 2] := rfl
@[go_sem] theorem v_res60 : Try.f60.results.toList = [.tmp 0] := rfl
@[go_sem] theorem v_res61 : Try.f61.results.toList = [.tmp 4] := rfl
@[go_sem] theorem v_res62 : Try.f62.results.toList = [.tmp 2] := rfl
@[go_sem] theorem v_res63 : Try.f63.results.toList = [.tmp 4] := rfl
@[go_sem] theorem v_res64 : Try.f64.results.toList = [.tmp 4] := rfl
@[go_sem] theorem v_res65 : Try.f65.results.toList = [.tmp 2] := rfl
@[go_sem] theorem v_res66 : Try.f66.results.toList = [.tmp 2] := rfl
@[go_sem] theorem v_res67 : Try.f67.results.toList = [] := rfl
@[go_sem] theorem v_res68 : Try.f68.results.toList = [.tmp 10, .tmp 11] := rfl
@[go_sem] theorem v_res69 : Try.f69.results.toList = [.tmp 2] := rfl
@[go_sem] theorem v_res70 : Try.f70.results.toList = [.tmp 2] := rfl
@[go_sem] theorem v_res71 : Try.f71.results.toList = [.tmp 2] := rfl
@[go_sem] theorem v_res72 : Try.f72.results.toList = [.tmp 2] := rfl
@[go_sem] theorem v_res73 : Try.f73.results.toList = [.tmp 2] := rfl
@[go_sem] theorem v_res74 : Try.f74.results.toList = [.tmp 2] := rfl
@[go_sem] theorem v_res75 : Try.f75.results.toList = [.tmp 2] := rfl
@[go_sem] theorem v_res76 : Try.f76.results.toList = [.tmp 4] := rfl
@[go_sem] theorem v_res77 : Try.f77.results.toList = [.tmp 4] := rfl
@[go_sem] theorem v_res79 : Try.f79.results.toList = [] := rfl
theorem v_mixed : Try.prog.follows .mixedOrders = true := by kernel_rfl
end Go.Proofs.Ytpdjmghnimimgaa
