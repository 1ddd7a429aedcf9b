import Derived.Test.YtpojlconoflneaaProg
import Derived.Test.YtpojlconoflneaaVu3
import Derived.KernelRfl
set_option linter.unusedVariables false
set_option maxRecDepth 100000
set_option linter.unusedSectionVars false
namespace Go.Proofs.Ytpojlconoflneaa
open Go.Vs
@[go_sem] theorem v_agg2 : aggOf Try.prog 2 = some false := by kernel_rfl
@[go_sem] theorem v_sz2 : tsz Try.prog 2 = some 1 := by kernel_rfl
@[go_sem] theorem v_by2 : bytesOf Try.prog 2 = some 8 := by kernel_rfl
@[go_sem] theorem v_zero2 : tzero Try.prog 2 = some [.int .i64 0] := by kernel_rfl
@[go_sem] theorem v_ik2 : intKind Try.prog 2 = some .i64 := by kernel_rfl
@[go_sem] theorem v_un2 : (Try.prog.underlying 2).isSome = true := by kernel_rfl
@[go_sem] theorem v_bool2 : isBool Try.prog 2 = false := by kernel_rfl
@[go_sem] theorem v_str2 : isStr Try.prog 2 = false := by kernel_rfl
@[go_sem] theorem v_el2 : elemOf' Try.prog 2 = none := by kernel_rfl
@[go_sem] theorem v_isb2 : isBytes Try.prog 2 = false := by kernel_rfl
@[go_sem] theorem v_if2 : ifaceB Try.prog 2 = some false := by kernel_rfl
@[go_sem] theorem v_agg3 : aggOf Try.prog 3 = some false := by kernel_rfl
@[go_sem] theorem v_sz3 : tsz Try.prog 3 = some 1 := by kernel_rfl
@[go_sem] theorem v_by3 : bytesOf Try.prog 3 = some 8 := by kernel_rfl
@[go_sem] theorem v_zero3 : tzero Try.prog 3 = some [.int .i64 0] := by kernel_rfl
@[go_sem] theorem v_ik3 : intKind Try.prog 3 = some .i64 := by kernel_rfl
@[go_sem] theorem v_un3 : (Try.prog.underlying 3).isSome = true := by kernel_rfl
@[go_sem] theorem v_bool3 : isBool Try.prog 3 = false := by kernel_rfl
@[go_sem] theorem v_str3 : isStr Try.prog 3 = false := by kernel_rfl
@[go_sem] theorem v_el3 : elemOf' Try.prog 3 = none := by kernel_rfl
@[go_sem] theorem v_isb3 : isBytes Try.prog 3 = false := by kernel_rfl
@[go_sem] theorem v_if3 : ifaceB Try.prog 3 = some false := by kernel_rfl
@[go_sem] theorem v_agg4 : aggOf Try.prog 4 = some false := by kernel_rfl
@[go_sem] theorem v_sz4 : tsz Try.prog 4 = some 1 := by kernel_rfl
@[go_sem] theorem v_by4 : bytesOf Try.prog 4 = some 1 := by kernel_rfl
@[go_sem] theorem v_zero4 : tzero Try.prog 4 = some [.bool false] := by kernel_rfl
@[go_sem] theorem v_un4 : (Try.prog.underlying 4).isSome = true := by kernel_rfl
@[go_sem] theorem v_bool4 : isBool Try.prog 4 = true := by kernel_rfl
@[go_sem] theorem v_str4 : isStr Try.prog 4 = false := by kernel_rfl
@[go_sem] theorem v_el4 : elemOf' Try.prog 4 = none := by kernel_rfl
@[go_sem] theorem v_isb4 : isBytes Try.prog 4 = false := by kernel_rfl
@[go_sem] theorem v_if4 : ifaceB Try.prog 4 = some false := by kernel_rfl
@[go_sem] theorem v_agg5 : aggOf Try.prog 5 = some false := by kernel_rfl
@[go_sem] theorem v_sz5 : tsz Try.prog 5 = some 1 := by kernel_rfl
@[go_sem] theorem v_by5 : bytesOf Try.prog 5 = some 1 := by kernel_rfl
@[go_sem] theorem v_zero5 : tzero Try.prog 5 = some [.int .u8 0] := by kernel_rfl
@[go_sem] theorem v_ik5 : intKind Try.prog 5 = some .u8 := by kernel_rfl
@[go_sem] theorem v_un5 : (Try.prog.underlying 5).isSome = true := by kernel_rfl
@[go_sem] theorem v_bool5 : isBool Try.prog 5 = false := by kernel_rfl
@[go_sem] theorem v_str5 : isStr Try.prog 5 = false := by kernel_rfl
@[go_sem] theorem v_el5 : elemOf' Try.prog 5 = none := by kernel_rfl
@[go_sem] theorem v_isb5 : isBytes Try.prog 5 = false := by kernel_rfl
@[go_sem] theorem v_if5 : ifaceB Try.prog 5 = some false := by kernel_rfl
@[go_sem] theorem v_agg9 : aggOf Try.prog 9 = some false := by kernel_rfl
@[go_sem] theorem v_sz9 : tsz Try.prog 9 = some 1 := by kernel_rfl
@[go_sem] theorem v_by9 : bytesOf Try.prog 9 = some 16 := by kernel_rfl
@[go_sem] theorem v_zero9 : tzero Try.prog 9 = some [.str ⟨#[]⟩] := by kernel_rfl
@[go_sem] theorem v_un9 : (Try.prog.underlying 9).isSome = true := by kernel_rfl
@[go_sem] theorem v_bool9 : isBool Try.prog 9 = false := by kernel_rfl
@[go_sem] theorem v_str9 : isStr Try.prog 9 = true := by kernel_rfl
@[go_sem] theorem v_el9 : elemOf' Try.prog 9 = none := by kernel_rfl
@[go_sem] theorem v_isb9 : isBytes Try.prog 9 = false := by kernel_rfl
@[go_sem] theorem v_if9 : ifaceB Try.prog 9 = some false := by kernel_rfl
@[go_sem] theorem v_agg20 : aggOf Try.prog 20 = some false := by kernel_rfl
@[go_sem] theorem v_sz20 : tsz Try.prog 20 = some 1 := by kernel_rfl
@[go_sem] theorem v_by20 : bytesOf Try.prog 20 = some 16 := by kernel_rfl
@[go_sem] theorem v_zero20 : tzero Try.prog 20 = some [.nili] := by kernel_rfl
@[go_sem] theorem v_un20 : (Try.prog.underlying 20).isSome = true := by kernel_rfl
@[go_sem] theorem v_bool20 : isBool Try.prog 20 = false := by kernel_rfl
@[go_sem] theorem v_str20 : isStr Try.prog 20 = false := by kernel_rfl
@[go_sem] theorem v_el20 : elemOf' Try.prog 20 = none := by kernel_rfl
@[go_sem] theorem v_isb20 : isBytes Try.prog 20 = false := by kernel_rfl
@[go_sem] theorem v_if20 : ifaceB Try.prog 20 = some true := by kernel_rfl
@[go_sem] theorem v_agg25 : aggOf Try.prog 25 = some true := by kernel_rfl
@[go_sem] theorem v_sz25 : tsz Try.prog 25 = some 1 := by kernel_rfl
@[go_sem] theorem v_by25 : bytesOf Try.prog 25 = some 8 := by kernel_rfl
@[go_sem] theorem v_zero25 : tzero Try.prog 25 = some [.int .i64 0] := by kernel_rfl
@[go_sem] theorem v_plc25 : plc Try.prog 25 = some [(0, 1)] := by kernel_rfl
@[go_sem] theorem v_un25 : (Try.prog.underlying 25).isSome = true := by kernel_rfl
@[go_sem] theorem v_bool25 : isBool Try.prog 25 = false := by kernel_rfl
@[go_sem] theorem v_str25 : isStr Try.prog 25 = false := by kernel_rfl
@[go_sem] theorem v_el25 : elemOf' Try.prog 25 = none := by kernel_rfl
@[go_sem] theorem v_isb25 : isBytes Try.prog 25 = false := by kernel_rfl
@[go_sem] theorem v_if25 : ifaceB Try.prog 25 = some false := by kernel_rfl
@[go_sem] theorem v_agg27 : aggOf Try.prog 27 = some true := by kernel_rfl
@[go_sem] theorem v_sz27 : tsz Try.prog 27 = some 2 := by kernel_rfl
@[go_sem] theorem v_by27 : bytesOf Try.prog 27 = some 16 := by kernel_rfl
@[go_sem] theorem v_zero27 : tzero Try.prog 27 = some [.int .i64 0, .int .i64 0] := by kernel_rfl
@[go_sem] theorem v_plc27 : plc Try.prog 27 = some [(0, 1), (1, 1)] := by kernel_rfl
@[go_sem] theorem v_un27 : (Try.prog.underlying 27).isSome = true := by kernel_rfl
@[go_sem] theorem v_bool27 : isBool Try.prog 27 = false := by kernel_rfl
@[go_sem] theorem v_str27 : isStr Try.prog 27 = false := by kernel_rfl
@[go_sem] theorem v_el27 : elemOf' Try.prog 27 = none := by kernel_rfl
@[go_sem] theorem v_isb27 : isBytes Try.prog 27 = false := by kernel_rfl
@[go_sem] theorem v_if27 : ifaceB Try.prog 27 = some false := by kernel_rfl
@[go_sem] theorem v_agg29 : aggOf Try.prog 29 = some true := by kernel_rfl
@[go_sem] theorem v_sz29 : tsz Try.prog 29 = some 2 := by kernel_rfl
@[go_sem] theorem v_by29 : bytesOf Try.prog 29 = some 16 := by kernel_rfl
@[go_sem] theorem v_zero29 : tzero Try.prog 29 = some [.int .i64 0, .int .i64 0] := by kernel_rfl
@[go_sem] theorem v_plc29 : plc Try.prog 29 = some [(0, 1), (1, 1)] := by kernel_rfl
@[go_sem] theorem v_un29 : (Try.prog.underlying 29).isSome = true := by kernel_rfl
@[go_sem] theorem v_bool29 : isBool Try.prog 29 = false := by kernel_rfl
@[go_sem] theorem v_str29 : isStr Try.prog 29 = false := by kernel_rfl
@[go_sem] theorem v_el29 : elemOf' Try.prog 29 = none := by kernel_rfl
@[go_sem] theorem v_isb29 : isBytes Try.prog 29 = false := by kernel_rfl
@[go_sem] theorem v_if29 : ifaceB Try.prog 29 = some false := by kernel_rfl
@[go_sem] theorem v_agg32 : aggOf Try.prog 32 = some true := by kernel_rfl
@[go_sem] theorem v_sz32 : tsz Try.prog 32 = some 1 := by kernel_rfl
@[go_sem] theorem v_by32 : bytesOf Try.prog 32 = some 8 := by kernel_rfl
@[go_sem] theorem v_zero32 : tzero Try.prog 32 = some [.int .i64 0] := by kernel_rfl
@[go_sem] theorem v_plc32 : plc Try.prog 32 = some [(0, 1)] := by kernel_rfl
@[go_sem] theorem v_un32 : (Try.prog.underlying 32).isSome = true := by kernel_rfl
@[go_sem] theorem v_bool32 : isBool Try.prog 32 = false := by kernel_rfl
@[go_sem] theorem v_str32 : isStr Try.prog 32 = false := by kernel_rfl
@[go_sem] theorem v_el32 : elemOf' Try.prog 32 = none := by kernel_rfl
@[go_sem] theorem v_isb32 : isBytes Try.prog 32 = false := by kernel_rfl
@[go_sem] theorem v_if32 : ifaceB Try.prog 32 = some false := by kernel_rfl
@[go_sem] theorem v_agg36 : aggOf Try.prog 36 = some false := by kernel_rfl
@[go_sem] theorem v_sz36 : tsz Try.prog 36 = some 1 := by kernel_rfl
@[go_sem] theorem v_by36 : bytesOf Try.prog 36 = some 16 := by kernel_rfl
@[go_sem] theorem v_zero36 : tzero Try.prog 36 = some [.nili] := by kernel_rfl
@[go_sem] theorem v_un36 : (Try.prog.underlying 36).isSome = true := by kernel_rfl
@[go_sem] theorem v_bool36 : isBool Try.prog 36 = false := by kernel_rfl
@[go_sem] theorem v_str36 : isStr Try.prog 36 = false := by kernel_rfl
@[go_sem] theorem v_el36 : elemOf' Try.prog 36 = none := by kernel_rfl
@[go_sem] theorem v_isb36 : isBytes Try.prog 36 = false := by kernel_rfl
@[go_sem] theorem v_if36 : ifaceB Try.prog 36 = some true := by kernel_rfl
@[go_sem] theorem v_agg41 : aggOf Try.prog 41 = some true := by kernel_rfl
@[go_sem] theorem v_sz41 : tsz Try.prog 41 = some 4 := by kernel_rfl
@[go_sem] theorem v_by41 : bytesOf Try.prog 41 = some 32 := by kernel_rfl
@[go_sem] theorem v_zero41 : tzero Try.prog 41 = some [.int .i64 0, .int .i64 0, .int .i64 0, .int .i64 0] := by kernel_rfl
@[go_sem] theorem v_plc41 : plc Try.prog 41 = some [(0, 1), (1, 1), (2, 1), (3, 1)] := by kernel_rfl
@[go_sem] theorem v_un41 : (Try.prog.underlying 41).isSome = true := by kernel_rfl
@[go_sem] theorem v_bool41 : isBool Try.prog 41 = false := by kernel_rfl
@[go_sem] theorem v_str41 : isStr Try.prog 41 = false := by kernel_rfl
@[go_sem] theorem v_el41 : elemOf' Try.prog 41 = none := by kernel_rfl
@[go_sem] theorem v_isb41 : isBytes Try.prog 41 = false := by kernel_rfl
@[go_sem] theorem v_if41 : ifaceB Try.prog 41 = some false := by kernel_rfl
@[go_sem] theorem v_agg45 : aggOf Try.prog 45 = some false := by kernel_rfl
@[go_sem] theorem v_sz45 : tsz Try.prog 45 = some 1 := by kernel_rfl
@[go_sem] theorem v_by45 : bytesOf Try.prog 45 = some 24 := by kernel_rfl
@[go_sem] theorem v_zero45 : tzero Try.prog 45 = some [.nils] := by kernel_rfl
@[go_sem] theorem v_un45 : (Try.prog.underlying 45).isSome = true := by kernel_rfl
@[go_sem] theorem v_bool45 : isBool Try.prog 45 = false := by kernel_rfl
@[go_sem] theorem v_str45 : isStr Try.prog 45 = false := by kernel_rfl
@[go_sem] theorem v_el45 : elemOf' Try.prog 45 = some 9 := by kernel_rfl
@[go_sem] theorem v_ix45 : ixOf Try.prog 45 = some (none, 9) := by kernel_rfl
@[go_sem] theorem v_isb45 : isBytes Try.prog 45 = false := by kernel_rfl
@[go_sem] theorem v_if45 : ifaceB Try.prog 45 = some false := by kernel_rfl
@[go_sem] theorem v_agg57 : aggOf Try.prog 57 = some false := by kernel_rfl
@[go_sem] theorem v_sz57 : tsz Try.prog 57 = some 1 := by kernel_rfl
@[go_sem] theorem v_by57 : bytesOf Try.prog 57 = some 4 := by kernel_rfl
@[go_sem] theorem v_zero57 : tzero Try.prog 57 = some [.int .u32 0] := by kernel_rfl
@[go_sem] theorem v_ik57 : intKind Try.prog 57 = some .u32 := by kernel_rfl
@[go_sem] theorem v_un57 : (Try.prog.underlying 57).isSome = true := by kernel_rfl
@[go_sem] theorem v_bool57 : isBool Try.prog 57 = false := by kernel_rfl
@[go_sem] theorem v_str57 : isStr Try.prog 57 = false := by kernel_rfl
@[go_sem] theorem v_el57 : elemOf' Try.prog 57 = none := by kernel_rfl
@[go_sem] theorem v_isb57 : isBytes Try.prog 57 = false := by kernel_rfl
@[go_sem] theorem v_if57 : ifaceB Try.prog 57 = some false := by kernel_rfl
@[go_sem] theorem v_agg69 : aggOf Try.prog 69 = some true := by kernel_rfl
@[go_sem] theorem v_sz69 : tsz Try.prog 69 = some 24 := by kernel_rfl
@[go_sem] theorem v_by69 : bytesOf Try.prog 69 = some 24 := by kernel_rfl
@[go_sem] theorem v_zero69 : tzero Try.prog 69 = some [.int .u8 0, .int .u8 0, .int .u8 0, .int .u8 0, .int .u8 0, .int .u8 0, .int .u8 0, .int .u8 0, .int .u8 0, .int .u8 0, .int .u8 0, .int .u8 0, .int .u8 0, .int .u8 0, .int .u8 0, .int .u8 0, .int .u8 0, .int .u8 0, .int .u8 0, .int .u8 0, .int .u8 0, .int .u8 0, .int .u8 0, .int .u8 0] := by kernel_rfl
@[go_sem] theorem v_un69 : (Try.prog.underlying 69).isSome = true := by kernel_rfl
@[go_sem] theorem v_bool69 : isBool Try.prog 69 = false := by kernel_rfl
@[go_sem] theorem v_str69 : isStr Try.prog 69 = false := by kernel_rfl
@[go_sem] theorem v_el69 : elemOf' Try.prog 69 = none := by kernel_rfl
@[go_sem] theorem v_ix69 : ixOf Try.prog 69 = some (some 24, 5) := by kernel_rfl
@[go_sem] theorem v_ar69 : arrOf Try.prog 69 = some (24, 5) := by kernel_rfl
@[go_sem] theorem v_isb69 : isBytes Try.prog 69 = false := by kernel_rfl
@[go_sem] theorem v_if69 : ifaceB Try.prog 69 = some false := by kernel_rfl
@[go_sem] theorem v_agg70 : aggOf Try.prog 70 = some false := by kernel_rfl
@[go_sem] theorem v_sz70 : tsz Try.prog 70 = some 1 := by kernel_rfl
@[go_sem] theorem v_by70 : bytesOf Try.prog 70 = some 8 := by kernel_rfl
@[go_sem] theorem v_zero70 : tzero Try.prog 70 = some [.int .u64 0] := by kernel_rfl
@[go_sem] theorem v_ik70 : intKind Try.prog 70 = some .u64 := by kernel_rfl
@[go_sem] theorem v_un70 : (Try.prog.underlying 70).isSome = true := by kernel_rfl
@[go_sem] theorem v_bool70 : isBool Try.prog 70 = false := by kernel_rfl
@[go_sem] theorem v_str70 : isStr Try.prog 70 = false := by kernel_rfl
@[go_sem] theorem v_el70 : elemOf' Try.prog 70 = none := by kernel_rfl
@[go_sem] theorem v_isb70 : isBytes Try.prog 70 = false := by kernel_rfl
@[go_sem] theorem v_if70 : ifaceB Try.prog 70 = some false := by kernel_rfl
@[go_sem] theorem v_agg73 : aggOf Try.prog 73 = some false := by kernel_rfl
@[go_sem] theorem v_sz73 : tsz Try.prog 73 = some 1 := by kernel_rfl
@[go_sem] theorem v_by73 : bytesOf Try.prog 73 = some 24 := by kernel_rfl
@[go_sem] theorem v_zero73 : tzero Try.prog 73 = some [.nils] := by kernel_rfl
@[go_sem] theorem v_un73 : (Try.prog.underlying 73).isSome = true := by kernel_rfl
@[go_sem] theorem v_bool73 : isBool Try.prog 73 = false := by kernel_rfl
@[go_sem] theorem v_str73 : isStr Try.prog 73 = false := by kernel_rfl
@[go_sem] theorem v_el73 : elemOf' Try.prog 73 = some 5 := by kernel_rfl
@[go_sem] theorem v_ix73 : ixOf Try.prog 73 = some (none, 5) := by kernel_rfl
@[go_sem] theorem v_isb73 : isBytes Try.prog 73 = true := by kernel_rfl
@[go_sem] theorem v_if73 : ifaceB Try.prog 73 = some false := by kernel_rfl
@[go_sem] theorem v_agg78 : aggOf Try.prog 78 = some true := by kernel_rfl
@[go_sem] theorem v_sz78 : tsz Try.prog 78 = some 20 := by kernel_rfl
@[go_sem] theorem v_by78 : bytesOf Try.prog 78 = some 160 := by kernel_rfl
@[go_sem] theorem v_zero78 : tzero Try.prog 78 = some [.int .u64 0, .int .u64 0, .int .u64 0, .int .u64 0, .int .u64 0, .int .u64 0, .int .u64 0, .int .u64 0, .int .u64 0, .int .u64 0, .int .u64 0, .int .u64 0, .int .u64 0, .int .u64 0, .int .u64 0, .int .u64 0, .int .u64 0, .int .u64 0, .int .u64 0, .int .u64 0] := by kernel_rfl
@[go_sem] theorem v_un78 : (Try.prog.underlying 78).isSome = true := by kernel_rfl
@[go_sem] theorem v_bool78 : isBool Try.prog 78 = false := by kernel_rfl
@[go_sem] theorem v_str78 : isStr Try.prog 78 = false := by kernel_rfl
@[go_sem] theorem v_el78 : elemOf' Try.prog 78 = none := by kernel_rfl
@[go_sem] theorem v_ix78 : ixOf Try.prog 78 = some (some 20, 70) := by kernel_rfl
@[go_sem] theorem v_ar78 : arrOf Try.prog 78 = some (20, 70) := by kernel_rfl
@[go_sem] theorem v_isb78 : isBytes Try.prog 78 = false := by kernel_rfl
@[go_sem] theorem v_if78 : ifaceB Try.prog 78 = some false := by kernel_rfl
@[go_sem] theorem v_agg79 : aggOf Try.prog 79 = some true := by kernel_rfl
@[go_sem] theorem v_sz79 : tsz Try.prog 79 = some 65 := by kernel_rfl
@[go_sem] theorem v_by79 : bytesOf Try.prog 79 = some 65 := by kernel_rfl
@[go_sem] theorem v_un79 : (Try.prog.underlying 79).isSome = true := by kernel_rfl
@[go_sem] theorem v_bool79 : isBool Try.prog 79 = false := by kernel_rfl
@[go_sem] theorem v_str79 : isStr Try.prog 79 = false := by kernel_rfl
@[go_sem] theorem v_el79 : elemOf' Try.prog 79 = none := by kernel_rfl
@[go_sem] theorem v_ix79 : ixOf Try.prog 79 = some (some 65, 5) := by kernel_rfl
@[go_sem] theorem v_ar79 : arrOf Try.prog 79 = some (65, 5) := by kernel_rfl
@[go_sem] theorem v_isb79 : isBytes Try.prog 79 = false := by kernel_rfl
@[go_sem] theorem v_if79 : ifaceB Try.prog 79 = some false := by kernel_rfl
@[go_sem] theorem v_agg80 : aggOf Try.prog 80 = some false := by kernel_rfl
@[go_sem] theorem v_sz80 : tsz Try.prog 80 = some 1 := by kernel_rfl
@[go_sem] theorem v_by80 : bytesOf Try.prog 80 = some 8 := by kernel_rfl
@[go_sem] theorem v_zero80 : tzero Try.prog 80 = some [.int .u64 0] := by kernel_rfl
@[go_sem] theorem v_ik80 : intKind Try.prog 80 = some .u64 := by kernel_rfl
@[go_sem] theorem v_un80 : (Try.prog.underlying 80).isSome = true := by kernel_rfl
@[go_sem] theorem v_bool80 : isBool Try.prog 80 = false := by kernel_rfl
@[go_sem] theorem v_str80 : isStr Try.prog 80 = false := by kernel_rfl
@[go_sem] theorem v_el80 : elemOf' Try.prog 80 = none := by kernel_rfl
@[go_sem] theorem v_isb80 : isBytes Try.prog 80 = false := by kernel_rfl
@[go_sem] theorem v_if80 : ifaceB Try.prog 80 = some false := by kernel_rfl
@[go_sem] theorem v_agg83 : aggOf Try.prog 83 = some true := by kernel_rfl
@[go_sem] theorem v_sz83 : tsz Try.prog 83 = some 32 := by kernel_rfl
@[go_sem] theorem v_by83 : bytesOf Try.prog 83 = some 32 := by kernel_rfl
@[go_sem] theorem v_zero83 : tzero Try.prog 83 = some [.int .u8 0, .int .u8 0, .int .u8 0, .int .u8 0, .int .u8 0, .int .u8 0, .int .u8 0, .int .u8 0, .int .u8 0, .int .u8 0, .int .u8 0, .int .u8 0, .int .u8 0, .int .u8 0, .int .u8 0, .int .u8 0, .int .u8 0, .int .u8 0, .int .u8 0, .int .u8 0, .int .u8 0, .int .u8 0, .int .u8 0, .int .u8 0, .int .u8 0, .int .u8 0, .int .u8 0, .int .u8 0, .int .u8 0, .int .u8 0, .int .u8 0, .int .u8 0] := by kernel_rfl
@[go_sem] theorem v_un83 : (Try.prog.underlying 83).isSome = true := by kernel_rfl
@[go_sem] theorem v_bool83 : isBool Try.prog 83 = false := by kernel_rfl
@[go_sem] theorem v_str83 : isStr Try.prog 83 = false := by kernel_rfl
@[go_sem] theorem v_el83 : elemOf' Try.prog 83 = none := by kernel_rfl
@[go_sem] theorem v_ix83 : ixOf Try.prog 83 = some (some 32, 5) := by kernel_rfl
@[go_sem] theorem v_ar83 : arrOf Try.prog 83 = some (32, 5) := by kernel_rfl
@[go_sem] theorem v_isb83 : isBytes Try.prog 83 = false := by kernel_rfl
@[go_sem] theorem v_if83 : ifaceB Try.prog 83 = some false := by kernel_rfl
@[go_sem] theorem v_agg84 : aggOf Try.prog 84 = some true := by kernel_rfl
@[go_sem] theorem v_sz84 : tsz Try.prog 84 = some 64 := by kernel_rfl
@[go_sem] theorem v_by84 : bytesOf Try.prog 84 = some 64 := by kernel_rfl
@[go_sem] theorem v_zero84 : tzero Try.prog 84 = some [.int .u8 0, .int .u8 0, .int .u8 0, .int .u8 0, .int .u8 0, .int .u8 0, .int .u8 0, .int .u8 0, .int .u8 0, .int .u8 0, .int .u8 0, .int .u8 0, .int .u8 0, .int .u8 0, .int .u8 0, .int .u8 0, .int .u8 0, .int .u8 0, .int .u8 0, .int .u8 0, .int .u8 0, .int .u8 0, .int .u8 0, .int .u8 0, .int .u8 0, .int .u8 0, .int .u8 0, .int .u8 0, .int .u8 0, .int .u8 0, .int .u8 0, .int .u8 0, .int .u8 0, .int .u8 0, .int .u8 0, .int .u8 0, .int .u8 0, .int .u8 0, .int .u8 0, .int .u8 0, .int .u8 0, .int .u8 0, .int .u8 0, .int .u8 0, .int .u8 0, .int .u8 0, .int .u8 0, .int .u8 0, .int .u8 0, .int .u8 0, .int .u8 0, .int .u8 0, .int .u8 0, .int .u8 0, .int .u8 0, .int .u8 0, .int .u8 0, .int .u8 0, .int .u8 0, .int .u8 0, .int .u8 0, .int .u8 0, .int .u8 0, .int .u8 0] := by kernel_rfl
@[go_sem] theorem v_un84 : (Try.prog.underlying 84).isSome = true := by kernel_rfl
@[go_sem] theorem v_bool84 : isBool Try.prog 84 = false := by kernel_rfl
@[go_sem] theorem v_str84 : isStr Try.prog 84 = false := by kernel_rfl
@[go_sem] theorem v_el84 : elemOf' Try.prog 84 = none := by kernel_rfl
@[go_sem] theorem v_ix84 : ixOf Try.prog 84 = some (some 64, 5) := by kernel_rfl
@[go_sem] theorem v_ar84 : arrOf Try.prog 84 = some (64, 5) := by kernel_rfl
@[go_sem] theorem v_isb84 : isBytes Try.prog 84 = false := by kernel_rfl
@[go_sem] theorem v_if84 : ifaceB Try.prog 84 = some false := by kernel_rfl
@[go_sem] theorem v_pt61 : ptrTo Try.prog 61 = some 5 := by kernel_rfl
@[go_sem] theorem v_co5 : Try.prog.cellsOf 5 = 1 := by kernel_rfl
@[go_sem] theorem v_eq41 : eqOk Try.prog 41 = some [1, 1, 1, 1] := by kernel_rfl
@[go_sem] theorem v_fn4 : fnOk Try.prog 4 = true := by kernel_rfl
@[go_sem] theorem v_fn5 : fnOk Try.prog 5 = true := by kernel_rfl
@[go_sem] theorem v_fn6 : fnOk Try.prog 6 = true := by kernel_rfl
@[go_sem] theorem v_fn7 : fnOk Try.prog 7 = true := by kernel_rfl
@[go_sem] theorem v_fn9 : fnOk Try.prog 9 = true := by kernel_rfl
@[go_sem] theorem v_fn10 : fnOk Try.prog 10 = true := by kernel_rfl
@[go_sem] theorem v_fn11 : fnOk Try.prog 11 = true := by kernel_rfl
@[go_sem] theorem v_fn12 : fnOk Try.prog 12 = true := by kernel_rfl
@[go_sem] theorem v_fn13 : fnOk Try.prog 13 = true := by kernel_rfl
@[go_sem] theorem v_fn30 : fnOk Try.prog 30 = true := by kernel_rfl
@[go_sem] theorem v_fn31 : fnOk Try.prog 31 = true := by kernel_rfl
@[go_sem] theorem v_fn32 : fnOk Try.prog 32 = true := by kernel_rfl
@[go_sem] theorem v_fn33 : fnOk Try.prog 33 = true := by kernel_rfl
@[go_sem] theorem v_fn34 : fnOk Try.prog 34 = true := by kernel_rfl
@[go_sem] theorem v_fn35 : fnOk Try.prog 35 = true := by kernel_rfl
@[go_sem] theorem v_fn36 : fnOk Try.prog 36 = true := by kernel_rfl
@[go_sem] theorem v_fn37 : fnOk Try.prog 37 = true := by kernel_rfl
@[go_sem] theorem v_fn38 : fnOk Try.prog 38 = true := by kernel_rfl
@[go_sem] theorem v_fn39 : fnOk Try.prog 39 = true := by kernel_rfl
@[go_sem] theorem v_fn40 : fnOk Try.prog 40 = true := by kernel_rfl
@[go_sem] theorem v_fn41 : fnOk Try.prog 41 = true := by kernel_rfl
@[go_sem] theorem v_fn42 : fnOk Try.prog 42 = true := by kernel_rfl
@[go_sem] theorem v_fn43 : fnOk Try.prog 43 = true := by kernel_rfl
@[go_sem] theorem v_fn45 : fnOk Try.prog 45 = true := by kernel_rfl
@[go_sem] theorem v_fn47 : fnOk Try.prog 47 = true := by kernel_rfl
@[go_sem] theorem v_fn48 : fnOk Try.prog 48 = true := by kernel_rfl
@[go_sem] theorem v_fldT32_0 : fldT Try.prog 32 0 = some (0, 3) := by kernel_rfl
@[go_sem] theorem v_zv25 : zV Try.prog 25 = some (.agg [.int .i64 0]) := by kernel_rfl
@[go_sem] theorem v_zv27 : zV Try.prog 27 = some (.agg [.int .i64 0, .int .i64 0]) := by kernel_rfl
@[go_sem] theorem v_zv29 : zV Try.prog 29 = some (.agg [.int .i64 0, .int .i64 0]) := by kernel_rfl
@[go_sem] theorem v_zv32 : zV Try.prog 32 = some (.agg [.int .i64 0]) := by kernel_rfl
@[go_sem] theorem v_meth25_29 : methF Try.prog 25 "Text" = some 29 := by kernel_rfl
@[go_sem] theorem v_fn29 : fnOk Try.prog 29 = true := by kernel_rfl
@[go_sem] theorem v_meth27_44 : methF Try.prog 27 "Text" = some 44 := by kernel_rfl
@[go_sem] theorem v_fn44 : fnOk Try.prog 44 = true := by kernel_rfl
@[go_sem] theorem v_meth29_46 : methF Try.prog 29 "Text" = some 46 := by kernel_rfl
@[go_sem] theorem v_fn46 : fnOk Try.prog 46 = true := by kernel_rfl
@[go_sem] theorem v_meth32_49 : methF Try.prog 32 "Text" = some 49 := by kernel_rfl
@[go_sem] theorem v_fn49 : fnOk Try.prog 49 = true := by kernel_rfl
@[go_sem] theorem v_res2 : Try.f2.results.toList = [] := rfl
@[go_sem] theorem v_res3 : Try.f3.results.toList = [.tmp 6] := rfl
@[go_sem] theorem v_res4 : Try.f4.results.toList = [.tmp 4] := rfl
@[go_sem] theorem v_res5 : Try.f5.results.toList = [.cell 2 4] := rfl
@[go_sem] theorem v_res6 : Try.f6.results.toList = [.tmp 2] := rfl
@[go_sem] theorem v_res7 : Try.f7.results.toList = [.tmp 0] := rfl
@[go_sem] theorem v_res8 : Try.f8.results.toList = [] := rfl
@[go_sem] theorem v_res9 : Try.f9.results.toList = [.tmp 2, .tmp 3] := rfl
@[go_sem] theorem v_res10 : Try.f10.results.toList = [.tmp 4] := rfl
@[go_sem] theorem v_res11 : Try.f11.results.toList = [.tmp 2] := rfl
@[go_sem] theorem v_res12 : Try.f12.results.toList = [.tmp 2, .tmp 3] := rfl
@[go_sem] theorem v_res13 : Try.f13.results.toList = [.tmp 2] := rfl
@[go_sem] theorem v_res29 : Try.f29.results.toList = [.tmp 4] := rfl
@[go_sem] theorem v_res30 : Try.f30.results.toList = [.tmp 2] := rfl
@[go_sem] theorem v_res31 : Try.f31.results.toList = [.tmp 4] := rfl
@[go_sem] theorem v_res32 : Try.f32.results.toList = [.tmp 4] := rfl
@[go_sem] theorem v_res33 : Try.f33.results.toList = [.tmp 2] := rfl
@[go_sem] theorem v_res34 : Try.f34.results.toList = [.tmp 2] := rfl
@[go_sem] theorem v_res35 : Try.f35.results.toList = [] := rfl
@[go_sem] theorem v_res36 : Try.f36.results.toList = [.tmp 10, .tmp 11] := rfl
@[go_sem] theorem v_res37 : Try.f37.results.toList = [.tmp 2] := rfl
@[go_sem] theorem v_res38 : Try.f38.results.toList = [.tmp 2] := rfl
@[go_sem] theorem v_res39 : Try.f39.results.toList = [.tmp 2] := rfl
@[go_sem] theorem v_res40 : Try.f40.results.toList = [.tmp 2] := rfl
@[go_sem] theorem v_res41 : Try.f41.results.toList = [.tmp 2] := rfl
@[go_sem] theorem v_res42 : Try.f42.results.toList = [.tmp 2] := rfl
@[go_sem] theorem v_res43 : Try.f43.results.toList = [.tmp 2] := rfl
@[go_sem] theorem v_res44 : Try.f44.results.toList = [.tmp 4] := rfl
@[go_sem] theorem v_res45 : Try.f45.results.toList = [.cell 2 41] := rfl
@[go_sem] theorem v_res46 : Try.f46.results.toList = [.tmp 4] := rfl
@[go_sem] theorem v_res47 : Try.f47.results.toList = [.tmp 2] := rfl
@[go_sem] theorem v_res48 : Try.f48.results.toList = [.tmp 0] := rfl
@[go_sem] theorem v_res49 : Try.f49.results.toList = [.tmp 4] := rfl
@[go_sem] theorem v_res51 : Try.f51.results.toList = [] := rfl
theorem v_mixed : Try.prog.follows .mixedOrders = true := by kernel_rfl
end Go.Proofs.Ytpojlconoflneaa
