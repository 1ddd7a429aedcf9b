import Derived.Test.YtocjejladeeckaaGreatDoorProg
import Derived.Test.YtocjejladeeckaaGreatDoorVu3
import Derived.KernelRfl
set_option linter.all false
set_option maxRecDepth 100000
namespace Go.Proofs.YtocjejladeeckaaGreatDoor
open Go.Vs
@[go_sem] theorem ztt : zbX Tryz.prog 2 = some false /\ tsz Tryz.prog 2 = some 1 /\ zct Tryz.prog 2 = some 8 /\ zb9 Tryz.prog 2 = some [.int .i64 0] /\ zjy Tryz.prog 2 = some .i64 /\ zft Tryz.prog 2 = false /\ zed Tryz.prog 2 = false /\ zaU Tryz.prog 2 = none /\ zdf Tryz.prog 2 = some false /\ zbX Tryz.prog 3 = some false /\ tsz Tryz.prog 3 = some 1 /\ zct Tryz.prog 3 = some 8 := ⟨by kernel_rfl, by kernel_rfl, by kernel_rfl, by kernel_rfl, by kernel_rfl, by kernel_rfl, by kernel_rfl, by kernel_rfl, by kernel_rfl, by kernel_rfl, by kernel_rfl, by kernel_rfl⟩
@[go_sem] theorem zrL : zb9 Tryz.prog 3 = some [.int .i64 0] /\ zft Tryz.prog 3 = false /\ zaU Tryz.prog 3 = none /\ zdf Tryz.prog 3 = some false /\ zbX Tryz.prog 4 = some false /\ tsz Tryz.prog 4 = some 1 /\ zft Tryz.prog 4 = true /\ zaU Tryz.prog 4 = none /\ zdf Tryz.prog 4 = some false /\ (Tryz.prog.underlying 5).isSome = true /\ zft Tryz.prog 5 = false /\ zaU Tryz.prog 5 = none := ⟨by kernel_rfl, by kernel_rfl, by kernel_rfl, by kernel_rfl, by kernel_rfl, by kernel_rfl, by kernel_rfl, by kernel_rfl, by kernel_rfl, by kernel_rfl, by kernel_rfl, by kernel_rfl⟩
@[go_sem] theorem ztg : zhh Tryz.prog 5 = false /\ zdf Tryz.prog 5 = some false /\ zbX Tryz.prog 9 = some false /\ tsz Tryz.prog 9 = some 1 /\ zct Tryz.prog 9 = some 16 /\ zb9 Tryz.prog 9 = some [.str ⟨#[]⟩] /\ zft Tryz.prog 9 = false /\ zed Tryz.prog 9 = true /\ zaU Tryz.prog 9 = none /\ zdf Tryz.prog 9 = some false /\ zbX Tryz.prog 21 = some false /\ tsz Tryz.prog 21 = some 1 := ⟨by kernel_rfl, by kernel_rfl, by kernel_rfl, by kernel_rfl, by kernel_rfl, by kernel_rfl, by kernel_rfl, by kernel_rfl, by kernel_rfl, by kernel_rfl, by kernel_rfl, by kernel_rfl⟩
@[go_sem] theorem zq9 : zft Tryz.prog 21 = false /\ zaU Tryz.prog 21 = none /\ zdf Tryz.prog 21 = some false /\ zbX Tryz.prog 27 = some false /\ tsz Tryz.prog 27 = some 1 /\ zed Tryz.prog 27 = false /\ zaU Tryz.prog 27 = some 54 /\ zbX Tryz.prog 28 = some false /\ tsz Tryz.prog 28 = some 1 /\ zed Tryz.prog 28 = false /\ zaU Tryz.prog 28 = some 59 /\ zbX Tryz.prog 30 = some true := ⟨by kernel_rfl, by kernel_rfl, by kernel_rfl, by kernel_rfl, by kernel_rfl, by kernel_rfl, by kernel_rfl, by kernel_rfl, by kernel_rfl, by kernel_rfl, by kernel_rfl, by kernel_rfl⟩
@[go_sem] theorem ztd : tsz Tryz.prog 30 = some 2 /\ zb9 Tryz.prog 30 = some [.nils, .nils] /\ plc Tryz.prog 30 = some [(0, 1), (1, 1)] /\ zbX Tryz.prog 34 = some false /\ tsz Tryz.prog 34 = some 1 /\ zct Tryz.prog 34 = some 24 /\ zb9 Tryz.prog 34 = some [.nils] /\ zed Tryz.prog 34 = false /\ zaU Tryz.prog 34 = some 41 /\ zbX Tryz.prog 35 = some false /\ tsz Tryz.prog 35 = some 1 /\ zft Tryz.prog 35 = false := ⟨by kernel_rfl, by kernel_rfl, by kernel_rfl, by kernel_rfl, by kernel_rfl, by kernel_rfl, by kernel_rfl, by kernel_rfl, by kernel_rfl, by kernel_rfl, by kernel_rfl, by kernel_rfl⟩
@[go_sem] theorem ztq : zaU Tryz.prog 35 = none /\ zdf Tryz.prog 35 = some false /\ zbX Tryz.prog 37 = some true /\ tsz Tryz.prog 37 = some 3 /\ zb9 Tryz.prog 37 = some [.int .i64 0, .int .i64 0, .int .i64 0] /\ plc Tryz.prog 37 = some [(0, 1), (1, 1), (2, 1)] /\ zft Tryz.prog 37 = false /\ zaU Tryz.prog 37 = none /\ zdf Tryz.prog 37 = some false /\ zbX Tryz.prog 41 = some true /\ tsz Tryz.prog 41 = some 4 /\ zct Tryz.prog 41 = some 40 := ⟨by kernel_rfl, by kernel_rfl, by kernel_rfl, by kernel_rfl, by kernel_rfl, by kernel_rfl, by kernel_rfl, by kernel_rfl, by kernel_rfl, by kernel_rfl, by kernel_rfl, by kernel_rfl⟩
@[go_sem] theorem zqO : zb9 Tryz.prog 41 = some [.int .i64 0, .int .i64 0, .int .i64 0, .str ⟨#[]⟩] /\ plc Tryz.prog 41 = some [(0, 1), (1, 1), (2, 1), (3, 1)] /\ zbX Tryz.prog 42 = some false /\ tsz Tryz.prog 42 = some 1 /\ zed Tryz.prog 42 = false /\ zaU Tryz.prog 42 = some 9 /\ zbX Tryz.prog 50 = some false /\ tsz Tryz.prog 50 = some 1 /\ zaU Tryz.prog 50 = some 3 /\ zbX Tryz.prog 52 = some false /\ tsz Tryz.prog 52 = some 1 /\ zed Tryz.prog 52 = false := ⟨by kernel_rfl, by kernel_rfl, by kernel_rfl, by kernel_rfl, by kernel_rfl, by kernel_rfl, by kernel_rfl, by kernel_rfl, by kernel_rfl, by kernel_rfl, by kernel_rfl, by kernel_rfl⟩
@[go_sem] theorem ztp : zaU Tryz.prog 52 = some 2 /\ zbX Tryz.prog 54 = some true /\ tsz Tryz.prog 54 = some 3 /\ zct Tryz.prog 54 = some 48 /\ zb9 Tryz.prog 54 = some [.str ⟨#[]⟩, .int .i64 0, .nils] /\ plc Tryz.prog 54 = some [(0, 1), (1, 1), (2, 1)] /\ zbX Tryz.prog 57 = some false /\ tsz Tryz.prog 57 = some 1 /\ zed Tryz.prog 57 = false /\ zaU Tryz.prog 57 = some 63 /\ zbX Tryz.prog 59 = some true /\ tsz Tryz.prog 59 = some 1 := ⟨by kernel_rfl, by kernel_rfl, by kernel_rfl, by kernel_rfl, by kernel_rfl, by kernel_rfl, by kernel_rfl, by kernel_rfl, by kernel_rfl, by kernel_rfl, by kernel_rfl, by kernel_rfl⟩
@[go_sem] theorem zts : zct Tryz.prog 59 = some 24 /\ zb9 Tryz.prog 59 = some [.nils] /\ plc Tryz.prog 59 = some [(0, 1)] /\ zbX Tryz.prog 61 = some true /\ tsz Tryz.prog 61 = some 4 /\ zb9 Tryz.prog 61 = some [.int .i64 0, .int .i64 0, .int .i64 0, .int .i64 0] /\ plc Tryz.prog 61 = some [(0, 1), (1, 1), (2, 1), (3, 1)] /\ zft Tryz.prog 61 = false /\ zaU Tryz.prog 61 = none /\ zdf Tryz.prog 61 = some false /\ zbX Tryz.prog 63 = some true /\ tsz Tryz.prog 63 = some 13 := ⟨by kernel_rfl, by kernel_rfl, by kernel_rfl, by kernel_rfl, by kernel_rfl, by kernel_rfl, by kernel_rfl, by kernel_rfl, by kernel_rfl, by kernel_rfl, by kernel_rfl, by kernel_rfl⟩
@[go_sem] theorem ztr : zct Tryz.prog 63 = some 128 /\ zb9 Tryz.prog 63 = some [.int .i64 0, .bool false, .int .i64 0, .int .i64 0, .int .i64 0, .int .i64 0, .int .i64 0, .int .i64 0, .int .i64 0, .int .i64 0, .int .i64 0, .str ⟨#[]⟩, .nils] /\ plc Tryz.prog 63 = some [(0, 1), (1, 1), (2, 1), (3, 4), (7, 4), (11, 1), (12, 1)] /\ zaU Tryz.prog 70 = some 73 /\ zbX Tryz.prog 73 = some true /\ tsz Tryz.prog 73 = some 6 /\ zct Tryz.prog 73 = some 48 /\ zb9 Tryz.prog 73 = some [.int .i32 0, .int .i64 0, .int .i64 0, .int .i64 0, .int .i64 0, .bool false] /\ plc Tryz.prog 73 = some [(0, 1), (1, 1), (2, 1), (3, 1), (4, 1), (5, 1)] /\ zbX Tryz.prog 80 = some false /\ tsz Tryz.prog 80 = some 1 /\ zed Tryz.prog 80 = false := ⟨by kernel_rfl, by kernel_rfl, by kernel_rfl, by kernel_rfl, by kernel_rfl, by kernel_rfl, by kernel_rfl, by kernel_rfl, by kernel_rfl, by kernel_rfl, by kernel_rfl, by kernel_rfl⟩
@[go_sem] theorem zto : zaU Tryz.prog 80 = some 109 /\ zb9 Tryz.prog 82 = some [.nils, .int .i64 0, .nils, .nils, .nils, .int .i64 0, .int .i64 0, .int .i64 0] /\ plc Tryz.prog 82 = some [(0, 1), (1, 1), (2, 2), (4, 1), (5, 3)] /\ zbX Tryz.prog 88 = some false /\ tsz Tryz.prog 88 = some 1 /\ zaU Tryz.prog 88 = some 34 /\ zb9 Tryz.prog 90 = some [.nils, .int .i64 0, .nils, .nils, .nils, .nils, .nils, .nils, .nils, .nils, .int .i64 0, .int .i64 0, .int .i64 0] /\ plc Tryz.prog 90 = some [(0, 1), (1, 1), (2, 2), (4, 1), (5, 1), (6, 1), (7, 1), (8, 1), (9, 1), (10, 3)] /\ zjy Tryz.prog 91 = some .u64 /\ (Tryz.prog.underlying 91).isSome = true /\ zed Tryz.prog 91 = false /\ zhh Tryz.prog 91 = false := ⟨by kernel_rfl, by kernel_rfl, by kernel_rfl, by kernel_rfl, by kernel_rfl, by kernel_rfl, by kernel_rfl, by kernel_rfl, by kernel_rfl, by kernel_rfl, by kernel_rfl, by kernel_rfl⟩
@[go_sem] theorem ztn : zaU Tryz.prog 99 = some 101 /\ zbX Tryz.prog 101 = some true /\ tsz Tryz.prog 101 = some 6 /\ zct Tryz.prog 101 = some 48 /\ zb9 Tryz.prog 101 = some [.int .i32 0, .int .i64 0, .int .i64 0, .int .i64 0, .int .i64 0, .bool false] /\ plc Tryz.prog 101 = some [(0, 1), (1, 1), (2, 1), (3, 1), (4, 1), (5, 1)] /\ zbX Tryz.prog 107 = some false /\ tsz Tryz.prog 107 = some 1 /\ zbX Tryz.prog 109 = some true /\ tsz Tryz.prog 109 = some 8 /\ zct Tryz.prog 109 = some 120 /\ zb9 Tryz.prog 109 = some [.int .i64 0, .int .i64 0, .int .i64 0, .str ⟨#[]⟩, .nilmap, .nils, .nils, .nils] := ⟨by kernel_rfl, by kernel_rfl, by kernel_rfl, by kernel_rfl, by kernel_rfl, by kernel_rfl, by kernel_rfl, by kernel_rfl, by kernel_rfl, by kernel_rfl, by kernel_rfl, by kernel_rfl⟩
@[go_sem] theorem zq8 : plc Tryz.prog 109 = some [(0, 4), (4, 1), (5, 1), (6, 1), (7, 1)] /\ tsz Tryz.prog 180 = some 1 /\ zb9 Tryz.prog 180 = some [.int .i64 0] /\ plc Tryz.prog 180 = some [(0, 1)] /\ zdf Tryz.prog 180 = some false /\ zb9 Tryz.prog 185 = some [.int .i64 0] /\ plc Tryz.prog 185 = some [(0, 1)] /\ zdf Tryz.prog 185 = some false /\ tsz Tryz.prog 187 = some 2 /\ zb9 Tryz.prog 187 = some [.int .i64 0, .int .i64 0] /\ plc Tryz.prog 187 = some [(0, 1), (1, 1)] /\ zdf Tryz.prog 187 = some false := ⟨by kernel_rfl, by kernel_rfl, by kernel_rfl, by kernel_rfl, by kernel_rfl, by kernel_rfl, by kernel_rfl, by kernel_rfl, by kernel_rfl, by kernel_rfl, by kernel_rfl, by kernel_rfl⟩
@[go_sem] theorem zrM : tsz Tryz.prog 189 = some 2 /\ zb9 Tryz.prog 189 = some [.int .i64 0, .int .i64 0] /\ plc Tryz.prog 189 = some [(0, 1), (1, 1)] /\ zdf Tryz.prog 189 = some false /\ zmZ Tryz.prog 107 = some (9, 4) /\ znG Tryz.prog 4 = some (.bool false) /\ eqOk Tryz.prog 37 = some [1, 1, 1] /\ eqOk Tryz.prog 61 = some [1, 1, 1, 1] /\ fnOk Tryz.prog 9 = true /\ fnOk Tryz.prog 10 = true /\ fnOk Tryz.prog 11 = true /\ fnOk Tryz.prog 15 = true := ⟨by kernel_rfl, by kernel_rfl, by kernel_rfl, by kernel_rfl, by kernel_rfl, by kernel_rfl, by kernel_rfl, by kernel_rfl, by kernel_rfl, by kernel_rfl, by kernel_rfl, by kernel_rfl⟩
@[go_sem] theorem ztm : fnOk Tryz.prog 16 = true /\ fnOk Tryz.prog 17 = true /\ fnOk Tryz.prog 19 = true /\ fnOk Tryz.prog 21 = true /\ fnOk Tryz.prog 25 = true /\ fnOk Tryz.prog 26 = true /\ fnOk Tryz.prog 27 = true /\ fnOk Tryz.prog 28 = true /\ fnOk Tryz.prog 29 = true /\ fnOk Tryz.prog 30 = true /\ fnOk Tryz.prog 31 = true /\ fnOk Tryz.prog 32 = true := ⟨by kernel_rfl, by kernel_rfl, by kernel_rfl, by kernel_rfl, by kernel_rfl, by kernel_rfl, by kernel_rfl, by kernel_rfl, by kernel_rfl, by kernel_rfl, by kernel_rfl, by kernel_rfl⟩
@[go_sem] theorem ztl : fnOk Tryz.prog 33 = true /\ fnOk Tryz.prog 34 = true /\ fnOk Tryz.prog 35 = true /\ fnOk Tryz.prog 38 = true /\ fnOk Tryz.prog 39 = true /\ fnOk Tryz.prog 40 = true /\ fnOk Tryz.prog 43 = true /\ fnOk Tryz.prog 44 = true /\ fnOk Tryz.prog 49 = true /\ fnOk Tryz.prog 50 = true /\ fnOk Tryz.prog 51 = true /\ fnOk Tryz.prog 52 = true := ⟨by kernel_rfl, by kernel_rfl, by kernel_rfl, by kernel_rfl, by kernel_rfl, by kernel_rfl, by kernel_rfl, by kernel_rfl, by kernel_rfl, by kernel_rfl, by kernel_rfl, by kernel_rfl⟩
@[go_sem] theorem ztk : fnOk Tryz.prog 53 = true /\ fnOk Tryz.prog 54 = true /\ fnOk Tryz.prog 55 = true /\ fnOk Tryz.prog 56 = true /\ fnOk Tryz.prog 57 = true /\ fnOk Tryz.prog 58 = true /\ fnOk Tryz.prog 59 = true /\ fnOk Tryz.prog 60 = true /\ fnOk Tryz.prog 62 = true /\ fnOk Tryz.prog 64 = true /\ fnOk Tryz.prog 65 = true /\ fnOk Tryz.prog 66 = true := ⟨by kernel_rfl, by kernel_rfl, by kernel_rfl, by kernel_rfl, by kernel_rfl, by kernel_rfl, by kernel_rfl, by kernel_rfl, by kernel_rfl, by kernel_rfl, by kernel_rfl, by kernel_rfl⟩
@[go_sem] theorem ztj : fnOk Tryz.prog 67 = true /\ fnOk Tryz.prog 68 = true /\ fnOk Tryz.prog 69 = true /\ fnOk Tryz.prog 70 = true /\ fnOk Tryz.prog 71 = true /\ fnOk Tryz.prog 72 = true /\ fnOk Tryz.prog 74 = true /\ fnOk Tryz.prog 75 = true /\ fnOk Tryz.prog 76 = true /\ fnOk Tryz.prog 77 = true /\ fnOk Tryz.prog 78 = true /\ fnOk Tryz.prog 79 = true := ⟨by kernel_rfl, by kernel_rfl, by kernel_rfl, by kernel_rfl, by kernel_rfl, by kernel_rfl, by kernel_rfl, by kernel_rfl, by kernel_rfl, by kernel_rfl, by kernel_rfl, by kernel_rfl⟩
@[go_sem] theorem zti : fnOk Tryz.prog 80 = true /\ fnOk Tryz.prog 81 = true /\ fnOk Tryz.prog 82 = true /\ fnOk Tryz.prog 83 = true /\ fnOk Tryz.prog 84 = true /\ fnOk Tryz.prog 85 = true /\ fnOk Tryz.prog 86 = true /\ fnOk Tryz.prog 87 = true /\ fnOk Tryz.prog 88 = true /\ fnOk Tryz.prog 92 = true /\ fnOk Tryz.prog 93 = true /\ fnOk Tryz.prog 94 = true := ⟨by kernel_rfl, by kernel_rfl, by kernel_rfl, by kernel_rfl, by kernel_rfl, by kernel_rfl, by kernel_rfl, by kernel_rfl, by kernel_rfl, by kernel_rfl, by kernel_rfl, by kernel_rfl⟩
@[go_sem] theorem zth : fnOk Tryz.prog 95 = true /\ fnOk Tryz.prog 96 = true /\ fnOk Tryz.prog 100 = true /\ fnOk Tryz.prog 101 = true /\ fnOk Tryz.prog 102 = true /\ fnOk Tryz.prog 103 = true /\ fnOk Tryz.prog 104 = true /\ fnOk Tryz.prog 105 = true /\ fnOk Tryz.prog 112 = true /\ fnOk Tryz.prog 113 = true /\ fnOk Tryz.prog 114 = true /\ fnOk Tryz.prog 115 = true := ⟨by kernel_rfl, by kernel_rfl, by kernel_rfl, by kernel_rfl, by kernel_rfl, by kernel_rfl, by kernel_rfl, by kernel_rfl, by kernel_rfl, by kernel_rfl, by kernel_rfl, by kernel_rfl⟩
@[go_sem] theorem zsN : fnOk Tryz.prog 125 = true /\ fnOk Tryz.prog 126 = true /\ fnOk Tryz.prog 127 = true /\ fnOk Tryz.prog 128 = true /\ fnOk Tryz.prog 135 = true /\ fnOk Tryz.prog 136 = true /\ fnOk Tryz.prog 137 = true /\ fnOk Tryz.prog 140 = true /\ zV Tryz.prog 180 = some (.agg [.int .i64 0]) /\ zV Tryz.prog 187 = some (.agg [.int .i64 0, .int .i64 0]) /\ zV Tryz.prog 189 = some (.agg [.int .i64 0, .int .i64 0]) := ⟨by kernel_rfl, by kernel_rfl, by kernel_rfl, by kernel_rfl, by kernel_rfl, by kernel_rfl, by kernel_rfl, by kernel_rfl, by kernel_rfl, by kernel_rfl, by kernel_rfl⟩
@[go_sem] theorem ztf : Tryz.f3.results.toList = [.tmp 2] := rfl
@[go_sem] theorem zte : Tryz.f9.results.toList = [.tmp 4] := rfl
@[go_sem] theorem zsM : Tryz.f10.results.toList = [.tmp 2] := rfl
@[go_sem] theorem zsL : Tryz.f11.results.toList = [.tmp 0] := rfl
@[go_sem] theorem zsK : Tryz.f15.results.toList = [.tmp 2, .cell 3 37] := rfl
@[go_sem] theorem zsJ : Tryz.f16.results.toList = [.cell 2 30, .cell 3 37] := rfl
@[go_sem] theorem zsI : Tryz.f17.results.toList = [.tmp 4] := rfl
@[go_sem] theorem zsH : Tryz.f19.results.toList = [.cell 2 30, .cell 3 37] := rfl
@[go_sem] theorem zsG : Tryz.f21.results.toList = [.tmp 2] := rfl
@[go_sem] theorem zsF : Tryz.f25.results.toList = [.tmp 2] := rfl
@[go_sem] theorem zsE : Tryz.f26.results.toList = [.tmp 2] := rfl
@[go_sem] theorem zsD : Tryz.f27.results.toList = [.tmp 2] := rfl
@[go_sem] theorem zsC : Tryz.f28.results.toList = [.tmp 2] := rfl
@[go_sem] theorem zsB : Tryz.f29.results.toList = [.tmp 2, .tmp 3] := rfl
@[go_sem] theorem zsA : Tryz.f30.results.toList = [.tmp 2, .tmp 3] := rfl
@[go_sem] theorem zsz : Tryz.f31.results.toList = [.tmp 2, .cell 3 37] := rfl
@[go_sem] theorem zsy : Tryz.f32.results.toList = [.tmp 2] := rfl
@[go_sem] theorem zsx : Tryz.f33.results.toList = [.tmp 4] := rfl
@[go_sem] theorem zsw : Tryz.f34.results.toList = [.tmp 4] := rfl
@[go_sem] theorem zsv : Tryz.f35.results.toList = [.tmp 4] := rfl
@[go_sem] theorem zsu : Tryz.f38.results.toList = [.tmp 2] := rfl
@[go_sem] theorem zst : Tryz.f39.results.toList = [] := rfl
@[go_sem] theorem zss : Tryz.f40.results.toList = [.tmp 4] := rfl
@[go_sem] theorem zsr : Tryz.f43.results.toList = [.tmp 2] := rfl
@[go_sem] theorem zsq : Tryz.f44.results.toList = [.tmp 2] := rfl
@[go_sem] theorem zsp : Tryz.f49.results.toList = [.tmp 2] := rfl
@[go_sem] theorem zso : Tryz.f50.results.toList = [.cell 4 37] := rfl
@[go_sem] theorem zsn : Tryz.f51.results.toList = [.tmp 2] := rfl
@[go_sem] theorem zsm : Tryz.f52.results.toList = [.tmp 4, .tmp 5] := rfl
@[go_sem] theorem zsl : Tryz.f53.results.toList = [.tmp 4] := rfl
@[go_sem] theorem zsk : Tryz.f54.results.toList = [.tmp 2, .tmp 3] := rfl
@[go_sem] theorem zsj : Tryz.f55.results.toList = [.tmp 4] := rfl
@[go_sem] theorem zsi : Tryz.f56.results.toList = [.tmp 6] := rfl
@[go_sem] theorem zsh : Tryz.f57.results.toList = [.tmp 2] := rfl
@[go_sem] theorem zsg : Tryz.f58.results.toList = [.tmp 4] := rfl
@[go_sem] theorem zsf : Tryz.f59.results.toList = [.tmp 4] := rfl
@[go_sem] theorem zse : Tryz.f60.results.toList = [.tmp 2] := rfl
@[go_sem] theorem zsd : Tryz.f62.results.toList = [.tmp 4] := rfl
@[go_sem] theorem zsc : Tryz.f64.results.toList = [.tmp 4] := rfl
@[go_sem] theorem zsb : Tryz.f65.results.toList = [.tmp 2] := rfl
@[go_sem] theorem zsa : Tryz.f66.results.toList = [.tmp 2] := rfl
@[go_sem] theorem zr9 : Tryz.f67.results.toList = [.tmp 2] := rfl
@[go_sem] theorem zr8 : Tryz.f68.results.toList = [.tmp 6] := rfl
@[go_sem] theorem zr7 : Tryz.f69.results.toList = [.tmp 2] := rfl
@[go_sem] theorem zr6 : Tryz.f70.results.toList = [.tmp 0] := rfl
@[go_sem] theorem zr5 : Tryz.f71.results.toList = [.tmp 0] := rfl
@[go_sem] theorem zr4 : Tryz.f72.results.toList = [.tmp 2] := rfl
@[go_sem] theorem zr3 : Tryz.f76.results.toList = [.tmp 6, .tmp 7] := rfl
@[go_sem] theorem zr2 : Tryz.f77.results.toList = [.tmp 2] := rfl
@[go_sem] theorem zr1 : Tryz.f78.results.toList = [.tmp 2] := rfl
@[go_sem] theorem zr0 : Tryz.f80.results.toList = [.tmp 2] := rfl
@[go_sem] theorem zrZ : Tryz.f81.results.toList = [.tmp 4, .tmp 5] := rfl
@[go_sem] theorem zrY : Tryz.f82.results.toList = [.tmp 6] := rfl
@[go_sem] theorem zrX : Tryz.f83.results.toList = [.cell 4 63, .tmp 5] := rfl
@[go_sem] theorem zrW : Tryz.f84.results.toList = [.tmp 0] := rfl
@[go_sem] theorem zrV : Tryz.f85.results.toList = [.tmp 2] := rfl
@[go_sem] theorem zrU : Tryz.f86.results.toList = [.tmp 2] := rfl
@[go_sem] theorem zrT : Tryz.f87.results.toList = [.tmp 2] := rfl
@[go_sem] theorem zrS : Tryz.f88.results.toList = [.tmp 2] := rfl
@[go_sem] theorem zrR : Tryz.f92.results.toList = [.tmp 2, .tmp 3] := rfl
@[go_sem] theorem zrQ : Tryz.f93.results.toList = [.tmp 2, .tmp 3, .tmp 4] := rfl
@[go_sem] theorem zrP : Tryz.f94.results.toList = [.cell 4 63, .tmp 5] := rfl
@[go_sem] theorem zrO : Tryz.f95.results.toList = [.tmp 2, .tmp 3, .tmp 4] := rfl
@[go_sem] theorem zrN : Tryz.f96.results.toList = [.tmp 4] := rfl
@[go_sem] theorem zq7 : Tryz.f100.results.toList = [.tmp 0] := rfl
@[go_sem] theorem zq6 : Tryz.f101.results.toList = [.tmp 0] := rfl
@[go_sem] theorem zq5 : Tryz.f102.results.toList = [.tmp 0] := rfl
@[go_sem] theorem zq4 : Tryz.f103.results.toList = [.tmp 4] := rfl
@[go_sem] theorem zq3 : Tryz.f104.results.toList = [.tmp 2] := rfl
@[go_sem] theorem zq2 : Tryz.f105.results.toList = [.cell 2 61, .tmp 3] := rfl
@[go_sem] theorem zq1 : Tryz.f112.results.toList = [.tmp 6] := rfl
@[go_sem] theorem zq0 : Tryz.f113.results.toList = [.tmp 2] := rfl
@[go_sem] theorem zqZ : Tryz.f114.results.toList = [.tmp 2] := rfl
@[go_sem] theorem zqY : Tryz.f115.results.toList = [.tmp 2, .tmp 3] := rfl
@[go_sem] theorem zqX : Tryz.f125.results.toList = [.tmp 2] := rfl
@[go_sem] theorem zqW : Tryz.f126.results.toList = [.tmp 2] := rfl
@[go_sem] theorem zqV : Tryz.f127.results.toList = [.tmp 2] := rfl
@[go_sem] theorem zqU : Tryz.f128.results.toList = [.tmp 2] := rfl
@[go_sem] theorem zqS : Tryz.f135.results.toList = [.tmp 2, .tmp 3] := rfl
@[go_sem] theorem zqR : Tryz.f136.results.toList = [.tmp 2] := rfl
@[go_sem] theorem zqQ : Tryz.f137.results.toList = [.tmp 2, .tmp 3] := rfl
@[go_sem] theorem zqP : Tryz.f140.results.toList = [.tmp 2] := rfl
theorem zaC : Tryz.prog.follows .mixedOrders = true := by kernel_rfl
end Go.Proofs.YtocjejladeeckaaGreatDoor
