import Derived.Test.YtocjejladeeckaaGreatDoorProg
import Derived.Test.YtocjejladeeckaaGreatDoorVu3
import Derived.KernelRfl
set_option linter.all false
set_option maxRecDepth 100000
namespace Go.Proofs.YtocjejladeeckaaGreatDoor
open Go.Vs
@[go_sem] theorem ztM : zbY Tryz.prog 2 = some false /\ tsz Tryz.prog 2 = some 1 /\ zcs Tryz.prog 2 = some 8 /\ zb8 Tryz.prog 2 = some [.int .i64 0] /\ zjH Tryz.prog 2 = some .i64 /\ zfu Tryz.prog 2 = false /\ zd8 Tryz.prog 2 = false /\ zaQ Tryz.prog 2 = none /\ zdh Tryz.prog 2 = some false /\ zbY Tryz.prog 3 = some false /\ tsz Tryz.prog 3 = some 1 /\ zcs Tryz.prog 3 = some 8 := ⟨by kernel_rfl, by kernel_rfl, by kernel_rfl, by kernel_rfl, by kernel_rfl, by kernel_rfl, by kernel_rfl, by kernel_rfl, by kernel_rfl, by kernel_rfl, by kernel_rfl, by kernel_rfl⟩
@[go_sem] theorem zr1 : zb8 Tryz.prog 3 = some [.int .i64 0] /\ zfu Tryz.prog 3 = false /\ zaQ Tryz.prog 3 = none /\ zdh Tryz.prog 3 = some false /\ zbY Tryz.prog 4 = some false /\ tsz Tryz.prog 4 = some 1 /\ zfu Tryz.prog 4 = true /\ zaQ Tryz.prog 4 = none /\ zdh Tryz.prog 4 = some false /\ (Tryz.prog.underlying 5).isSome = true /\ zfu Tryz.prog 5 = false /\ zaQ Tryz.prog 5 = none := ⟨by kernel_rfl, by kernel_rfl, by kernel_rfl, by kernel_rfl, by kernel_rfl, by kernel_rfl, by kernel_rfl, by kernel_rfl, by kernel_rfl, by kernel_rfl, by kernel_rfl, by kernel_rfl⟩
@[go_sem] theorem ztE : zho Tryz.prog 5 = false /\ zdh Tryz.prog 5 = some false /\ zbY Tryz.prog 9 = some false /\ tsz Tryz.prog 9 = some 1 /\ zcs Tryz.prog 9 = some 16 /\ zb8 Tryz.prog 9 = some [.str ⟨#[]⟩] /\ zfu Tryz.prog 9 = false /\ zd8 Tryz.prog 9 = true /\ zaQ Tryz.prog 9 = none /\ zdh Tryz.prog 9 = some false /\ zbY Tryz.prog 21 = some false /\ tsz Tryz.prog 21 = some 1 := ⟨by kernel_rfl, by kernel_rfl, by kernel_rfl, by kernel_rfl, by kernel_rfl, by kernel_rfl, by kernel_rfl, by kernel_rfl, by kernel_rfl, by kernel_rfl, by kernel_rfl, by kernel_rfl⟩
@[go_sem] theorem zro : zfu Tryz.prog 21 = false /\ zaQ Tryz.prog 21 = none /\ zdh Tryz.prog 21 = some false /\ zbY Tryz.prog 27 = some false /\ tsz Tryz.prog 27 = some 1 /\ zd8 Tryz.prog 27 = false /\ zaQ Tryz.prog 27 = some 54 /\ zbY Tryz.prog 28 = some false /\ tsz Tryz.prog 28 = some 1 /\ zd8 Tryz.prog 28 = false /\ zaQ Tryz.prog 28 = some 59 /\ zbY Tryz.prog 30 = some true := ⟨by kernel_rfl, by kernel_rfl, by kernel_rfl, by kernel_rfl, by kernel_rfl, by kernel_rfl, by kernel_rfl, by kernel_rfl, by kernel_rfl, by kernel_rfl, by kernel_rfl, by kernel_rfl⟩
@[go_sem] theorem ztC : tsz Tryz.prog 30 = some 2 /\ zb8 Tryz.prog 30 = some [.nils, .nils] /\ plc Tryz.prog 30 = some [(0, 1), (1, 1)] /\ zbY Tryz.prog 34 = some false /\ tsz Tryz.prog 34 = some 1 /\ zcs Tryz.prog 34 = some 24 /\ zb8 Tryz.prog 34 = some [.nils] /\ zd8 Tryz.prog 34 = false /\ zaQ Tryz.prog 34 = some 41 /\ zbY Tryz.prog 35 = some false /\ tsz Tryz.prog 35 = some 1 /\ zfu Tryz.prog 35 = false := ⟨by kernel_rfl, by kernel_rfl, by kernel_rfl, by kernel_rfl, by kernel_rfl, by kernel_rfl, by kernel_rfl, by kernel_rfl, by kernel_rfl, by kernel_rfl, by kernel_rfl, by kernel_rfl⟩
@[go_sem] theorem ztL : zaQ Tryz.prog 35 = none /\ zdh Tryz.prog 35 = some false /\ zbY Tryz.prog 37 = some true /\ tsz Tryz.prog 37 = some 3 /\ zb8 Tryz.prog 37 = some [.int .i64 0, .int .i64 0, .int .i64 0] /\ plc Tryz.prog 37 = some [(0, 1), (1, 1), (2, 1)] /\ zfu Tryz.prog 37 = false /\ zaQ Tryz.prog 37 = none /\ zdh Tryz.prog 37 = some false /\ zbY Tryz.prog 41 = some true /\ tsz Tryz.prog 41 = some 4 /\ zcs Tryz.prog 41 = some 40 := ⟨by kernel_rfl, by kernel_rfl, by kernel_rfl, by kernel_rfl, by kernel_rfl, by kernel_rfl, by kernel_rfl, by kernel_rfl, by kernel_rfl, by kernel_rfl, by kernel_rfl, by kernel_rfl⟩
@[go_sem] theorem zq4 : zb8 Tryz.prog 41 = some [.int .i64 0, .int .i64 0, .int .i64 0, .str ⟨#[]⟩] /\ plc Tryz.prog 41 = some [(0, 1), (1, 1), (2, 1), (3, 1)] /\ zbY Tryz.prog 42 = some false /\ tsz Tryz.prog 42 = some 1 /\ zd8 Tryz.prog 42 = false /\ zaQ Tryz.prog 42 = some 9 /\ zaQ Tryz.prog 49 = some 50 /\ zbY Tryz.prog 50 = some false /\ tsz Tryz.prog 50 = some 1 /\ zd8 Tryz.prog 50 = false /\ zaQ Tryz.prog 50 = some 3 /\ zbY Tryz.prog 52 = some false := ⟨by kernel_rfl, by kernel_rfl, by kernel_rfl, by kernel_rfl, by kernel_rfl, by kernel_rfl, by kernel_rfl, by kernel_rfl, by kernel_rfl, by kernel_rfl, by kernel_rfl, by kernel_rfl⟩
@[go_sem] theorem ztB : tsz Tryz.prog 52 = some 1 /\ zd8 Tryz.prog 52 = false /\ zaQ Tryz.prog 52 = some 2 /\ zbY Tryz.prog 54 = some true /\ tsz Tryz.prog 54 = some 3 /\ zcs Tryz.prog 54 = some 48 /\ zb8 Tryz.prog 54 = some [.str ⟨#[]⟩, .int .i64 0, .nils] /\ plc Tryz.prog 54 = some [(0, 1), (1, 1), (2, 1)] /\ zbY Tryz.prog 57 = some false /\ tsz Tryz.prog 57 = some 1 /\ zd8 Tryz.prog 57 = false /\ zaQ Tryz.prog 57 = some 63 := ⟨by kernel_rfl, by kernel_rfl, by kernel_rfl, by kernel_rfl, by kernel_rfl, by kernel_rfl, by kernel_rfl, by kernel_rfl, by kernel_rfl, by kernel_rfl, by kernel_rfl, by kernel_rfl⟩
@[go_sem] theorem zs7 : zbY Tryz.prog 59 = some true /\ tsz Tryz.prog 59 = some 1 /\ zcs Tryz.prog 59 = some 24 /\ zb8 Tryz.prog 59 = some [.nils] /\ plc Tryz.prog 59 = some [(0, 1)] /\ zbY Tryz.prog 61 = some true /\ tsz Tryz.prog 61 = some 4 /\ zb8 Tryz.prog 61 = some [.int .i64 0, .int .i64 0, .int .i64 0, .int .i64 0] /\ plc Tryz.prog 61 = some [(0, 1), (1, 1), (2, 1), (3, 1)] /\ zfu Tryz.prog 61 = false /\ zaQ Tryz.prog 61 = none /\ zdh Tryz.prog 61 = some false := ⟨by kernel_rfl, by kernel_rfl, by kernel_rfl, by kernel_rfl, by kernel_rfl, by kernel_rfl, by kernel_rfl, by kernel_rfl, by kernel_rfl, by kernel_rfl, by kernel_rfl, by kernel_rfl⟩
@[go_sem] theorem zs6 : zbY Tryz.prog 63 = some true /\ tsz Tryz.prog 63 = some 13 /\ zcs Tryz.prog 63 = some 128 /\ zb8 Tryz.prog 63 = some [.int .i64 0, .bool false, .int .i64 0, .int .i64 0, .int .i64 0, .int .i64 0, .int .i64 0, .int .i64 0, .int .i64 0, .int .i64 0, .int .i64 0, .str ⟨#[]⟩, .nils] /\ plc Tryz.prog 63 = some [(0, 1), (1, 1), (2, 1), (3, 4), (7, 4), (11, 1), (12, 1)] /\ zaQ Tryz.prog 70 = some 73 /\ zbY Tryz.prog 73 = some true /\ tsz Tryz.prog 73 = some 6 /\ zcs Tryz.prog 73 = some 48 /\ zb8 Tryz.prog 73 = some [.int .i32 0, .int .i64 0, .int .i64 0, .int .i64 0, .int .i64 0, .bool false] /\ plc Tryz.prog 73 = some [(0, 1), (1, 1), (2, 1), (3, 1), (4, 1), (5, 1)] /\ zbY Tryz.prog 80 = some false := ⟨by kernel_rfl, by kernel_rfl, by kernel_rfl, by kernel_rfl, by kernel_rfl, by kernel_rfl, by kernel_rfl, by kernel_rfl, by kernel_rfl, by kernel_rfl, by kernel_rfl, by kernel_rfl⟩
@[go_sem] theorem ztA : tsz Tryz.prog 80 = some 1 /\ zd8 Tryz.prog 80 = false /\ zaQ Tryz.prog 80 = some 109 /\ zb8 Tryz.prog 82 = some [.nils, .int .i64 0, .nils, .nils, .nils, .int .i64 0, .int .i64 0, .int .i64 0] /\ plc Tryz.prog 82 = some [(0, 1), (1, 1), (2, 2), (4, 1), (5, 3)] /\ zbY Tryz.prog 88 = some false /\ tsz Tryz.prog 88 = some 1 /\ zaQ Tryz.prog 88 = some 34 /\ zb8 Tryz.prog 90 = some [.nils, .int .i64 0, .nils, .nils, .nils, .nils, .nils, .nils, .nils, .nils, .int .i64 0, .int .i64 0, .int .i64 0] /\ plc Tryz.prog 90 = some [(0, 1), (1, 1), (2, 2), (4, 1), (5, 1), (6, 1), (7, 1), (8, 1), (9, 1), (10, 3)] /\ zjH Tryz.prog 91 = some .u64 /\ (Tryz.prog.underlying 91).isSome = true := ⟨by kernel_rfl, by kernel_rfl, by kernel_rfl, by kernel_rfl, by kernel_rfl, by kernel_rfl, by kernel_rfl, by kernel_rfl, by kernel_rfl, by kernel_rfl, by kernel_rfl, by kernel_rfl⟩
@[go_sem] theorem zr2 : zd8 Tryz.prog 91 = false /\ zho Tryz.prog 91 = false /\ zaQ Tryz.prog 99 = some 101 /\ zbY Tryz.prog 101 = some true /\ tsz Tryz.prog 101 = some 6 /\ zcs Tryz.prog 101 = some 48 /\ zb8 Tryz.prog 101 = some [.int .i32 0, .int .i64 0, .int .i64 0, .int .i64 0, .int .i64 0, .bool false] /\ plc Tryz.prog 101 = some [(0, 1), (1, 1), (2, 1), (3, 1), (4, 1), (5, 1)] /\ zbY Tryz.prog 107 = some false /\ tsz Tryz.prog 107 = some 1 /\ zbY Tryz.prog 109 = some true /\ tsz Tryz.prog 109 = some 8 := ⟨by kernel_rfl, by kernel_rfl, by kernel_rfl, by kernel_rfl, by kernel_rfl, by kernel_rfl, by kernel_rfl, by kernel_rfl, by kernel_rfl, by kernel_rfl, by kernel_rfl, by kernel_rfl⟩
@[go_sem] theorem zs5 : zcs Tryz.prog 109 = some 120 /\ zb8 Tryz.prog 109 = some [.int .i64 0, .int .i64 0, .int .i64 0, .str ⟨#[]⟩, .nilmap, .nils, .nils, .nils] /\ plc Tryz.prog 109 = some [(0, 4), (4, 1), (5, 1), (6, 1), (7, 1)] /\ tsz Tryz.prog 180 = some 1 /\ zb8 Tryz.prog 180 = some [.int .i64 0] /\ plc Tryz.prog 180 = some [(0, 1)] /\ zdh Tryz.prog 180 = some false /\ zb8 Tryz.prog 185 = some [.int .i64 0] /\ plc Tryz.prog 185 = some [(0, 1)] /\ zdh Tryz.prog 185 = some false /\ tsz Tryz.prog 187 = some 2 /\ zb8 Tryz.prog 187 = some [.int .i64 0, .int .i64 0] := ⟨by kernel_rfl, by kernel_rfl, by kernel_rfl, by kernel_rfl, by kernel_rfl, by kernel_rfl, by kernel_rfl, by kernel_rfl, by kernel_rfl, by kernel_rfl, by kernel_rfl, by kernel_rfl⟩
@[go_sem] theorem zrn : plc Tryz.prog 187 = some [(0, 1), (1, 1)] /\ zdh Tryz.prog 187 = some false /\ tsz Tryz.prog 189 = some 2 /\ zb8 Tryz.prog 189 = some [.int .i64 0, .int .i64 0] /\ plc Tryz.prog 189 = some [(0, 1), (1, 1)] /\ zdh Tryz.prog 189 = some false /\ znc Tryz.prog 107 = some (9, 4) /\ znT Tryz.prog 4 = some (.bool false) /\ eqOk Tryz.prog 37 = some [1, 1, 1] /\ eqOk Tryz.prog 61 = some [1, 1, 1, 1] /\ fnOk Tryz.prog 10 = true /\ fnOk Tryz.prog 11 = true := ⟨by kernel_rfl, by kernel_rfl, by kernel_rfl, by kernel_rfl, by kernel_rfl, by kernel_rfl, by kernel_rfl, by kernel_rfl, by kernel_rfl, by kernel_rfl, by kernel_rfl, by kernel_rfl⟩
@[go_sem] theorem ztK : fnOk Tryz.prog 14 = true /\ fnOk Tryz.prog 15 = true /\ fnOk Tryz.prog 16 = true /\ fnOk Tryz.prog 17 = true /\ fnOk Tryz.prog 19 = true /\ fnOk Tryz.prog 21 = true /\ fnOk Tryz.prog 25 = true /\ fnOk Tryz.prog 26 = true /\ fnOk Tryz.prog 27 = true /\ fnOk Tryz.prog 28 = true /\ fnOk Tryz.prog 29 = true /\ fnOk Tryz.prog 30 = true := ⟨by kernel_rfl, by kernel_rfl, by kernel_rfl, by kernel_rfl, by kernel_rfl, by kernel_rfl, by kernel_rfl, by kernel_rfl, by kernel_rfl, by kernel_rfl, by kernel_rfl, by kernel_rfl⟩
@[go_sem] theorem ztJ : fnOk Tryz.prog 31 = true /\ fnOk Tryz.prog 32 = true /\ fnOk Tryz.prog 33 = true /\ fnOk Tryz.prog 34 = true /\ fnOk Tryz.prog 35 = true /\ fnOk Tryz.prog 38 = true /\ fnOk Tryz.prog 39 = true /\ fnOk Tryz.prog 40 = true /\ fnOk Tryz.prog 43 = true /\ fnOk Tryz.prog 44 = true /\ fnOk Tryz.prog 49 = true /\ fnOk Tryz.prog 50 = true := ⟨by kernel_rfl, by kernel_rfl, by kernel_rfl, by kernel_rfl, by kernel_rfl, by kernel_rfl, by kernel_rfl, by kernel_rfl, by kernel_rfl, by kernel_rfl, by kernel_rfl, by kernel_rfl⟩
@[go_sem] theorem ztI : fnOk Tryz.prog 51 = true /\ fnOk Tryz.prog 52 = true /\ fnOk Tryz.prog 53 = true /\ fnOk Tryz.prog 54 = true /\ fnOk Tryz.prog 55 = true /\ fnOk Tryz.prog 56 = true /\ fnOk Tryz.prog 57 = true /\ fnOk Tryz.prog 58 = true /\ fnOk Tryz.prog 59 = true /\ fnOk Tryz.prog 60 = true /\ fnOk Tryz.prog 62 = true /\ fnOk Tryz.prog 64 = true := ⟨by kernel_rfl, by kernel_rfl, by kernel_rfl, by kernel_rfl, by kernel_rfl, by kernel_rfl, by kernel_rfl, by kernel_rfl, by kernel_rfl, by kernel_rfl, by kernel_rfl, by kernel_rfl⟩
@[go_sem] theorem ztH : fnOk Tryz.prog 65 = true /\ fnOk Tryz.prog 66 = true /\ fnOk Tryz.prog 67 = true /\ fnOk Tryz.prog 68 = true /\ fnOk Tryz.prog 69 = true /\ fnOk Tryz.prog 70 = true /\ fnOk Tryz.prog 71 = true /\ fnOk Tryz.prog 72 = true /\ fnOk Tryz.prog 74 = true /\ fnOk Tryz.prog 75 = true /\ fnOk Tryz.prog 76 = true /\ fnOk Tryz.prog 77 = true := ⟨by kernel_rfl, by kernel_rfl, by kernel_rfl, by kernel_rfl, by kernel_rfl, by kernel_rfl, by kernel_rfl, by kernel_rfl, by kernel_rfl, by kernel_rfl, by kernel_rfl, by kernel_rfl⟩
@[go_sem] theorem ztG : fnOk Tryz.prog 78 = true /\ fnOk Tryz.prog 79 = true /\ fnOk Tryz.prog 80 = true /\ fnOk Tryz.prog 81 = true /\ fnOk Tryz.prog 82 = true /\ fnOk Tryz.prog 83 = true /\ fnOk Tryz.prog 84 = true /\ fnOk Tryz.prog 85 = true /\ fnOk Tryz.prog 86 = true /\ fnOk Tryz.prog 87 = true /\ fnOk Tryz.prog 88 = true /\ fnOk Tryz.prog 92 = true := ⟨by kernel_rfl, by kernel_rfl, by kernel_rfl, by kernel_rfl, by kernel_rfl, by kernel_rfl, by kernel_rfl, by kernel_rfl, by kernel_rfl, by kernel_rfl, by kernel_rfl, by kernel_rfl⟩
@[go_sem] theorem ztF : fnOk Tryz.prog 93 = true /\ fnOk Tryz.prog 94 = true /\ fnOk Tryz.prog 95 = true /\ fnOk Tryz.prog 96 = true /\ fnOk Tryz.prog 100 = true /\ fnOk Tryz.prog 101 = true /\ fnOk Tryz.prog 102 = true /\ fnOk Tryz.prog 103 = true /\ fnOk Tryz.prog 104 = true /\ fnOk Tryz.prog 105 = true /\ fnOk Tryz.prog 112 = true /\ fnOk Tryz.prog 113 = true := ⟨by kernel_rfl, by kernel_rfl, by kernel_rfl, by kernel_rfl, by kernel_rfl, by kernel_rfl, by kernel_rfl, by kernel_rfl, by kernel_rfl, by kernel_rfl, by kernel_rfl, by kernel_rfl⟩
@[go_sem] theorem zs4 : fnOk Tryz.prog 114 = true /\ fnOk Tryz.prog 115 = true /\ fnOk Tryz.prog 125 = true /\ fnOk Tryz.prog 126 = true /\ fnOk Tryz.prog 127 = true /\ fnOk Tryz.prog 128 = true /\ fnOk Tryz.prog 135 = true /\ fnOk Tryz.prog 136 = true /\ fnOk Tryz.prog 137 = true /\ fnOk Tryz.prog 140 = true /\ zV Tryz.prog 180 = some (.agg [.int .i64 0]) /\ zV Tryz.prog 187 = some (.agg [.int .i64 0, .int .i64 0]) := ⟨by kernel_rfl, by kernel_rfl, by kernel_rfl, by kernel_rfl, by kernel_rfl, by kernel_rfl, by kernel_rfl, by kernel_rfl, by kernel_rfl, by kernel_rfl, by kernel_rfl, by kernel_rfl⟩
@[go_sem] theorem zr0 : zV Tryz.prog 189 = some (.agg [.int .i64 0, .int .i64 0]) := by kernel_rfl
@[go_sem] theorem ztD : Tryz.f8.results.toList = [.tmp 2] := rfl
@[go_sem] theorem zs3 : Tryz.f10.results.toList = [.tmp 2] := rfl
@[go_sem] theorem zs2 : Tryz.f11.results.toList = [.tmp 0] := rfl
@[go_sem] theorem zs1 : Tryz.f14.results.toList = [.tmp 4] := rfl
@[go_sem] theorem zs0 : Tryz.f15.results.toList = [.tmp 2, .cell 3 37] := rfl
@[go_sem] theorem zsZ : Tryz.f16.results.toList = [.cell 2 30, .cell 3 37] := rfl
@[go_sem] theorem zsY : Tryz.f17.results.toList = [.tmp 4] := rfl
@[go_sem] theorem zsX : Tryz.f19.results.toList = [.cell 2 30, .cell 3 37] := rfl
@[go_sem] theorem zsW : Tryz.f21.results.toList = [.tmp 2] := rfl
@[go_sem] theorem zsV : Tryz.f25.results.toList = [.tmp 2] := rfl
@[go_sem] theorem zsU : Tryz.f26.results.toList = [.tmp 2] := rfl
@[go_sem] theorem zsT : Tryz.f27.results.toList = [.tmp 2] := rfl
@[go_sem] theorem zsS : Tryz.f28.results.toList = [.tmp 2] := rfl
@[go_sem] theorem zsR : Tryz.f29.results.toList = [.tmp 2, .tmp 3] := rfl
@[go_sem] theorem zsQ : Tryz.f30.results.toList = [.tmp 2, .tmp 3] := rfl
@[go_sem] theorem zsP : Tryz.f31.results.toList = [.tmp 2, .cell 3 37] := rfl
@[go_sem] theorem zsO : Tryz.f32.results.toList = [.tmp 2] := rfl
@[go_sem] theorem zsN : Tryz.f33.results.toList = [.tmp 4] := rfl
@[go_sem] theorem zsM : Tryz.f34.results.toList = [.tmp 4] := rfl
@[go_sem] theorem zsL : Tryz.f35.results.toList = [.tmp 4] := rfl
@[go_sem] theorem zsK : Tryz.f38.results.toList = [.tmp 2] := rfl
@[go_sem] theorem zsJ : Tryz.f39.results.toList = [] := rfl
@[go_sem] theorem zsI : Tryz.f40.results.toList = [.tmp 4] := rfl
@[go_sem] theorem zsH : Tryz.f43.results.toList = [.tmp 2] := rfl
@[go_sem] theorem zsG : Tryz.f44.results.toList = [.tmp 2] := rfl
@[go_sem] theorem zsF : Tryz.f49.results.toList = [.tmp 2] := rfl
@[go_sem] theorem zsE : Tryz.f50.results.toList = [.cell 4 37] := rfl
@[go_sem] theorem zsD : Tryz.f51.results.toList = [.tmp 2] := rfl
@[go_sem] theorem zsC : Tryz.f52.results.toList = [.tmp 4, .tmp 5] := rfl
@[go_sem] theorem zsB : Tryz.f53.results.toList = [.tmp 4] := rfl
@[go_sem] theorem zsA : Tryz.f54.results.toList = [.tmp 2, .tmp 3] := rfl
@[go_sem] theorem zsz : Tryz.f55.results.toList = [.tmp 4] := rfl
@[go_sem] theorem zsy : Tryz.f56.results.toList = [.tmp 6] := rfl
@[go_sem] theorem zsx : Tryz.f57.results.toList = [.tmp 2] := rfl
@[go_sem] theorem zsw : Tryz.f58.results.toList = [.tmp 4] := rfl
@[go_sem] theorem zsv : Tryz.f59.results.toList = [.tmp 4] := rfl
@[go_sem] theorem zsu : Tryz.f60.results.toList = [.tmp 2] := rfl
@[go_sem] theorem zst : Tryz.f62.results.toList = [.tmp 4] := rfl
@[go_sem] theorem zss : Tryz.f64.results.toList = [.tmp 4] := rfl
@[go_sem] theorem zsr : Tryz.f65.results.toList = [.tmp 2] := rfl
@[go_sem] theorem zsq : Tryz.f66.results.toList = [.tmp 2] := rfl
@[go_sem] theorem zsp : Tryz.f67.results.toList = [.tmp 2] := rfl
@[go_sem] theorem zso : Tryz.f68.results.toList = [.tmp 6] := rfl
@[go_sem] theorem zsn : Tryz.f69.results.toList = [.tmp 2] := rfl
@[go_sem] theorem zsm : Tryz.f70.results.toList = [.tmp 0] := rfl
@[go_sem] theorem zsl : Tryz.f71.results.toList = [.tmp 0] := rfl
@[go_sem] theorem zsk : Tryz.f72.results.toList = [.tmp 2] := rfl
@[go_sem] theorem zsj : Tryz.f76.results.toList = [.tmp 6, .tmp 7] := rfl
@[go_sem] theorem zsi : Tryz.f77.results.toList = [.tmp 2] := rfl
@[go_sem] theorem zsh : Tryz.f78.results.toList = [.tmp 2] := rfl
@[go_sem] theorem zsg : Tryz.f80.results.toList = [.tmp 2] := rfl
@[go_sem] theorem zsf : Tryz.f81.results.toList = [.tmp 4, .tmp 5] := rfl
@[go_sem] theorem zse : Tryz.f82.results.toList = [.tmp 6] := rfl
@[go_sem] theorem zsd : Tryz.f83.results.toList = [.cell 4 63, .tmp 5] := rfl
@[go_sem] theorem zsc : Tryz.f84.results.toList = [.tmp 0] := rfl
@[go_sem] theorem zsb : Tryz.f85.results.toList = [.tmp 2] := rfl
@[go_sem] theorem zsa : Tryz.f86.results.toList = [.tmp 2] := rfl
@[go_sem] theorem zr9 : Tryz.f87.results.toList = [.tmp 2] := rfl
@[go_sem] theorem zr8 : Tryz.f88.results.toList = [.tmp 2] := rfl
@[go_sem] theorem zr7 : Tryz.f92.results.toList = [.tmp 2, .tmp 3] := rfl
@[go_sem] theorem zr6 : Tryz.f93.results.toList = [.tmp 2, .tmp 3, .tmp 4] := rfl
@[go_sem] theorem zr5 : Tryz.f94.results.toList = [.cell 4 63, .tmp 5] := rfl
@[go_sem] theorem zr4 : Tryz.f95.results.toList = [.tmp 2, .tmp 3, .tmp 4] := rfl
@[go_sem] theorem zr3 : Tryz.f96.results.toList = [.tmp 4] := rfl
@[go_sem] theorem zrm : Tryz.f100.results.toList = [.tmp 0] := rfl
@[go_sem] theorem zrl : Tryz.f101.results.toList = [.tmp 0] := rfl
@[go_sem] theorem zrk : Tryz.f102.results.toList = [.tmp 0] := rfl
@[go_sem] theorem zrj : Tryz.f103.results.toList = [.tmp 4] := rfl
@[go_sem] theorem zri : Tryz.f104.results.toList = [.tmp 2] := rfl
@[go_sem] theorem zrh : Tryz.f105.results.toList = [.cell 2 61, .tmp 3] := rfl
@[go_sem] theorem zrg : Tryz.f112.results.toList = [.tmp 6] := rfl
@[go_sem] theorem zrf : Tryz.f113.results.toList = [.tmp 2] := rfl
@[go_sem] theorem zre : Tryz.f114.results.toList = [.tmp 2] := rfl
@[go_sem] theorem zrd : Tryz.f115.results.toList = [.tmp 2, .tmp 3] := rfl
@[go_sem] theorem zrc : Tryz.f125.results.toList = [.tmp 2] := rfl
@[go_sem] theorem zrb : Tryz.f126.results.toList = [.tmp 2] := rfl
@[go_sem] theorem zra : Tryz.f127.results.toList = [.tmp 2] := rfl
@[go_sem] theorem zq9 : Tryz.f128.results.toList = [.tmp 2] := rfl
@[go_sem] theorem zq8 : Tryz.f135.results.toList = [.tmp 2, .tmp 3] := rfl
@[go_sem] theorem zq7 : Tryz.f136.results.toList = [.tmp 2] := rfl
@[go_sem] theorem zq6 : Tryz.f137.results.toList = [.tmp 2, .tmp 3] := rfl
@[go_sem] theorem zq5 : Tryz.f140.results.toList = [.tmp 2] := rfl
theorem zay : Tryz.prog.follows .mixedOrders = true := by kernel_rfl
end Go.Proofs.YtocjejladeeckaaGreatDoor
