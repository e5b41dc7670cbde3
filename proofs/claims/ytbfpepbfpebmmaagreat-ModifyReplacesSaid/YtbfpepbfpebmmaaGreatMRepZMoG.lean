/- Part of the proof: ZMoG. -/
import Derived.Test.YtbfpepbfpebmmaaGreatMRepShSToXfS
import Derived.Test.YtbfpepbfpebmmaaGreatMRepZShMixToZPfFieldI
import Derived.KernelRfl
set_option linter.all false
set_option maxRecDepth 100000
namespace Go.Sim
open Go Go.Proofs
def xd11:XD:=(.seq (.reg [yS 0 0 .mov [oC (.bool false)]]) (.seq (.reg [yS 0 3 (.bsl [(nv 0),(nv 0),(nv 0)] 3 [(0,1),(1,1),(2,1)] 3) [oC (nv 1),oC (nv 0),oC (nv 0)],yS 1 4 (.bsl [(nv 0),(nv 0),(nv 0)] 3 [(0,1),(1,1),(2,1)] 3) [oC (nv 0),oC (nv 1),oC (nv 1)],yS 2 5 (.bsl [(.slice none 0 0),(.slice none 0 0)] 2 [(0,1),(1,1)] 31) [oT 3,oT 4],yS 3 6 (.bld [(nv 0),(nv 0),(.slice none 0 0)] [(0,1),(1,1),(2,1)]) [oC (nv 2),oC (nv 3),oT 5],yS 4 1 (.new [(nv 0),(nv 0),(.slice none 0 0)] 29) [],yN 5 (.st 3) [oT 1,oT 6]]) (.seq (.reg [yS 0 7 (.bsl [(nv 0),(nv 0),(nv 0)] 3 [(0,1),(1,1),(2,1)] 3) [oC (nv 1),oC (nv 0),oC (nv 1)],yS 1 8 (.bsl [(nv 0),(nv 0),(nv 0)] 3 [(0,1),(1,1),(2,1)] 3) [oC (nv 0),oC (nv 1),oC (nv 1)],yS 2 9 (.bsl [(.slice none 0 0),(.slice none 0 0)] 2 [(0,1),(1,1)] 31) [oT 7,oT 8],yS 3 10 (.bld [(nv 0),(nv 0),(.slice none 0 0)] [(0,1),(1,1),(2,1)]) [oC (nv 2),oC (nv 3),oT 9],yS 4 2 (.new [(nv 0),(nv 0),(.slice none 0 0)] 29) [],yN 5 (.st 3) [oT 2,oT 10]]) (.seq (.seq (.reg [yS 0 11 (.ld (some 3)) [oT 1],yS 1 12 .call [oF 16,oT 11],yS 2 13 (.bsl [(nv 0),(nv 0),(nv 0),(nv 0)] 4 [(0,1),(1,1),(2,1),(3,1)] 3) [oC (nv 1),oC (nv 0),oC (nv 0),oC (nv 1)],yS 3 14 (.bsl [(nv 0),(nv 0),(nv 0),(nv 0)] 4 [(0,1),(1,1),(2,1),(3,1)] 3) [oC (nv 0),oC (nv 1),oC (nv 1),oC (nv 0)],yS 4 15 (.bsl [(.slice none 0 0),(.slice none 0 0)] 2 [(0,1),(1,1)] 31) [oT 13,oT 14],yS 5 16 (.bld [(nv 0),(nv 0),(.slice none 0 0)] [(0,1),(1,1),(2,1)]) [oC (nv 2),oC (nv 4),oT 15],yS 6 17 .call [oF 36,oT 12,oT 16],yS 7 18 (.un .not) [oT 17],yS 8 19 .mov [oT 18],yG (some (19,false)) 9 (some 20) (.bsl [(nv 0),(nv 0),(nv 0)] 3 [(0,1),(1,1),(2,1)] 3) [oC (nv 1),oC (nv 0),oC (nv 0)],yG (some (19,false)) 10 (some 21) (.bsl [(.slice none 0 0)] 1 [(0,1)] 31) [oT 20],yG (some (19,false)) 11 (some 22) (.bld [(nv 0),(nv 0),(.slice none 0 0)] [(0,1),(1,1),(2,1)]) [oC (nv 2),oC (nv 3),oT 21],yG (some (19,false)) 12 (some 23) .call [oF 18,oT 22,oC (nv 0)],yG (some (19,false)) 13 (some 24) (.bld [(nv 0),(nv 0),(.slice none 0 0)] [(0,1),(1,1)]) [oC (nv 2),oC (nv 2)],yG (some (19,false)) 14 (some 25) .call [oF 36,oT 23,oT 24],yG (some (19,false)) 15 (some 26) (.un .not) [oT 25],yS 16 27 .pick [oT 19,oC (.bool true),oT 26],yS 17 28 .mov [oT 27],yG (some (28,false)) 18 (some 29) (.ld (some 3)) [oT 2],yG (some (28,false)) 19 (some 30) .call [oF 20,oT 29,oC (nv 0)],yG (some (28,false)) 20 (some 31) (.bsl [(nv 0),(nv 0)] 2 [(0,1),(1,1)] 3) [oC (nv 1),oC (nv 1)],yG (some (28,false)) 21 (some 32) (.bsl [(.slice none 0 0)] 1 [(0,1)] 31) [oT 31],yG (some (28,false)) 22 (some 33) (.bld [(nv 0),(nv 0),(.slice none 0 0)] [(0,1),(1,1),(2,1)]) [oC (nv 2),oC (nv 2),oT 32],yG (some (28,false)) 23 (some 34) .call [oF 36,oT 30,oT 33],yG (some (28,false)) 24 (some 35) (.un .not) [oT 34],yS 25 36 .pick [oT 28,oC (.bool true),oT 35]]) (.cond (oT 36) (.seq (.reg [yS 0 0 .mov [oC (.bool false)]]) .ret) .skip)) (.seq (.seq (.reg [yS 0 37 (.bsl [(nv 0),(nv 0)] 2 [(0,1),(1,1)] 3) [oC (nv 1),oC (nv 1)],yS 1 38 (.bsl [(.slice none 0 0)] 1 [(0,1)] 31) [oT 37],yS 2 39 (.bld [(nv 0),(nv 0),(.slice none 0 0)] [(0,1),(1,1),(2,1)]) [oC (nv 2),oC (nv 2),oT 38],yS 3 40 (.bsl [(nv 0),(nv 0)] 2 [(0,1),(1,1)] 3) [oC (nv 0),oC (nv 1)],yS 4 41 (.bsl [(.slice none 0 0)] 1 [(0,1)] 31) [oT 40],yS 5 42 (.bld [(nv 0),(nv 0),(.slice none 0 0)] [(0,1),(1,1),(2,1)]) [oC (nv 2),oC (nv 2),oT 41],yS 6 43 .call [oF 24,oT 39,oT 42],yS 7 44 (.bsl [(nv 0),(nv 0),(nv 0),(nv 0)] 4 [(0,1),(1,1),(2,1),(3,1)] 3) [oC (nv 1),oC (nv 1),oC (nv 1),oC (nv 0)],yS 8 45 (.bsl [(nv 0),(nv 0),(nv 0),(nv 0)] 4 [(0,1),(1,1),(2,1),(3,1)] 3) [oC (nv 0),oC (nv 0),oC (nv 0),oC (nv 1)],yS 9 46 (.bsl [(.slice none 0 0),(.slice none 0 0)] 2 [(0,1),(1,1)] 31) [oT 44,oT 45],yS 10 47 (.bld [(nv 0),(nv 0),(.slice none 0 0)] [(0,1),(1,1),(2,1)]) [oC (nv 2),oC (nv 4),oT 46],yS 11 48 .call [oF 36,oT 43,oT 47],yS 12 49 (.un .not) [oT 48],yS 13 50 .mov [oT 49],yG (some (50,false)) 14 (some 51) (.bsl [(nv 0),(nv 0)] 2 [(0,1),(1,1)] 3) [oC (nv 1),oC (nv 0)],yG (some (50,false)) 15 (some 52) (.bsl [(nv 0),(nv 0)] 2 [(0,1),(1,1)] 3) [oC (nv 0),oC (nv 1)],yG (some (50,false)) 16 (some 53) (.bsl [(.slice none 0 0),(.slice none 0 0)] 2 [(0,1),(1,1)] 31) [oT 51,oT 52],yG (some (50,false)) 17 (some 54) (.bld [(nv 0),(nv 0),(.slice none 0 0)] [(0,1),(1,1),(2,1)]) [oC (nv 2),oC (nv 2),oT 53],yG (some (50,false)) 18 (some 55) .call [oF 28,oT 54],yG (some (50,false)) 19 (some 56) (.bsl [(nv 0),(nv 0)] 2 [(0,1),(1,1)] 3) [oC (nv 1),oC (nv 1)],yG (some (50,false)) 20 (some 57) (.bsl [(.slice none 0 0)] 1 [(0,1)] 31) [oT 56],yG (some (50,false)) 21 (some 58) (.bld [(nv 0),(nv 0),(.slice none 0 0)] [(0,1),(1,1),(2,1)]) [oC (nv 2),oC (nv 2),oT 57],yG (some (50,false)) 22 (some 59) .call [oF 36,oT 55,oT 58],yG (some (50,false)) 23 (some 60) (.un .not) [oT 59],yS 24 61 .pick [oT 50,oC (.bool true),oT 60]]) (.cond (oT 61) (.seq (.reg [yS 0 0 .mov [oC (.bool false)]]) .ret) .skip)) (.seq (.seq (.reg [yS 0 62 (.bsl [(nv 0),(nv 0)] 2 [(0,1),(1,1)] 3) [oC (nv 1),oC (nv 2)],yS 1 63 (.bsl [(.slice none 0 0)] 1 [(0,1)] 31) [oT 62],yS 2 64 (.bld [(nv 0),(nv 0),(.slice none 0 0)] [(0,1),(1,1),(2,1)]) [oC (nv 4),oC (nv 2),oT 63],yS 3 65 (.ld (some 3)) [oT 2],yS 4 66 .call [oF 26,oT 64,oT 65],yS 5 67 (.bsl [(nv 0),(nv 0),(nv 0),(nv 0),(nv 0),(nv 0)] 6 [(0,1),(1,1),(2,1),(3,1),(4,1),(5,1)] 3) [oC (nv 1),oC (nv 0),oC (nv 1),oC (nv 0),oC (nv 1),oC (nv 1)],yS 6 68 (.bsl [(nv 0),(nv 0),(nv 0),(nv 0),(nv 0),(nv 0)] 6 [(0,1),(1,1),(2,1),(3,1),(4,1),(5,1)] 3) [oC (nv 0),oC (nv 1),oC (nv 1),oC (nv 1),oC (nv 1),oC (nv 0)],yS 7 69 (.bsl [(.slice none 0 0),(.slice none 0 0)] 2 [(0,1),(1,1)] 31) [oT 67,oT 68],yS 8 70 (.bld [(nv 0),(nv 0),(.slice none 0 0)] [(0,1),(1,1),(2,1)]) [oC (nv 2),oC (nv 6),oT 69],yS 9 71 .call [oF 36,oT 66,oT 70],yS 10 72 (.un .not) [oT 71],yS 11 73 .mov [oT 72],yG (some (73,false)) 12 (some 74) (.ld (some 3)) [oT 1],yG (some (73,false)) 13 (some 75) (.ld (some 3)) [oT 2],yG (some (73,false)) 14 (some 76) .call [oF 26,oT 74,oT 75],yG (some (73,false)) 15 (some 77) (.prt none 3) [oT 76],yG (some (73,false)) 16 (some 78) (.bin .neq 0) [oT 77,oC (nv 1)],yS 17 79 .pick [oT 73,oC (.bool true),oT 78],yS 18 80 .mov [oT 79],yG (some (80,false)) 19 (some 81) (.ld (some 3)) [oT 1],yG (some (80,false)) 20 (some 82) .call [oF 20,oT 81,oC (nv 3)],yG (some (80,false)) 21 (some 83) (.prt none 3) [oT 82],yG (some (80,false)) 22 (some 84) (.bin .neq 0) [oT 83,oC (nv 1)],yS 23 85 .pick [oT 80,oC (.bool true),oT 84],yS 24 86 .mov [oT 85],yG (some (86,false)) 25 (some 87) (.bld [(nv 0),(nv 0),(.slice none 0 0)] [(0,1),(1,1)]) [oC (nv 3),oC (nv 1)],yG (some (86,false)) 26 (some 88) .call [oF 28,oT 87],yG (some (86,false)) 27 (some 89) (.prt none 3) [oT 88],yG (some (86,false)) 28 (some 90) (.bin .neq 0) [oT 89,oC (nv 1)],yS 29 91 .pick [oT 86,oC (.bool true),oT 90]]) (.cond (oT 91) (.seq (.reg [yS 0 0 .mov [oC (.bool false)]]) .ret) .skip)) (.seq (.reg [yS 0 92 (.ld (some 3)) [oT 1],yS 1 93 (.bsl [(nv 0),(nv 0),(nv 0)] 3 [(0,1),(1,1),(2,1)] 3) [oC (nv 1),oC (nv 2),oC (nv 0)],yS 2 94 .call [oF 30,oT 92,oT 93],yS 3 95 (.bsl [(nv 0),(nv 0),(nv 0)] 3 [(0,1),(1,1),(2,1)] 3) [oC (nv 1),oC (nv 0),oC (nv 1)],yS 4 96 (.bsl [(nv 0),(nv 0),(nv 0)] 3 [(0,1),(1,1),(2,1)] 3) [oC (nv 0),oC (nv 1),oC (nv 0)],yS 5 97 (.bsl [(.slice none 0 0),(.slice none 0 0)] 2 [(0,1),(1,1)] 31) [oT 95,oT 96],yS 6 98 (.bld [(nv 0),(nv 0),(.slice none 0 0)] [(0,1),(1,1),(2,1)]) [oC (nv 2),oC (nv 3),oT 97],yS 7 99 .call [oF 36,oT 94,oT 98],yS 8 100 .mov [oT 99],yG (some (100,true)) 9 (some 101) (.ld (some 3)) [oT 1],yG (some (100,true)) 10 (some 102) (.bsl [(nv 0),(nv 0)] 2 [(0,1),(1,1)] 3) [oC (nv 0),oC (nv 1)],yG (some (100,true)) 11 (some 103) .call [oF 30,oT 101,oT 102],yG (some (100,true)) 12 (some 104) (.prt none 3) [oT 103],yG (some (100,true)) 13 (some 105) (.bin .neq 0) [oT 104,oC (nv 0)],yS 14 106 .pick [oT 100,oT 105,oC (.bool false)],yS 15 107 .mov [oT 106],yG (some (107,true)) 16 (some 108) (.bld [(nv 0),(nv 0),(.slice none 0 0)] [(0,1),(1,1)]) [oC (nv 2),oC (nv 24)],yG (some (107,true)) 17 (some 109) .call [oF 16,oT 108],yG (some (107,true)) 18 (some 110) (.prt none 3) [oT 109],yG (some (107,true)) 19 (some 111) (.bin .eql 0) [oT 110,oC (nv 2)],yS 20 112 .pick [oT 107,oT 111,oC (.bool false)],yS 21 113 .mov [oT 112],yG (some (113,true)) 22 (some 114) (.bsl [(nv 0)] 1 [(0,1)] 3) [oC (nv 1)],yG (some (113,true)) 23 (some 115) (.bsl [(.slice none 0 0)] 1 [(0,1)] 31) [oT 114],yG (some (113,true)) 24 (some 116) (.bld [(nv 0),(nv 0),(.slice none 0 0)] [(0,1),(1,1),(2,1)]) [oC (nv 2),oC (nv 1),oT 115],yG (some (113,true)) 25 (some 117) (.bld [(nv 0),(nv 0),(.slice none 0 0)] [(0,1),(1,1)]) [oC (nv 2),oC (nv 1)],yG (some (113,true)) 26 (some 118) .call [oF 22,oT 116,oT 117],yG (some (113,true)) 27 (some 119) (.bsl [(nv 0),(nv 0)] 2 [(0,1),(1,1)] 3) [oC (nv 1),oC (nv 0)],yG (some (113,true)) 28 (some 120) (.bsl [(.slice none 0 0)] 1 [(0,1)] 31) [oT 119],yG (some (113,true)) 29 (some 121) (.bld [(nv 0),(nv 0),(.slice none 0 0)] [(0,1),(1,1),(2,1)]) [oC (nv 2),oC (nv 2),oT 120],yG (some (113,true)) 30 (some 122) .call [oF 36,oT 118,oT 121],yS 31 123 .pick [oT 113,oT 122,oC (.bool false)],yS 32 0 .mov [oT 123]]) .ret)))))))
theorem xd11_ok:compF Tryz.prog 11=some ⟨124,[(.tmp 0)],xd11.er⟩:=by kernel_rfl
def xd12:XD:=(.seq (.reg [yS 0 1 (.box 24) [oT 0],yS 1 2 (.new [(nv 0),(nv 0),(.slice none 0 0)] 29) []]) (.seq (.reg [yS 0 11 (.bsl [(nv 0),(nv 0),(nv 0),(nv 0),(nv 0),(nv 0)] 6 [(0,1),(1,1),(2,1),(3,1),(4,1),(5,1)] 3) [oC (nv 2),oC (nv 3),oC (nv 4),oC (nv 5),oC (nv 7),oC (nv 8)],yS 1 12 (.fld 0) [oT 1],yS 2 13 (.ld none) [oT 12],yS 3 14 (.bin .rem 0) [oT 13,oC (.int .u8 6)],yS 4 15 (.ixS 1) [oT 11,oT 14],yS 5 16 (.ld none) [oT 15],yS 6 17 (.fld 1) [oT 1],yS 7 18 (.ld none) [oT 17],yS 8 19 (.bin .rem 0) [oT 18,oC (.int .u8 10)],yS 9 20 (.conv .i64) [oT 19],yS 10 21 (.bin .add 0) [oC (nv 1),oT 20],yS 11 3 .mov [oT 16],yS 12 4 .mov [oT 21]]) (.seq (.reg [yS 0 22 (.bsl [(nv 0),(nv 0),(nv 0),(nv 0),(nv 0),(nv 0)] 6 [(0,1),(1,1),(2,1),(3,1),(4,1),(5,1)] 3) [oC (nv 8),oC (nv 5),oC (nv 4),oC (nv 3),oC (nv 2),oC (nv 2)],yS 1 23 (.fld 0) [oT 1],yS 2 24 (.ld none) [oT 23],yS 3 25 (.bin .rem 0) [oT 24,oC (.int .u8 6)],yS 4 26 (.ixS 1) [oT 22,oT 25],yS 5 27 (.ld none) [oT 26],yS 6 5 .mov [oT 27]]) (.seq (.reg [yS 0 28 (.fld 2) [oT 1],yS 1 29 (.ld none) [oT 28],yS 2 30 (.conv .i64) [oT 29],yS 3 31 .mov [oT 5],yS 4 32 (.bin .add 0) [oT 31,oC (nv 1)],yS 5 33 (.bin .rem 0) [oT 30,oT 32],yS 6 6 .mov [oT 33]]) (.seq (.reg [yS 0 34 (.bsl [] 0 [] 31) [],yS 1 7 .mov [oT 34]]) (.seq (.seq (.reg [yS 0 8 .mov [oC (nv 0)]]) (.block 0 (.loop [7,8] 1208925819614594814969728 (.seq (.seq (.reg [yS 0 35 .mov [oT 8],yS 1 36 .mov [oT 6],yS 2 37 (.bin .lss 0) [oT 35,oT 36]]) (.cond (oT 37) .skip (.exit 0))) (.seq (.block 1 (.seq (.reg [yS 0 40 .mov [oT 4],yS 1 41 .call [oF 60,oT 40],yS 2 9 .mov [oT 41]]) (.seq (.seq (.reg [yS 0 10 .mov [oC (nv 0)]]) (.block 2 (.loop [10] 1180591616319364793344 (.seq (.seq (.reg [yS 0 42 .mov [oT 10],yS 1 43 .mov [oT 4],yS 2 44 (.bin .lss 0) [oT 42,oT 43]]) (.cond (oT 44) .skip (.exit 2))) (.join [] 1180591479979922948096 (.block 3 (.seq (.reg [yS 0 47 (.fld 3) [oT 1],yS 1 48 (.ld none) [oT 47],yS 2 49 .lenS [oT 48],yS 3 50 (.bin .gtr 0) [oT 49,oC (nv 0)]]) (.cond (oT 50) (.reg [yS 0 51 .mov [oT 9],yS 1 52 .mov [oT 10],yS 2 53 (.fld 3) [oT 1],yS 3 54 (.ld none) [oT 53],yS 4 55 .mov [oT 8],yS 5 56 .mov [oT 4],yS 6 57 (.bin .mul 0) [oT 55,oT 56],yS 7 58 .mov [oT 10],yS 8 59 (.bin .add 0) [oT 57,oT 58],yS 9 60 (.fld 3) [oT 1],yS 10 61 (.ld none) [oT 60],yS 11 62 .lenS [oT 61],yS 12 63 (.bin .rem 0) [oT 59,oT 62],yS 13 64 (.ixS 1) [oT 54,oT 63],yS 14 65 (.ld none) [oT 64],yS 15 66 (.conv .i64) [oT 65],yS 16 67 .mov [oT 3],yS 17 68 (.bin .rem 0) [oT 66,oT 67],yS 18 69 (.ixS 1) [oT 51,oT 52],yN 19 (.st 1) [oT 69,oT 68]]) .skip))) (.reg [yS 0 45 .mov [oT 10],yS 1 46 (.bin .add 0) [oT 45,oC (nv 1)],yS 2 10 .mov [oT 46]])))))) (.join [] 74377272105196912115712 (.seq (.reg [yS 0 70 .mov [oT 8],yS 1 71 .mov [oT 4],yS 2 72 (.bin .lss 0) [oT 70,oT 71]]) (.cond (oT 72) (.reg [yS 0 73 .mov [oT 9],yS 1 74 .mov [oT 8],yS 2 75 (.ixS 1) [oT 73,oT 74],yN 3 (.st 1) [oT 75,oC (nv 1)]]) .skip)) (.reg [yS 0 76 .mov [oT 7],yS 1 77 .mov [oT 9],yS 2 78 (.bsl [(.slice none 0 0)] 1 [(0,1)] 31) [oT 77],yS 3 79 (.app 31 1 24) [oT 76,oT 78],yS 4 7 .mov [oT 79]]))))) (.reg [yS 0 38 .mov [oT 8],yS 1 39 (.bin .add 0) [oT 38,oC (nv 1)],yS 2 8 .mov [oT 39]])))))) (.seq (.reg [yS 0 80 .mov [oT 3],yS 1 81 .mov [oT 4],yS 2 82 .mov [oT 3],yS 3 83 .call [oF 62,oT 82],yS 4 84 .mov [oT 4],yS 5 85 .mov [oT 7],yS 6 86 .call [oF 61,oT 83,oT 84,oT 85],yS 7 87 (.bld [(nv 0),(nv 0),(.slice none 0 0)] [(0,1),(1,1),(2,1)]) [oT 80,oT 81,oT 86],yN 8 (.st 3) [oT 2,oT 87]]) .ret)))))))
theorem xd12_ok:compF Tryz.prog 12=some ⟨88,[(.cell 2 (some 3))],xd12.er⟩:=by kernel_rfl
def g12 (x0:Value) (H:AH) (R:Value→AH→Prop):Prop:=
 @letH (H++[.cells (cellsL x0) 24 none false]) ⟨fun H1 =>
 @letH (H1++[.cells [(nv 0),(nv 0),(.slice none 0 0)] 29 none false]) ⟨fun H2 =>
 @bindL (xfill [(nv 0),(nv 0),(nv 0),(nv 0),(nv 0),(nv 0)] [(0,1),(1,1),(2,1),(3,1),(4,1),(5,1)] [(nv 2),(nv 3),(nv 4),(nv 5),(nv 7),(nv 8)]) ⟨fun cv11=>@letH (H2++[.cells cv11 3 none false]) ⟨fun H3 =>
 @bindO (xpure (.fld 0) [(.pointer (some ⟨H.length,0,none⟩))]) ⟨fun v12 =>
 @bindO (xload none H3 [v12]) ⟨fun v13 =>
 @bindO (xbin .rem 0 v13 (.int .u8 6)) ⟨fun v14 =>
 @bindO (xpure (.ixS 1) [(.slice (some ⟨H2.length,0,none⟩) 6 6),v14]) ⟨fun v15 =>
 @bindO (xload none H3 [v15]) ⟨fun v16 =>
 @bindO (xpure (.fld 1) [(.pointer (some ⟨H.length,0,none⟩))]) ⟨fun v17 =>
 @bindO (xload none H3 [v17]) ⟨fun v18 =>
 @bindO (xbin .rem 0 v18 (.int .u8 10)) ⟨fun v19 =>
 @bindO (xpure (.conv .i64) [v19]) ⟨fun v20 =>
 @bindO (xbin .add 0 (nv 1) v20) ⟨fun v21 =>
 @bindL (xfill [(nv 0),(nv 0),(nv 0),(nv 0),(nv 0),(nv 0)] [(0,1),(1,1),(2,1),(3,1),(4,1),(5,1)] [(nv 8),(nv 5),(nv 4),(nv 3),(nv 2),(nv 2)]) ⟨fun cv22=>@letH (H3++[.cells cv22 3 none false]) ⟨fun H4 =>
 @bindO (xpure (.fld 0) [(.pointer (some ⟨H.length,0,none⟩))]) ⟨fun v23 =>
 @bindO (xload none H4 [v23]) ⟨fun v24 =>
 @bindO (xbin .rem 0 v24 (.int .u8 6)) ⟨fun v25 =>
 @bindO (xpure (.ixS 1) [(.slice (some ⟨H3.length,0,none⟩) 6 6),v25]) ⟨fun v26 =>
 @bindO (xload none H4 [v26]) ⟨fun v27 =>
 @bindO (xpure (.fld 2) [(.pointer (some ⟨H.length,0,none⟩))]) ⟨fun v28 =>
 @bindO (xload none H4 [v28]) ⟨fun v29 =>
 @bindO (xpure (.conv .i64) [v29]) ⟨fun v30 =>
 @bindO (xbin .add 0 v27 (nv 1)) ⟨fun v32 =>
 @bindO (xbin .rem 0 v30 v32) ⟨fun v33 =>
 @bindL (xfill [] [] []) ⟨fun cv34=>@letH (H4++[.cells cv34 31 none false]) ⟨fun H5 =>
 @loopV2 (.slice (some ⟨H4.length,0,none⟩) 0 0) (nv 0) H5 ⟨fun rows7 i8 H6 K1 =>
 @bindO (xbin .lss 0 i8 v33) ⟨fun v37 =>
 @condK v37 ⟨fun q=>if q=true then @cG 60 [v21] H6 ⟨fun v41 H7 =>
 @loopV1 (nv 0) H7 ⟨fun j10 H8 K2 =>
 @bindO (xbin .lss 0 j10 v21) ⟨fun v44 =>
 @condK v44 ⟨fun q=>if q=true then @joinV0 (fun J3=>@bindO (xpure (.fld 3) [(.pointer (some ⟨H.length,0,none⟩))]) ⟨fun v47 =>
 @bindO (xload none H8 [v47]) ⟨fun v48 =>
 @bindO (xpure .lenS [v48]) ⟨fun v49 =>
 @bindO (xbin .gtr 0 v49 (nv 0)) ⟨fun v50 =>
 @condK v50 ⟨fun q=>if q=true then @bindO (xpure (.fld 3) [(.pointer (some ⟨H.length,0,none⟩))]) ⟨fun v53 =>
 @bindO (xload none H8 [v53]) ⟨fun v54 =>
 @bindO (xbin .mul 0 i8 v21) ⟨fun v57 =>
 @bindO (xbin .add 0 v57 j10) ⟨fun v59 =>
 @bindO (xpure (.fld 3) [(.pointer (some ⟨H.length,0,none⟩))]) ⟨fun v60 =>
 @bindO (xload none H8 [v60]) ⟨fun v61 =>
 @bindO (xpure .lenS [v61]) ⟨fun v62 =>
 @bindO (xbin .rem 0 v59 v62) ⟨fun v63 =>
 @bindO (xpure (.ixS 1) [v54,v63]) ⟨fun v64 =>
 @bindO (xload none H8 [v64]) ⟨fun v65 =>
 @bindO (xpure (.conv .i64) [v65]) ⟨fun v66 =>
 @bindO (xbin .rem 0 v66 v16) ⟨fun v68 =>
 @bindO (xpure (.ixS 1) [v41,j10]) ⟨fun v69 =>
 @bindP (xact (.st 1) H8 [v69,v68]) ⟨fun _v H9 =>
 J3 H9⟩⟩⟩⟩⟩⟩⟩⟩⟩⟩⟩⟩⟩⟩ else
 J3 H8⟩⟩⟩⟩⟩) ⟨fun H10 =>
 @bindO (xbin .add 0 j10 (nv 1)) ⟨fun v46 =>
 K2 v46 H10⟩⟩ else
 @joinV0 (fun J4=>@bindO (xbin .lss 0 i8 v21) ⟨fun v72 =>
 @condK v72 ⟨fun q=>if q=true then @bindO (xpure (.ixS 1) [v41,i8]) ⟨fun v75 =>
 @bindP (xact (.st 1) H8 [v75,(nv 1)]) ⟨fun _v H11 =>
 J4 H11⟩⟩ else
 J4 H8⟩⟩) ⟨fun H12 =>
 @bindL (xfill [(.slice none 0 0)] [(0,1)] [v41]) ⟨fun cv78=>@letH (H12++[.cells cv78 31 none false]) ⟨fun H13 =>
 @bindP (xact (.app 31 1 24) H13 [rows7,(.slice (some ⟨H12.length,0,none⟩) 1 1)]) ⟨fun v79 H14 =>
 @bindO (xbin .add 0 i8 (nv 1)) ⟨fun v39 =>
 K1 v79 v39 H14⟩⟩⟩⟩⟩⟩⟩⟩⟩ else
 @cG 62 [v16] H6 ⟨fun v83 H15 =>
 @cG 61 [v83,v21,rows7] H15 ⟨fun v86 H16 =>
 @bindL (xfill [(nv 0),(nv 0),(.slice none 0 0)] [(0,1),(1,1),(2,1)] [v16,v21,v86]) ⟨fun v87 =>
 @bindP (xact (.st 3) H16 [(.pointer (some ⟨H1.length,0,none⟩)),(.agg v87.toArray)]) ⟨fun _v H17 =>
 @bindO (xload (some 3) H17 [(.pointer (some ⟨H1.length,0,none⟩))]) ⟨fun r0=>R r0 H17⟩⟩⟩⟩⟩⟩⟩⟩⟩⟩⟩⟩⟩⟩⟩⟩⟩⟩⟩⟩⟩⟩⟩⟩⟩⟩⟩⟩⟩⟩⟩⟩⟩⟩⟩⟩
theorem g12_of {x0:Value} {H:AH} {R:Value→AH→Prop} (h:g12 x0 H R):FN Tryz.prog 12 [x0] H R:=
  FN.of_XD mixed xd12_ok (by kernel_rfl) (Nat.le_of_ble_eq_true rfl) (cast (by kernel_rfl) h)
def xd16:XD:=(.seq (.reg [yS 0 1 (.box 29) [oT 0],yS 1 2 (.new [(nv 0),(nv 0),(.slice none 0 0),(nv 0)] 37) []]) (.seq (.reg [yS 0 6 (.ld (some 3)) [oT 1],yS 1 7 .call [oF 65,oT 6],yS 2 5 .mov [oT 7],yS 3 8 (.ext 0) [oT 5],yS 4 9 (.ext 1) [oT 5],yS 5 3 (.new [(nv 0),(nv 0),(.slice none 0 0)] 29) [],yN 6 (.st 3) [oT 3,oT 8],yS 7 4 .mov [oT 9]]) (.seq (.reg [yS 0 10 (.ld (some 3)) [oT 3],yS 1 11 .mov [oT 4],yS 2 12 (.bld [(nv 0),(nv 0),(.slice none 0 0),(nv 0)] [(0,3),(3,1)]) [oT 10,oT 11],yN 3 (.st 4) [oT 2,oT 12]]) .ret)))
theorem xd16_ok:compF Tryz.prog 16=some ⟨13,[(.cell 2 (some 4))],xd16.er⟩:=by kernel_rfl
def xd18:XD:=(.seq (.reg [yS 0 2 (.box 29) [oT 0],yS 1 4 (.new [(nv 0),(nv 0),(.slice none 0 0),(nv 0)] 37) []]) (.seq (.reg [yS 0 8 (.ld (some 3)) [oT 2],yS 1 9 .mov [oT 1],yS 2 10 .call [oF 68,oT 8,oT 9],yS 3 7 .mov [oT 10],yS 4 11 (.ext 0) [oT 7],yS 5 12 (.ext 1) [oT 7],yS 6 5 (.new [(nv 0),(nv 0),(.slice none 0 0)] 29) [],yN 7 (.st 3) [oT 5,oT 11],yS 8 6 .mov [oT 12]]) (.seq (.reg [yS 0 13 (.ld (some 3)) [oT 5],yS 1 14 .mov [oT 6],yS 2 15 (.bld [(nv 0),(nv 0),(.slice none 0 0),(nv 0)] [(0,3),(3,1)]) [oT 13,oT 14],yN 3 (.st 4) [oT 4,oT 15]]) .ret)))
theorem xd18_ok:compF Tryz.prog 18=some ⟨16,[(.cell 4 (some 4))],xd18.er⟩:=by kernel_rfl
def xd20:XD:=(.seq (.reg [yS 0 2 (.box 29) [oT 0],yS 1 4 (.new [(nv 0),(nv 0),(.slice none 0 0),(nv 0)] 37) []]) (.seq (.reg [yS 0 8 (.ld (some 3)) [oT 2],yS 1 9 .mov [oT 1],yS 2 10 .call [oF 70,oT 8,oT 9],yS 3 7 .mov [oT 10],yS 4 11 (.ext 0) [oT 7],yS 5 12 (.ext 1) [oT 7],yS 6 5 (.new [(nv 0),(nv 0),(.slice none 0 0)] 29) [],yN 7 (.st 3) [oT 5,oT 11],yS 8 6 .mov [oT 12]]) (.seq (.reg [yS 0 13 (.ld (some 3)) [oT 5],yS 1 14 .mov [oT 6],yS 2 15 (.bld [(nv 0),(nv 0),(.slice none 0 0),(nv 0)] [(0,3),(3,1)]) [oT 13,oT 14],yN 3 (.st 4) [oT 4,oT 15]]) .ret)))
theorem xd20_ok:compF Tryz.prog 20=some ⟨16,[(.cell 4 (some 4))],xd20.er⟩:=by kernel_rfl
def xd22:XD:=(.seq (.reg [yS 0 2 (.box 29) [oT 0],yS 1 3 (.box 29) [oT 1],yS 2 4 (.new [(nv 0),(nv 0),(.slice none 0 0),(nv 0)] 37) []]) (.seq (.reg [yS 0 8 (.ld (some 3)) [oT 2],yS 1 9 (.ld (some 3)) [oT 3],yS 2 10 .call [oF 71,oT 8,oT 9],yS 3 7 .mov [oT 10],yS 4 11 (.ext 0) [oT 7],yS 5 12 (.ext 1) [oT 7],yS 6 5 (.new [(nv 0),(nv 0),(.slice none 0 0)] 29) [],yN 7 (.st 3) [oT 5,oT 11],yS 8 6 .mov [oT 12]]) (.seq (.reg [yS 0 13 (.ld (some 3)) [oT 5],yS 1 14 .mov [oT 6],yS 2 15 (.bld [(nv 0),(nv 0),(.slice none 0 0),(nv 0)] [(0,3),(3,1)]) [oT 13,oT 14],yN 3 (.st 4) [oT 4,oT 15]]) .ret)))
theorem xd22_ok:compF Tryz.prog 22=some ⟨16,[(.cell 4 (some 4))],xd22.er⟩:=by kernel_rfl
def xd24:XD:=(.seq (.reg [yS 0 2 (.box 29) [oT 0],yS 1 3 (.box 29) [oT 1],yS 2 4 (.new [(nv 0),(nv 0),(.slice none 0 0),(nv 0)] 37) []]) (.seq (.reg [yS 0 8 (.ld (some 3)) [oT 2],yS 1 9 (.ld (some 3)) [oT 3],yS 2 10 .call [oF 72,oT 8,oT 9],yS 3 7 .mov [oT 10],yS 4 11 (.ext 0) [oT 7],yS 5 12 (.ext 1) [oT 7],yS 6 5 (.new [(nv 0),(nv 0),(.slice none 0 0)] 29) [],yN 7 (.st 3) [oT 5,oT 11],yS 8 6 .mov [oT 12]]) (.seq (.reg [yS 0 13 (.ld (some 3)) [oT 5],yS 1 14 .mov [oT 6],yS 2 15 (.bld [(nv 0),(nv 0),(.slice none 0 0),(nv 0)] [(0,3),(3,1)]) [oT 13,oT 14],yN 3 (.st 4) [oT 4,oT 15]]) .ret)))
theorem xd24_ok:compF Tryz.prog 24=some ⟨16,[(.cell 4 (some 4))],xd24.er⟩:=by kernel_rfl
def xd26:XD:=(.seq (.reg [yS 0 2 (.box 29) [oT 0],yS 1 3 (.box 29) [oT 1],yS 2 4 (.new [(nv 0),(nv 0),(.slice none 0 0),(nv 0)] 37) []]) (.seq (.reg [yS 0 8 (.ld (some 3)) [oT 2],yS 1 9 (.ld (some 3)) [oT 3],yS 2 10 .call [oF 73,oT 8,oT 9],yS 3 7 .mov [oT 10],yS 4 11 (.ext 0) [oT 7],yS 5 12 (.ext 1) [oT 7],yS 6 5 (.new [(nv 0),(nv 0),(.slice none 0 0)] 29) [],yN 7 (.st 3) [oT 5,oT 11],yS 8 6 .mov [oT 12]]) (.seq (.reg [yS 0 13 (.ld (some 3)) [oT 5],yS 1 14 .mov [oT 6],yS 2 15 (.bld [(nv 0),(nv 0),(.slice none 0 0),(nv 0)] [(0,3),(3,1)]) [oT 13,oT 14],yN 3 (.st 4) [oT 4,oT 15]]) .ret)))
theorem xd26_ok:compF Tryz.prog 26=some ⟨16,[(.cell 4 (some 4))],xd26.er⟩:=by kernel_rfl
def g26 (outer0 inner1:Value) (H:AH) (R:Value→AH→Prop):Prop:=
 @letH (H++[.cells (cellsL outer0) 29 none false]) ⟨fun H1 =>
 @letH (H1++[.cells (cellsL inner1) 29 none false]) ⟨fun H2 =>
 @letH (H2++[.cells [(nv 0),(nv 0),(.slice none 0 0),(nv 0)] 37 none false]) ⟨fun H3 =>
 @bindO (xload (some 3) H3 [(.pointer (some ⟨H.length,0,none⟩))]) ⟨fun v8 =>
 @bindO (xload (some 3) H3 [(.pointer (some ⟨H1.length,0,none⟩))]) ⟨fun v9 =>
 @cG 73 [v8,v9] H3 ⟨fun v10 H4 =>
 @bindO (xpure (.ext 0) [v10]) ⟨fun v11 =>
 @bindO (xpure (.ext 1) [v10]) ⟨fun v12 =>
 @letH (H4++[.cells [(nv 0),(nv 0),(.slice none 0 0)] 29 none false]) ⟨fun H5 =>
 @bindP (xact (.st 3) H5 [(.pointer (some ⟨H4.length,0,none⟩)),v11]) ⟨fun _v H6 =>
 @bindO (xload (some 3) H6 [(.pointer (some ⟨H4.length,0,none⟩))]) ⟨fun v13 =>
 @bindL (xfill [(nv 0),(nv 0),(.slice none 0 0),(nv 0)] [(0,3),(3,1)] [v13,v12]) ⟨fun v15 =>
 @bindP (xact (.st 4) H6 [(.pointer (some ⟨H2.length,0,none⟩)),(.agg v15.toArray)]) ⟨fun _v H7 =>
 @bindO (xload (some 4) H7 [(.pointer (some ⟨H2.length,0,none⟩))]) ⟨fun r0=>R r0 H7⟩⟩⟩⟩⟩⟩⟩⟩⟩⟩⟩⟩⟩⟩
theorem g26_of {outer0 inner1:Value} {H:AH} {R:Value→AH→Prop} (h:g26 outer0 inner1 H R):FN Tryz.prog 26 [outer0,inner1] H R:=
  FN.of_XD mixed xd26_ok (by kernel_rfl) (Nat.le_of_ble_eq_true rfl) (cast (by kernel_rfl) h)
def xd28:XD:=(.seq (.reg [yS 0 1 (.box 29) [oT 0],yS 1 2 (.new [(nv 0),(nv 0),(.slice none 0 0),(nv 0)] 37) []]) (.seq (.reg [yS 0 6 (.ld (some 3)) [oT 1],yS 1 7 .call [oF 75,oT 6],yS 2 5 .mov [oT 7],yS 3 8 (.ext 0) [oT 5],yS 4 9 (.ext 1) [oT 5],yS 5 3 (.new [(nv 0),(nv 0),(.slice none 0 0)] 29) [],yN 6 (.st 3) [oT 3,oT 8],yS 7 4 .mov [oT 9]]) (.seq (.reg [yS 0 10 (.ld (some 3)) [oT 3],yS 1 11 .mov [oT 4],yS 2 12 (.bld [(nv 0),(nv 0),(.slice none 0 0),(nv 0)] [(0,3),(3,1)]) [oT 10,oT 11],yN 3 (.st 4) [oT 2,oT 12]]) .ret)))
theorem xd28_ok:compF Tryz.prog 28=some ⟨13,[(.cell 2 (some 4))],xd28.er⟩:=by kernel_rfl
def xd30:XD:=(.seq (.reg [yS 0 2 (.box 29) [oT 0],yS 1 4 (.new [(nv 0),(nv 0),(.slice none 0 0),(nv 0)] 37) []]) (.seq (.reg [yS 0 8 (.ld (some 3)) [oT 2],yS 1 9 .mov [oT 1],yS 2 10 .call [oF 76,oT 8,oT 9],yS 3 7 .mov [oT 10],yS 4 11 (.ext 0) [oT 7],yS 5 12 (.ext 1) [oT 7],yS 6 5 (.new [(nv 0),(nv 0),(.slice none 0 0)] 29) [],yN 7 (.st 3) [oT 5,oT 11],yS 8 6 .mov [oT 12]]) (.seq (.reg [yS 0 13 (.ld (some 3)) [oT 5],yS 1 14 .mov [oT 6],yS 2 15 (.bld [(nv 0),(nv 0),(.slice none 0 0),(nv 0)] [(0,3),(3,1)]) [oT 13,oT 14],yN 3 (.st 4) [oT 4,oT 15]]) .ret)))
theorem xd30_ok:compF Tryz.prog 30=some ⟨16,[(.cell 4 (some 4))],xd30.er⟩:=by kernel_rfl
def xd32:XD:=(.seq (.reg [yS 0 1 (.box 24) [oT 0],yS 1 2 (.new [(nv 0),(nv 0),(.slice none 0 0)] 29) []]) (.seq (.reg [yS 0 3 (.fld 0) [oT 1],yN 1 (.st 1) [oT 3,oC (.int .u8 2)]]) (.seq (.reg [yS 0 4 (.fld 1) [oT 1],yS 1 5 (.ld none) [oT 4],yS 2 6 (.bin .rem 0) [oT 5,oC (.int .u8 4)],yS 3 7 (.fld 1) [oT 1],yN 4 (.st 1) [oT 7,oT 6]]) (.seq (.reg [yS 0 8 (.ld (some 4)) [oT 1],yS 1 9 .call [oF 12,oT 8],yN 2 (.st 3) [oT 2,oT 9]]) .ret))))
theorem xd32_ok:compF Tryz.prog 32=some ⟨10,[(.cell 2 (some 3))],xd32.er⟩:=by kernel_rfl
def g32 (x0:Value) (H:AH) (R:Value→AH→Prop):Prop:=
 @letH (H++[.cells (cellsL x0) 24 none false]) ⟨fun H1 =>
 @letH (H1++[.cells [(nv 0),(nv 0),(.slice none 0 0)] 29 none false]) ⟨fun H2 =>
 @bindO (xpure (.fld 0) [(.pointer (some ⟨H.length,0,none⟩))]) ⟨fun v3 =>
 @bindP (xact (.st 1) H2 [v3,(.int .u8 2)]) ⟨fun _v H3 =>
 @bindO (xpure (.fld 1) [(.pointer (some ⟨H.length,0,none⟩))]) ⟨fun v4 =>
 @bindO (xload none H3 [v4]) ⟨fun v5 =>
 @bindO (xbin .rem 0 v5 (.int .u8 4)) ⟨fun v6 =>
 @bindO (xpure (.fld 1) [(.pointer (some ⟨H.length,0,none⟩))]) ⟨fun v7 =>
 @bindP (xact (.st 1) H3 [v7,v6]) ⟨fun _v H4 =>
 @bindO (xload (some 4) H4 [(.pointer (some ⟨H.length,0,none⟩))]) ⟨fun v8 =>
 @cG 12 [v8] H4 ⟨fun v9 H5 =>
 @bindP (xact (.st 3) H5 [(.pointer (some ⟨H1.length,0,none⟩)),v9]) ⟨fun _v H6 =>
 @bindO (xload (some 3) H6 [(.pointer (some ⟨H1.length,0,none⟩))]) ⟨fun r0=>R r0 H6⟩⟩⟩⟩⟩⟩⟩⟩⟩⟩⟩⟩⟩
theorem g32_of {x0:Value} {H:AH} {R:Value→AH→Prop} (h:g32 x0 H R):FN Tryz.prog 32 [x0] H R:=
  FN.of_XD mixed xd32_ok (by kernel_rfl) (Nat.le_of_ble_eq_true rfl) (cast (by kernel_rfl) h)
def xd33:XD:=(.seq (.reg [yS 0 1 (.box 24) [oT 0],yS 1 2 (.new [(nv 0),(nv 0),(.slice none 0 0)] 29) []]) (.seq (.reg [yS 0 7 (.fld 1) [oT 1],yS 1 8 (.ld none) [oT 7],yS 2 9 (.conv .i64) [oT 8],yS 3 10 (.bin .rem 0) [oT 9,oC (nv 4)],yS 4 11 (.bin .add 0) [oC (nv 2),oT 10],yS 5 3 .mov [oT 11]]) (.seq (.reg [yS 0 12 .mov [oT 3],yS 1 13 (.fld 3) [oT 1],yS 2 14 (.ld none) [oT 13],yS 3 15 .call [oF 79,oC (nv 2),oT 12,oT 14],yS 4 4 .mov [oT 15]]) (.seq (.reg [yS 0 16 .mov [oT 3],yS 1 17 .call [oF 60,oT 16],yS 2 5 .mov [oT 17]]) (.seq (.reg [yS 0 18 .mov [oT 4],yS 1 19 (.ixS 1) [oT 18,oC (nv 0)],yN 2 (.st 1) [oT 19,oC (nv 1)]]) (.seq (.reg [yS 0 20 .mov [oT 5],yS 1 21 (.fld 2) [oT 1],yS 2 22 (.ld none) [oT 21],yS 3 23 (.conv .i64) [oT 22],yS 4 24 .mov [oT 3],yS 5 25 (.bin .sub 0) [oT 24,oC (nv 1)],yS 6 26 (.bin .rem 0) [oT 23,oT 25],yS 7 27 (.bin .add 0) [oC (nv 1),oT 26],yS 8 28 (.ixS 1) [oT 20,oT 27],yN 9 (.st 1) [oT 28,oC (nv 1)]]) (.join [] 17591649173504 (.seq (.reg [yS 0 29 (.fld 3) [oT 1],yS 1 30 (.ld none) [oT 29],yS 2 31 .lenS [oT 30],yS 3 32 (.bin .gtr 0) [oT 31,oC (nv 0)]]) (.cond (oT 32) (.reg [yS 0 33 .mov [oT 5],yS 1 34 .mov [oT 3],yS 2 35 (.bin .sub 0) [oT 34,oC (nv 1)],yS 3 36 (.fld 3) [oT 1],yS 4 37 (.ld none) [oT 36],yS 5 38 (.ixS 1) [oT 37,oC (nv 0)],yS 6 39 (.ld none) [oT 38],yS 7 40 (.conv .i64) [oT 39],yS 8 41 (.bin .quo 0) [oT 40,oC (nv 2)],yS 9 42 (.bin .rem 0) [oT 41,oC (nv 2)],yS 10 43 (.ixS 1) [oT 33,oT 35],yN 11 (.st 1) [oT 43,oT 42]]) .skip)) (.seq (.reg [yS 0 44 .mov [oT 3],yS 1 45 .mov [oT 4],yS 2 46 .mov [oT 5],yS 3 47 (.bsl [(.slice none 0 0),(.slice none 0 0)] 2 [(0,1),(1,1)] 31) [oT 45,oT 46],yS 4 48 .call [oF 67,oC (nv 2),oT 44,oT 47],yS 5 49 (.prt (some 3) 0) [oT 48],yS 6 6 (.new [(nv 0),(nv 0),(.slice none 0 0)] 29) [],yN 7 (.st 3) [oT 6,oT 49]]) (.join [] 18445618173802709024 (.seq (.reg [yS 0 50 (.fld 2) [oT 6],yS 1 51 (.ld none) [oT 50],yS 2 52 .lenS [oT 51],yS 3 53 (.bin .lss 0) [oT 52,oC (nv 2)]]) (.cond (oT 53) (.seq (.reg [yS 0 54 .mov [oT 3],yS 1 55 .call [oF 60,oT 54],yS 2 5 .mov [oT 55]]) (.seq (.reg [yS 0 56 .mov [oT 5],yS 1 57 (.ixS 1) [oT 56,oC (nv 1)],yN 2 (.st 1) [oT 57,oC (nv 1)]]) (.reg [yS 0 58 .mov [oT 3],yS 1 59 .mov [oT 4],yS 2 60 .mov [oT 5],yS 3 61 (.bsl [(.slice none 0 0),(.slice none 0 0)] 2 [(0,1),(1,1)] 31) [oT 59,oT 60],yS 4 62 .call [oF 67,oC (nv 2),oT 58,oT 61],yS 5 63 (.prt (some 3) 0) [oT 62],yN 6 (.st 3) [oT 6,oT 63]]))) .skip)) (.seq (.reg [yS 0 64 (.ld (some 3)) [oT 6],yN 1 (.st 3) [oT 2,oT 64]]) .ret))))))))))
theorem xd33_ok:compF Tryz.prog 33=some ⟨65,[(.cell 2 (some 3))],xd33.er⟩:=by kernel_rfl
def g33 (x0:Value) (H:AH) (R:Value→AH→Prop):Prop:=
 @letH (H++[.cells (cellsL x0) 24 none false]) ⟨fun H1 =>
 @letH (H1++[.cells [(nv 0),(nv 0),(.slice none 0 0)] 29 none false]) ⟨fun H2 =>
 @bindO (xpure (.fld 1) [(.pointer (some ⟨H.length,0,none⟩))]) ⟨fun v7 =>
 @bindO (xload none H2 [v7]) ⟨fun v8 =>
 @bindO (xpure (.conv .i64) [v8]) ⟨fun v9 =>
 @bindO (xbin .rem 0 v9 (nv 4)) ⟨fun v10 =>
 @bindO (xbin .add 0 (nv 2) v10) ⟨fun v11 =>
 @bindO (xpure (.fld 3) [(.pointer (some ⟨H.length,0,none⟩))]) ⟨fun v13 =>
 @bindO (xload none H2 [v13]) ⟨fun v14 =>
 @cG 79 [(nv 2),v11,v14] H2 ⟨fun v15 H3 =>
 @cG 60 [v11] H3 ⟨fun v17 H4 =>
 @bindO (xpure (.ixS 1) [v15,(nv 0)]) ⟨fun v19 =>
 @bindP (xact (.st 1) H4 [v19,(nv 1)]) ⟨fun _v H5 =>
 @bindO (xpure (.fld 2) [(.pointer (some ⟨H.length,0,none⟩))]) ⟨fun v21 =>
 @bindO (xload none H5 [v21]) ⟨fun v22 =>
 @bindO (xpure (.conv .i64) [v22]) ⟨fun v23 =>
 @bindO (xbin .sub 0 v11 (nv 1)) ⟨fun v25 =>
 @bindO (xbin .rem 0 v23 v25) ⟨fun v26 =>
 @bindO (xbin .add 0 (nv 1) v26) ⟨fun v27 =>
 @bindO (xpure (.ixS 1) [v17,v27]) ⟨fun v28 =>
 @bindP (xact (.st 1) H5 [v28,(nv 1)]) ⟨fun _v H6 =>
 @joinV0 (fun J1=>@bindO (xpure (.fld 3) [(.pointer (some ⟨H.length,0,none⟩))]) ⟨fun v29 =>
 @bindO (xload none H6 [v29]) ⟨fun v30 =>
 @bindO (xpure .lenS [v30]) ⟨fun v31 =>
 @bindO (xbin .gtr 0 v31 (nv 0)) ⟨fun v32 =>
 @condK v32 ⟨fun q=>if q=true then @bindO (xbin .sub 0 v11 (nv 1)) ⟨fun v35 =>
 @bindO (xpure (.fld 3) [(.pointer (some ⟨H.length,0,none⟩))]) ⟨fun v36 =>
 @bindO (xload none H6 [v36]) ⟨fun v37 =>
 @bindO (xpure (.ixS 1) [v37,(nv 0)]) ⟨fun v38 =>
 @bindO (xload none H6 [v38]) ⟨fun v39 =>
 @bindO (xpure (.conv .i64) [v39]) ⟨fun v40 =>
 @bindO (xbin .quo 0 v40 (nv 2)) ⟨fun v41 =>
 @bindO (xbin .rem 0 v41 (nv 2)) ⟨fun v42 =>
 @bindO (xpure (.ixS 1) [v17,v35]) ⟨fun v43 =>
 @bindP (xact (.st 1) H6 [v43,v42]) ⟨fun _v H7 =>
 J1 H7⟩⟩⟩⟩⟩⟩⟩⟩⟩⟩ else
 J1 H6⟩⟩⟩⟩⟩) ⟨fun H8 =>
 @bindL (xfill [(.slice none 0 0),(.slice none 0 0)] [(0,1),(1,1)] [v15,v17]) ⟨fun cv47=>@letH (H8++[.cells cv47 31 none false]) ⟨fun H9 =>
 @cG 67 [(nv 2),v11,(.slice (some ⟨H8.length,0,none⟩) 2 2)] H9 ⟨fun v48 H10 =>
 @bindO (xpure (.prt (some 3) 0) [v48]) ⟨fun v49 =>
 @letH (H10++[.cells [(nv 0),(nv 0),(.slice none 0 0)] 29 none false]) ⟨fun H11 =>
 @bindP (xact (.st 3) H11 [(.pointer (some ⟨H10.length,0,none⟩)),v49]) ⟨fun _v H12 =>
 @joinV0 (fun J2=>@bindO (xpure (.fld 2) [(.pointer (some ⟨H10.length,0,none⟩))]) ⟨fun v50 =>
 @bindO (xload none H12 [v50]) ⟨fun v51 =>
 @bindO (xpure .lenS [v51]) ⟨fun v52 =>
 @bindO (xbin .lss 0 v52 (nv 2)) ⟨fun v53 =>
 @condK v53 ⟨fun q=>if q=true then @cG 60 [v11] H12 ⟨fun v55 H13 =>
 @bindO (xpure (.ixS 1) [v55,(nv 1)]) ⟨fun v57 =>
 @bindP (xact (.st 1) H13 [v57,(nv 1)]) ⟨fun _v H14 =>
 @bindL (xfill [(.slice none 0 0),(.slice none 0 0)] [(0,1),(1,1)] [v15,v55]) ⟨fun cv61=>@letH (H14++[.cells cv61 31 none false]) ⟨fun H15 =>
 @cG 67 [(nv 2),v11,(.slice (some ⟨H14.length,0,none⟩) 2 2)] H15 ⟨fun v62 H16 =>
 @bindO (xpure (.prt (some 3) 0) [v62]) ⟨fun v63 =>
 @bindP (xact (.st 3) H16 [(.pointer (some ⟨H10.length,0,none⟩)),v63]) ⟨fun _v H17 =>
 J2 H17⟩⟩⟩⟩⟩⟩⟩⟩ else
 J2 H12⟩⟩⟩⟩⟩) ⟨fun H18 =>
 @bindO (xload (some 3) H18 [(.pointer (some ⟨H10.length,0,none⟩))]) ⟨fun v64 =>
 @bindP (xact (.st 3) H18 [(.pointer (some ⟨H1.length,0,none⟩)),v64]) ⟨fun _v H19 =>
 @bindO (xload (some 3) H19 [(.pointer (some ⟨H1.length,0,none⟩))]) ⟨fun r0=>R r0 H19⟩⟩⟩⟩⟩⟩⟩⟩⟩⟩⟩⟩⟩⟩⟩⟩⟩⟩⟩⟩⟩⟩⟩⟩⟩⟩⟩⟩⟩⟩⟩⟩
theorem g33_of {x0:Value} {H:AH} {R:Value→AH→Prop} (h:g33 x0 H R):FN Tryz.prog 33 [x0] H R:=
  FN.of_XD mixed xd33_ok (by kernel_rfl) (Nat.le_of_ble_eq_true rfl) (cast (by kernel_rfl) h)
def xd36:XD:=(.seq (.reg [yS 0 2 (.box 37) [oT 0],yS 1 3 (.box 29) [oT 1],yS 2 4 .mov [oC (.bool false)]]) (.seq (.reg [yS 0 5 (.fld 3) [oT 2],yS 1 6 (.ld none) [oT 5],yS 2 7 (.bin .eql 0) [oT 6,oC (nv 0)],yS 3 8 .mov [oT 7],yG (some (8,true)) 4 (some 9) (.fld 0) [oT 2],yG (some (8,true)) 5 (some 10) (.ld (some 3)) [oT 9],yG (some (8,true)) 6 (some 11) (.ld (some 3)) [oT 3],yG (some (8,true)) 7 (some 12) .call [oF 64,oT 10,oT 11],yS 8 13 .pick [oT 8,oT 12,oC (.bool false)],yS 9 4 .mov [oT 13]]) .ret))
theorem xd36_ok:compF Tryz.prog 36=some ⟨14,[(.tmp 4)],xd36.er⟩:=by kernel_rfl
def xd38:XD:=(.seq (.reg [yS 0 1 (.box 29) [oT 0],yS 1 2 .mov [oC (.bool false)]]) (.seq (.reg [yS 0 6 (.fld 0) [oT 1],yS 1 7 (.ld none) [oT 6],yS 2 8 (.fld 1) [oT 1],yS 3 9 (.ld none) [oT 8],yS 4 10 (.fld 1) [oT 1],yS 5 11 (.ld none) [oT 10],yS 6 12 (.fld 2) [oT 1],yS 7 13 (.ld none) [oT 12],yS 8 14 .call [oF 83,oT 7,oT 9,oT 11,oT 13],yS 9 5 .mov [oT 14],yS 10 15 (.ext 0) [oT 5],yS 11 16 (.ext 1) [oT 5],yS 12 3 (.new [(nv 0),(nv 0),(.slice none 0 0)] 96) [],yN 13 (.st 3) [oT 3,oT 15],yS 14 4 .mov [oT 16]]) (.seq (.reg [yS 0 17 .mov [oT 4],yS 1 18 .mov [oT 17],yG (some (18,true)) 2 (some 19) (.fld 2) [oT 1],⟨(some (18,true)),(.ld none),[oT 19],some 20,3,true,[]⟩,⟨(some (18,true)),(.ld (some 3)),[oT 3],some 21,4,true,[]⟩,yG (some (18,true)) 5 (some 22) (.fld 1) [oT 1],⟨(some (18,true)),(.ld none),[oT 22],some 23,6,true,[]⟩,yG (some (18,true)) 7 (some 24) (.fld 2) [oT 1],yG (some (18,true)) 8 (some 25) (.ld none) [oT 24],⟨(some (18,true)),.call,[oF 86,oT 25],some 26,9,false,[6,4,3]⟩,⟨(some (18,true)),.call,[oF 85,oT 21,oT 23,oT 26],some 27,10,false,[3]⟩,yG (some (18,true)) 11 (some 28) .call [oF 84,oT 20,oT 27,oF 87],yS 12 29 .pick [oT 18,oT 28,oC (.bool false)],yS 13 2 .mov [oT 29]]) .ret)))
theorem xd38_ok:compF Tryz.prog 38=some ⟨30,[(.tmp 2)],xd38.er⟩:=by kernel_rfl
def g38 (c0:Value) (H:AH) (R:Value→AH→Prop):Prop:=
 @letH (H++[.cells (cellsL c0) 29 none false]) ⟨fun H1 =>
 @bindO (xpure (.fld 0) [(.pointer (some ⟨H.length,0,none⟩))]) ⟨fun v6 =>
 @bindO (xload none H1 [v6]) ⟨fun v7 =>
 @bindO (xpure (.fld 1) [(.pointer (some ⟨H.length,0,none⟩))]) ⟨fun v8 =>
 @bindO (xload none H1 [v8]) ⟨fun v9 =>
 @bindO (xpure (.fld 1) [(.pointer (some ⟨H.length,0,none⟩))]) ⟨fun v10 =>
 @bindO (xload none H1 [v10]) ⟨fun v11 =>
 @bindO (xpure (.fld 2) [(.pointer (some ⟨H.length,0,none⟩))]) ⟨fun v12 =>
 @bindO (xload none H1 [v12]) ⟨fun v13 =>
 @cG 83 [v7,v9,v11,v13] H1 ⟨fun v14 H2 =>
 @bindO (xpure (.ext 0) [v14]) ⟨fun v15 =>
 @bindO (xpure (.ext 1) [v14]) ⟨fun v16 =>
 @letH (H2++[.cells [(nv 0),(nv 0),(.slice none 0 0)] 96 none false]) ⟨fun H3 =>
 @bindP (xact (.st 3) H3 [(.pointer (some ⟨H2.length,0,none⟩)),v15]) ⟨fun _v H4 =>
 @guardJ (asB v16) (fun J1=>@bindO (xpure (.fld 2) [(.pointer (some ⟨H.length,0,none⟩))]) ⟨fun v19 =>
 J1 v19 H4⟩) H4 ⟨fun v19a H5 =>
 @guardJ (asB v16) (fun J2=>@bindO (xload none H5 [v19a]) ⟨fun v20 =>
 J2 v20 H5⟩) H5 ⟨fun v20a H6=>@letD (bif (asB v16) then⟨3,none,[v19a],v20a⟩ :: [] else []) ⟨fun D1 =>
 @guardJ (asB v16) (fun J3=>@bindO (xload (some 3) H6 [(.pointer (some ⟨H2.length,0,none⟩))]) ⟨fun v21 =>
 J3 v21 H6⟩) H6 ⟨fun v21a H7=>@letD (bif (asB v16) then⟨4,(some 3),[(.pointer (some ⟨H2.length,0,none⟩))],v21a⟩ :: D1 else D1) ⟨fun D2 =>
 @guardJ (asB v16) (fun J4=>@bindO (xpure (.fld 1) [(.pointer (some ⟨H.length,0,none⟩))]) ⟨fun v22 =>
 J4 v22 H7⟩) H7 ⟨fun v22a H8 =>
 @guardJ (asB v16) (fun J5=>@bindO (xload none H8 [v22a]) ⟨fun v23 =>
 J5 v23 H8⟩) H8 ⟨fun v23a H9=>@letD (bif (asB v16) then⟨6,none,[v22a],v23a⟩ :: D2 else D2) ⟨fun D3 =>
 @guardJ (asB v16) (fun J6=>@bindO (xpure (.fld 2) [(.pointer (some ⟨H.length,0,none⟩))]) ⟨fun v24 =>
 J6 v24 H9⟩) H9 ⟨fun v24a H10 =>
 @guardJ (asB v16) (fun J7=>@bindO (xload none H10 [v24a]) ⟨fun v25 =>
 J7 v25 H10⟩) H10 ⟨fun v25a H11 =>
 @guardJ (asB v16) (fun J8=>@cG 86 [v25a] H11 ⟨fun v26 H12 =>
 (chkX [6,4,3] D3 H12∧J8 v26 H12)⟩) H11 ⟨fun v26a H13 =>
 @guardJ (asB v16) (fun J9=>@cG 85 [v21a,v23a,v26a] H13 ⟨fun v27 H14 =>
 (chkX [3] D3 H14∧J9 v27 H14)⟩) H13 ⟨fun v27a H15 =>
 @guardJ (asB v16) (fun J10=>@cG 84 [v20a,v27a,(.func (.func 87) #[] #[])] H15 ⟨fun v28 H16 =>
 J10 v28 H16⟩) H15 ⟨fun v28a H17 =>
 @pickK v16 v28a (.bool false) ⟨fun v29 =>
 R v29 H17⟩⟩⟩⟩⟩⟩⟩⟩⟩⟩⟩⟩⟩⟩⟩⟩⟩⟩⟩⟩⟩⟩⟩⟩⟩⟩⟩⟩
theorem g38_of {c0:Value} {H:AH} {R:Value→AH→Prop} (h:g38 c0 H R):FN Tryz.prog 38 [c0] H R:=
  FN.of_XD mixed xd38_ok (by kernel_rfl) (Nat.le_of_ble_eq_true rfl) (cast (by kernel_rfl) h)
def xd39:XD:=(.seq (.reg [yS 0 1 (.box 29) [oT 0],yS 1 2 .mov [oC (.slice none 0 0)]]) (.seq (.reg [yS 0 6 (.ld (some 3)) [oT 1],yS 1 7 .call [oF 88,oT 6],yS 2 5 .mov [oT 7],yS 3 8 (.ext 0) [oT 5],yS 4 9 (.ext 1) [oT 5],yS 5 3 .mov [oT 8],yS 6 4 .mov [oT 9]]) (.seq (.reg [yS 0 10 .mov [oT 3],yS 1 2 .mov [oT 10]]) .ret)))
theorem xd39_ok:compF Tryz.prog 39=some ⟨11,[(.tmp 2)],xd39.er⟩:=by kernel_rfl
def g39 (c0:Value) (H:AH) (R:Value→AH→Prop):Prop:=
 @letH (H++[.cells (cellsL c0) 29 none false]) ⟨fun H1 =>
 @bindO (xload (some 3) H1 [(.pointer (some ⟨H.length,0,none⟩))]) ⟨fun v6 =>
 @cG 88 [v6] H1 ⟨fun v7 H2 =>
 @bindO (xpure (.ext 0) [v7]) ⟨fun v8 =>
 @bindO (xpure (.ext 1) [v7]) ⟨fun v9 =>
 R v8 H2⟩⟩⟩⟩⟩
theorem g39_of {c0:Value} {H:AH} {R:Value→AH→Prop} (h:g39 c0 H R):FN Tryz.prog 39 [c0] H R:=
  FN.of_XD mixed xd39_ok (by kernel_rfl) (Nat.le_of_ble_eq_true rfl) (cast (by kernel_rfl) h)
def xd41:XD:=(.seq (.reg [yS 0 1 (.box 29) [oT 0],yS 1 2 .mov [oC (.bool false)]]) (.seq (.seq (.reg [yS 0 4 (.fld 0) [oT 1],yS 1 5 (.ld none) [oT 4],yS 2 6 .call [oF 89,oT 5],yS 3 7 (.un .not) [oT 6],yS 4 8 .mov [oT 7],yG (some (8,false)) 5 (some 9) (.fld 1) [oT 1],yG (some (8,false)) 6 (some 10) (.ld none) [oT 9],yG (some (8,false)) 7 (some 11) (.bin .lss 0) [oT 10,oC (nv 1)],yS 8 12 .pick [oT 8,oC (.bool true),oT 11],yS 9 13 .mov [oT 12],yG (some (13,false)) 10 (some 14) (.fld 1) [oT 1],yG (some (13,false)) 11 (some 15) (.ld none) [oT 14],yG (some (13,false)) 12 (some 16) (.bin .gtr 0) [oT 15,oC (nv 24)],yS 13 17 .pick [oT 13,oC (.bool true),oT 16],yS 14 18 .mov [oT 17],yG (some (18,false)) 15 (some 19) (.fld 2) [oT 1],yG (some (18,false)) 16 (some 20) (.ld none) [oT 19],yG (some (18,false)) 17 (some 21) .lenS [oT 20],yG (some (18,false)) 18 (some 22) (.fld 1) [oT 1],yG (some (18,false)) 19 (some 23) (.ld none) [oT 22],yG (some (18,false)) 20 (some 24) (.bin .gtr 0) [oT 21,oT 23],yS 21 25 .pick [oT 18,oC (.bool true),oT 24]]) (.cond (oT 25) (.seq (.reg [yS 0 2 .mov [oC (.bool false)]]) .ret) .skip)) (.seq (.seq (.reg [yS 0 3 .mov [oC (nv 0)]]) (.block 0 (.loop [3] 17592118935564 (.seq (.seq (.reg [yS 0 26 .mov [oT 3],yS 1 27 (.fld 2) [oT 1],yS 2 28 (.ld none) [oT 27],yS 3 29 .lenS [oT 28],yS 4 30 (.bin .lss 0) [oT 26,oT 29]]) (.cond (oT 30) .skip (.exit 0))) (.seq (.block 1 (.seq (.reg [yS 0 33 (.fld 0) [oT 1],yS 1 34 (.ld none) [oT 33],yS 2 35 (.fld 1) [oT 1],yS 3 36 (.ld none) [oT 35],yS 4 37 (.fld 2) [oT 1],yS 5 38 (.ld none) [oT 37],yS 6 39 .mov [oT 3],yS 7 40 (.ixS 1) [oT 38,oT 39],yS 8 41 (.ld none) [oT 40],yS 9 42 .call [oF 90,oT 34,oT 36,oT 41],yS 10 43 (.un .not) [oT 42]]) (.cond (oT 43) (.seq (.reg [yS 0 2 .mov [oC (.bool false)]]) .ret) .skip))) (.reg [yS 0 31 .mov [oT 3],yS 1 32 (.bin .add 0) [oT 31,oC (nv 1)],yS 2 3 .mov [oT 32]])))))) (.seq (.reg [yS 0 44 (.fld 2) [oT 1],⟨none,(.ld none),[oT 44],some 45,1,true,[]⟩,yS 2 46 (.fld 0) [oT 1],yS 3 47 (.ld none) [oT 46],yS 5 49 (.fld 1) [oT 1],⟨none,(.ld none),[oT 49],some 50,6,true,[]⟩,yS 7 51 (.fld 2) [oT 1],⟨none,(.ld none),[oT 51],some 52,8,true,[]⟩,⟨none,.call,[oF 62,oT 47],some 48,4,false,[8,6,1]⟩,⟨none,.call,[oF 61,oT 48,oT 50,oT 52],some 53,9,false,[1]⟩,yS 10 54 .call [oF 91,oT 45,oT 53],yS 11 2 .mov [oT 54]]) .ret))))
theorem xd41_ok:compF Tryz.prog 41=some ⟨55,[(.tmp 2)],xd41.er⟩:=by kernel_rfl
def g41 (c0:Value) (H:AH) (R:Value→AH→Prop):Prop:=
 @letH (H++[.cells (cellsL c0) 29 none false]) ⟨fun H1 =>
 @bindO (xpure (.fld 0) [(.pointer (some ⟨H.length,0,none⟩))]) ⟨fun v4 =>
 @bindO (xload none H1 [v4]) ⟨fun v5 =>
 @cG 89 [v5] H1 ⟨fun v6 H2 =>
 @bindO (eun .not v6) ⟨fun v7 =>
 @guardJ (asNB v7) (fun J1=>@bindO (xpure (.fld 1) [(.pointer (some ⟨H.length,0,none⟩))]) ⟨fun v9 =>
 J1 v9 H2⟩) H2 ⟨fun v9a H3 =>
 @guardJ (asNB v7) (fun J2=>@bindO (xload none H3 [v9a]) ⟨fun v10 =>
 J2 v10 H3⟩) H3 ⟨fun v10a H4 =>
 @guardJ (asNB v7) (fun J3=>@bindO (xbin .lss 0 v10a (nv 1)) ⟨fun v11 =>
 J3 v11 H4⟩) H4 ⟨fun v11a H5 =>
 @pickK v7 (.bool true) v11a ⟨fun v12 =>
 @guardJ (asNB v12) (fun J4=>@bindO (xpure (.fld 1) [(.pointer (some ⟨H.length,0,none⟩))]) ⟨fun v14 =>
 J4 v14 H5⟩) H5 ⟨fun v14a H6 =>
 @guardJ (asNB v12) (fun J5=>@bindO (xload none H6 [v14a]) ⟨fun v15 =>
 J5 v15 H6⟩) H6 ⟨fun v15a H7 =>
 @guardJ (asNB v12) (fun J6=>@bindO (xbin .gtr 0 v15a (nv 24)) ⟨fun v16 =>
 J6 v16 H7⟩) H7 ⟨fun v16a H8 =>
 @pickK v12 (.bool true) v16a ⟨fun v17 =>
 @guardJ (asNB v17) (fun J7=>@bindO (xpure (.fld 2) [(.pointer (some ⟨H.length,0,none⟩))]) ⟨fun v19 =>
 J7 v19 H8⟩) H8 ⟨fun v19a H9 =>
 @guardJ (asNB v17) (fun J8=>@bindO (xload none H9 [v19a]) ⟨fun v20 =>
 J8 v20 H9⟩) H9 ⟨fun v20a H10 =>
 @guardJ (asNB v17) (fun J9=>@bindO (xpure .lenS [v20a]) ⟨fun v21 =>
 J9 v21 H10⟩) H10 ⟨fun v21a H11 =>
 @guardJ (asNB v17) (fun J10=>@bindO (xpure (.fld 1) [(.pointer (some ⟨H.length,0,none⟩))]) ⟨fun v22 =>
 J10 v22 H11⟩) H11 ⟨fun v22a H12 =>
 @guardJ (asNB v17) (fun J11=>@bindO (xload none H12 [v22a]) ⟨fun v23 =>
 J11 v23 H12⟩) H12 ⟨fun v23a H13 =>
 @guardJ (asNB v17) (fun J12=>@bindO (xbin .gtr 0 v21a v23a) ⟨fun v24 =>
 J12 v24 H13⟩) H13 ⟨fun v24a H14 =>
 @pickK v17 (.bool true) v24a ⟨fun v25 =>
 @condK v25 ⟨fun q=>if q=true then R (.bool false) H14 else
 @loopV1 (nv 0) H14 ⟨fun i3 H15 K13 =>
 @bindO (xpure (.fld 2) [(.pointer (some ⟨H.length,0,none⟩))]) ⟨fun v27 =>
 @bindO (xload none H15 [v27]) ⟨fun v28 =>
 @bindO (xpure .lenS [v28]) ⟨fun v29 =>
 @bindO (xbin .lss 0 i3 v29) ⟨fun v30 =>
 @condK v30 ⟨fun q=>if q=true then @bindO (xpure (.fld 0) [(.pointer (some ⟨H.length,0,none⟩))]) ⟨fun v33 =>
 @bindO (xload none H15 [v33]) ⟨fun v34 =>
 @bindO (xpure (.fld 1) [(.pointer (some ⟨H.length,0,none⟩))]) ⟨fun v35 =>
 @bindO (xload none H15 [v35]) ⟨fun v36 =>
 @bindO (xpure (.fld 2) [(.pointer (some ⟨H.length,0,none⟩))]) ⟨fun v37 =>
 @bindO (xload none H15 [v37]) ⟨fun v38 =>
 @bindO (xpure (.ixS 1) [v38,i3]) ⟨fun v40 =>
 @bindO (xload none H15 [v40]) ⟨fun v41 =>
 @cG 90 [v34,v36,v41] H15 ⟨fun v42 H16 =>
 @bindO (eun .not v42) ⟨fun v43 =>
 @condK v43 ⟨fun q=>if q=true then R (.bool false) H16 else
 @bindO (xbin .add 0 i3 (nv 1)) ⟨fun v32 =>
 K13 v32 H16⟩⟩⟩⟩⟩⟩⟩⟩⟩⟩⟩⟩ else
 @bindO (xpure (.fld 2) [(.pointer (some ⟨H.length,0,none⟩))]) ⟨fun v44 =>
 @bindO (xload none H15 [v44]) ⟨fun v45 =>
 @bindO (xpure (.fld 0) [(.pointer (some ⟨H.length,0,none⟩))]) ⟨fun v46 =>
 @bindO (xload none H15 [v46]) ⟨fun v47 =>
 @bindO (xpure (.fld 1) [(.pointer (some ⟨H.length,0,none⟩))]) ⟨fun v49 =>
 @bindO (xload none H15 [v49]) ⟨fun v50 =>
 @bindO (xpure (.fld 2) [(.pointer (some ⟨H.length,0,none⟩))]) ⟨fun v51 =>
 @bindO (xload none H15 [v51]) ⟨fun v52 =>
 @cG 62 [v47] H15 ⟨fun v48 H17 =>
 (chkX [8,6,1] (⟨8,none,[v51],v52⟩ :: (⟨6,none,[v49],v50⟩ :: (⟨1,none,[v44],v45⟩ :: []))) H17∧@cG 61 [v48,v50,v52] H17 ⟨fun v53 H18 =>
 (chkX [1] (⟨8,none,[v51],v52⟩ :: (⟨6,none,[v49],v50⟩ :: (⟨1,none,[v44],v45⟩ :: []))) H18∧@cG 91 [v45,v53] H18 ⟨fun v54 H19 =>
 R v54 H19⟩)⟩)⟩⟩⟩⟩⟩⟩⟩⟩⟩⟩⟩⟩⟩⟩⟩⟩⟩⟩⟩⟩⟩⟩⟩⟩⟩⟩⟩⟩⟩⟩⟩⟩⟩⟩⟩⟩
theorem g41_of {c0:Value} {H:AH} {R:Value→AH→Prop} (h:g41 c0 H R):FN Tryz.prog 41 [c0] H R:=
  FN.of_XD mixed xd41_ok (by kernel_rfl) (Nat.le_of_ble_eq_true rfl) (cast (by kernel_rfl) h)
def xd42:XD:=(.seq (.reg [yS 0 1 (.box 29) [oT 0],yS 1 2 .mov [oC (nv 0)]]) (.seq (.reg [yS 0 3 .mov [oC (nv 1)]]) (.seq (.seq (.reg [yS 0 4 .mov [oC (nv 0)]]) (.block 0 (.loop [3,4] 131064 (.seq (.seq (.reg [yS 0 5 .mov [oT 4],yS 1 6 (.fld 2) [oT 1],yS 2 7 (.ld none) [oT 6],yS 3 8 .lenS [oT 7],yS 4 9 (.bin .lss 0) [oT 5,oT 8]]) (.cond (oT 9) .skip (.exit 0))) (.seq (.block 1 (.reg [yS 0 12 .mov [oT 3],yS 1 13 (.fld 0) [oT 1],yS 2 14 (.ld none) [oT 13],yS 3 15 (.bin .mul 0) [oT 12,oT 14],yS 4 16 .min2 [oT 15,oC (nv 4097)],yS 5 3 .mov [oT 16]])) (.reg [yS 0 10 .mov [oT 4],yS 1 11 (.bin .add 0) [oT 10,oC (nv 1)],yS 2 4 .mov [oT 11]])))))) (.seq (.reg [yS 0 17 .mov [oT 3],yS 1 2 .mov [oT 17]]) .ret))))
theorem xd42_ok:compF Tryz.prog 42=some ⟨18,[(.tmp 2)],xd42.er⟩:=by kernel_rfl
def g42 (c0:Value) (H:AH) (R:Value→AH→Prop):Prop:=
 @letH (H++[.cells (cellsL c0) 29 none false]) ⟨fun H1 =>
 @loopV2 (nv 1) (nv 0) H1 ⟨fun n3 i4 H2 K1 =>
 @bindO (xpure (.fld 2) [(.pointer (some ⟨H.length,0,none⟩))]) ⟨fun v6 =>
 @bindO (xload none H2 [v6]) ⟨fun v7 =>
 @bindO (xpure .lenS [v7]) ⟨fun v8 =>
 @bindO (xbin .lss 0 i4 v8) ⟨fun v9 =>
 @condK v9 ⟨fun q=>if q=true then @bindO (xpure (.fld 0) [(.pointer (some ⟨H.length,0,none⟩))]) ⟨fun v13 =>
 @bindO (xload none H2 [v13]) ⟨fun v14 =>
 @bindO (xbin .mul 0 n3 v14) ⟨fun v15 =>
 @bindO (xpure .min2 [v15,(nv 4097)]) ⟨fun v16 =>
 @bindO (xbin .add 0 i4 (nv 1)) ⟨fun v11 =>
 K1 v16 v11 H2⟩⟩⟩⟩⟩ else
 R n3 H2⟩⟩⟩⟩⟩⟩⟩
theorem g42_of {c0:Value} {H:AH} {R:Value→AH→Prop} (h:g42 c0 H R):FN Tryz.prog 42 [c0] H R:=
  FN.of_XD mixed xd42_ok (by kernel_rfl) (Nat.le_of_ble_eq_true rfl) (cast (by kernel_rfl) h)
def xd43:XD:=(.seq (.reg [yS 0 2 (.box 29) [oT 0],yS 1 4 .mov [oC (.slice none 0 0)]]) (.seq (.reg [yS 0 8 (.bsl [] 0 [] 3) [],yS 1 5 .mov [oT 8]]) (.seq (.seq (.reg [yS 0 6 .mov [oC (nv 0)]]) (.block 0 (.loop [5,6] 4503599627370208 (.seq (.seq (.reg [yS 0 9 .mov [oT 6],yS 1 10 .mov [oT 1],yS 2 11 .lenS [oT 10],yS 3 12 (.bin .lss 0) [oT 9,oT 11]]) (.cond (oT 12) .skip (.exit 0))) (.seq (.block 1 (.seq (.reg [yS 0 7 .mov [oC (nv 0)]]) (.block 2 (.loop [5,7] 4503599627337888 (.seq (.seq (.reg [yS 0 15 .mov [oT 7],yS 1 16 (.fld 1) [oT 2],yS 2 17 (.ld none) [oT 16],yS 3 18 (.bin .lss 0) [oT 15,oT 17]]) (.cond (oT 18) .skip (.exit 2))) (.seq (.block 3 (.reg [yS 0 21 .mov [oT 5],yS 1 22 .mov [oT 1],yS 2 23 .mov [oT 6],yS 3 24 (.ixS 1) [oT 22,oT 23],yS 4 25 (.ld none) [oT 24],yS 5 26 (.bin .rem 0) [oT 25,oC (nv 2)],yS 6 27 (.fld 2) [oT 2],yS 7 28 (.ld none) [oT 27],yS 8 29 (.ixS 1) [oT 28,oC (nv 0)],yS 9 30 (.ld none) [oT 29],yS 10 31 .mov [oT 7],yS 11 32 (.ixS 1) [oT 30,oT 31],yS 12 33 (.ld none) [oT 32],yS 13 34 (.bin .mul 0) [oT 26,oT 33],yS 14 35 .mov [oT 1],yS 15 36 .mov [oT 6],yS 16 37 (.ixS 1) [oT 35,oT 36],yS 17 38 (.ld none) [oT 37],yS 18 39 (.bin .quo 0) [oT 38,oC (nv 2)],yS 19 40 (.fld 2) [oT 2],yS 20 41 (.ld none) [oT 40],yS 21 42 (.ixS 1) [oT 41,oC (nv 1)],yS 22 43 (.ld none) [oT 42],yS 23 44 .mov [oT 7],yS 24 45 (.ixS 1) [oT 43,oT 44],yS 25 46 (.ld none) [oT 45],yS 26 47 (.bin .mul 0) [oT 39,oT 46],yS 27 48 (.bin .add 0) [oT 34,oT 47],yS 28 49 (.bin .rem 0) [oT 48,oC (nv 2)],yS 29 50 (.bsl [(nv 0)] 1 [(0,1)] 3) [oT 49],yS 30 51 (.app 3 1 8) [oT 21,oT 50],yS 31 5 .mov [oT 51]])) (.reg [yS 0 19 .mov [oT 7],yS 1 20 (.bin .add 0) [oT 19,oC (nv 1)],yS 2 7 .mov [oT 20]]))))))) (.reg [yS 0 13 .mov [oT 6],yS 1 14 (.bin .add 0) [oT 13,oC (nv 1)],yS 2 6 .mov [oT 14]])))))) (.seq (.reg [yS 0 52 .mov [oT 5],yS 1 4 .mov [oT 52]]) .ret))))
theorem xd43_ok:compF Tryz.prog 43=some ⟨53,[(.tmp 4)],xd43.er⟩:=by kernel_rfl
def g43 (inner0 w1:Value) (H:AH) (R:Value→AH→Prop):Prop:=
 @letH (H++[.cells (cellsL inner0) 29 none false]) ⟨fun H1 =>
 @bindL (xfill [] [] []) ⟨fun cv8=>@letH (H1++[.cells cv8 3 none false]) ⟨fun H2 =>
 @loopV2 (.slice (some ⟨H1.length,0,none⟩) 0 0) (nv 0) H2 ⟨fun out5 i6 H3 K1 =>
 @bindO (xpure .lenS [w1]) ⟨fun v11 =>
 @bindO (xbin .lss 0 i6 v11) ⟨fun v12 =>
 @condK v12 ⟨fun q=>if q=true then @loopV2 out5 (nv 0) H3 ⟨fun out5a j7 H4 K2 =>
 @bindO (xpure (.fld 1) [(.pointer (some ⟨H.length,0,none⟩))]) ⟨fun v16 =>
 @bindO (xload none H4 [v16]) ⟨fun v17 =>
 @bindO (xbin .lss 0 j7 v17) ⟨fun v18 =>
 @condK v18 ⟨fun q=>if q=true then @bindO (xpure (.ixS 1) [w1,i6]) ⟨fun v24 =>
 @bindO (xload none H4 [v24]) ⟨fun v25 =>
 @bindO (xbin .rem 0 v25 (nv 2)) ⟨fun v26 =>
 @bindO (xpure (.fld 2) [(.pointer (some ⟨H.length,0,none⟩))]) ⟨fun v27 =>
 @bindO (xload none H4 [v27]) ⟨fun v28 =>
 @bindO (xpure (.ixS 1) [v28,(nv 0)]) ⟨fun v29 =>
 @bindO (xload none H4 [v29]) ⟨fun v30 =>
 @bindO (xpure (.ixS 1) [v30,j7]) ⟨fun v32 =>
 @bindO (xload none H4 [v32]) ⟨fun v33 =>
 @bindO (xbin .mul 0 v26 v33) ⟨fun v34 =>
 @bindO (xpure (.ixS 1) [w1,i6]) ⟨fun v37 =>
 @bindO (xload none H4 [v37]) ⟨fun v38 =>
 @bindO (xbin .quo 0 v38 (nv 2)) ⟨fun v39 =>
 @bindO (xpure (.fld 2) [(.pointer (some ⟨H.length,0,none⟩))]) ⟨fun v40 =>
 @bindO (xload none H4 [v40]) ⟨fun v41 =>
 @bindO (xpure (.ixS 1) [v41,(nv 1)]) ⟨fun v42 =>
 @bindO (xload none H4 [v42]) ⟨fun v43 =>
 @bindO (xpure (.ixS 1) [v43,j7]) ⟨fun v45 =>
 @bindO (xload none H4 [v45]) ⟨fun v46 =>
 @bindO (xbin .mul 0 v39 v46) ⟨fun v47 =>
 @bindO (xbin .add 0 v34 v47) ⟨fun v48 =>
 @bindO (xbin .rem 0 v48 (nv 2)) ⟨fun v49 =>
 @bindL (xfill [(nv 0)] [(0,1)] [v49]) ⟨fun cv50=>@letH (H4++[.cells cv50 3 none false]) ⟨fun H5 =>
 @bindP (xact (.app 3 1 8) H5 [out5a,(.slice (some ⟨H4.length,0,none⟩) 1 1)]) ⟨fun v51 H6 =>
 @bindO (xbin .add 0 j7 (nv 1)) ⟨fun v20 =>
 K2 v51 v20 H6⟩⟩⟩⟩⟩⟩⟩⟩⟩⟩⟩⟩⟩⟩⟩⟩⟩⟩⟩⟩⟩⟩⟩⟩⟩⟩ else
 @bindO (xbin .add 0 i6 (nv 1)) ⟨fun v14 =>
 K1 out5a v14 H4⟩⟩⟩⟩⟩⟩ else
 R out5 H3⟩⟩⟩⟩⟩⟩⟩
theorem g43_of {inner0 w1:Value} {H:AH} {R:Value→AH→Prop} (h:g43 inner0 w1 H R):FN Tryz.prog 43 [inner0,w1] H R:=
  FN.of_XD mixed xd43_ok (by kernel_rfl) (Nat.le_of_ble_eq_true rfl) (cast (by kernel_rfl) h)
def xd44:XD:=(.seq (.reg [yS 0 2 (.box 29) [oT 0],yS 1 4 .mov [oC (.slice none 0 0)],yS 2 5 .mov [oC (nv 0)]]) (.seq (.seq (.reg [yS 0 11 (.ld (some 3)) [oT 2],yS 1 12 .call [oF 38,oT 11],yS 2 13 (.un .not) [oT 12],yS 3 14 .mov [oT 13],yG (some (14,false)) 4 (some 15) (.fld 0) [oT 2],yG (some (14,false)) 5 (some 16) (.ld none) [oT 15],yG (some (14,false)) 6 (some 17) (.fld 1) [oT 2],yG (some (14,false)) 7 (some 18) (.ld none) [oT 17],yG (some (14,false)) 8 (some 19) .mov [oT 1],yG (some (14,false)) 9 (some 20) .call [oF 92,oT 16,oT 18,oT 19],yG (some (14,false)) 10 (some 21) (.un .not) [oT 20],yS 11 22 .pick [oT 14,oC (.bool true),oT 21]]) (.cond (oT 22) (.seq (.reg [yS 0 4 .mov [oC (.slice none 0 0)],yS 1 5 .mov [oC (nv 1)]]) .ret) .skip)) (.seq (.reg [yS 0 23 (.fld 2) [oT 2],yS 1 24 (.ld none) [oT 23],yS 2 25 .lenS [oT 24],yS 3 26 (.make (nv 0) 1 8 3) [oT 25,oT 25],yS 4 6 .mov [oT 26]]) (.seq (.seq (.reg [yS 0 27 (.fld 2) [oT 2],yS 1 28 (.ld none) [oT 27],yS 2 29 .lenS [oT 28],yS 3 30 .mov [oC (nv 0)]]) (.block 0 (.loop [30] 17591112302976 (.seq (.reg [yS 0 31 (.bin .lss 0) [oT 30,oT 29]]) (.seq (.cond (oT 31) .skip (.exit 0)) (.seq (.block 1 (.seq (.reg [yS 0 32 .mov [oT 30],yS 1 33 (.ixS 1) [oT 28,oT 30],yS 2 34 (.ld none) [oT 33],yS 3 7 .mov [oT 32],yS 4 8 .mov [oT 34]]) (.reg [yS 0 35 .mov [oT 6],yS 1 36 .mov [oT 7],yS 2 37 .mov [oT 1],yS 3 38 .mov [oT 8],yS 4 39 .call [oF 93,oT 38],yS 5 40 (.ixS 1) [oT 37,oT 39],yS 6 41 (.ld none) [oT 40],yS 7 42 (.ixS 1) [oT 35,oT 36],yN 8 (.st 1) [oT 42,oT 41]]))) (.reg [yS 0 43 (.bin .add 0) [oT 30,oC (nv 1)],yS 1 30 .mov [oT 43]]))))))) (.seq (.seq (.reg [yS 0 45 (.ld (some 3)) [oT 2],yS 1 46 .mov [oT 6],yS 2 47 .call [oF 45,oT 45,oT 46],yS 3 44 .mov [oT 47],yS 4 48 (.ext 0) [oT 44],yS 5 49 (.ext 1) [oT 44],yS 6 9 .mov [oT 48],yS 7 10 .mov [oT 49]]) (.seq (.reg [yS 0 50 .mov [oT 10],yS 1 51 (.bin .neq 0) [oT 50,oC (nv 0)],yS 2 52 .mov [oT 51],yG (some (52,false)) 3 (some 53) .mov [oT 9],yG (some (52,false)) 4 (some 54) .mov [oT 1],yG (some (52,false)) 5 (some 55) .call [oF 87,oT 53,oT 54],yG (some (52,false)) 6 (some 56) (.un .not) [oT 55],yS 7 57 .pick [oT 52,oC (.bool true),oT 56]]) (.cond (oT 57) (.seq (.reg [yS 0 4 .mov [oC (.slice none 0 0)],yS 1 5 .mov [oC (nv 6)]]) .ret) .skip))) (.seq (.reg [yS 0 58 .mov [oT 6],yS 1 4 .mov [oT 58],yS 2 5 .mov [oC (nv 0)]]) .ret))))))
theorem xd44_ok:compF Tryz.prog 44=some ⟨59,[(.tmp 4),(.tmp 5)],xd44.er⟩:=by kernel_rfl
def g44 (c0 w1:Value) (H:AH) (R:Value→AH→Prop):Prop:=
 @letH (H++[.cells (cellsL c0) 29 none false]) ⟨fun H1 =>
 @bindO (xload (some 3) H1 [(.pointer (some ⟨H.length,0,none⟩))]) ⟨fun v11 =>
 @cG 38 [v11] H1 ⟨fun v12 H2 =>
 @bindO (eun .not v12) ⟨fun v13 =>
 @guardJ (asNB v13) (fun J1=>@bindO (xpure (.fld 0) [(.pointer (some ⟨H.length,0,none⟩))]) ⟨fun v15 =>
 J1 v15 H2⟩) H2 ⟨fun v15a H3 =>
 @guardJ (asNB v13) (fun J2=>@bindO (xload none H3 [v15a]) ⟨fun v16 =>
 J2 v16 H3⟩) H3 ⟨fun v16a H4 =>
 @guardJ (asNB v13) (fun J3=>@bindO (xpure (.fld 1) [(.pointer (some ⟨H.length,0,none⟩))]) ⟨fun v17 =>
 J3 v17 H4⟩) H4 ⟨fun v17a H5 =>
 @guardJ (asNB v13) (fun J4=>@bindO (xload none H5 [v17a]) ⟨fun v18 =>
 J4 v18 H5⟩) H5 ⟨fun v18a H6 =>
 @guardJ (asNB v13) (fun J5=>J5 w1 H6) H6 ⟨fun v19 H7 =>
 @guardJ (asNB v13) (fun J6=>@cG 92 [v16a,v18a,v19] H7 ⟨fun v20 H8 =>
 J6 v20 H8⟩) H7 ⟨fun v20a H9 =>
 @guardJ (asNB v13) (fun J7=>@bindO (eun .not v20a) ⟨fun v21 =>
 J7 v21 H9⟩) H9 ⟨fun v21a H10 =>
 @pickK v13 (.bool true) v21a ⟨fun v22 =>
 @condK v22 ⟨fun q=>if q=true then R (.tuple [(.slice none 0 0),(nv 1)].toArray) H10 else
 @bindO (xpure (.fld 2) [(.pointer (some ⟨H.length,0,none⟩))]) ⟨fun v23 =>
 @bindO (xload none H10 [v23]) ⟨fun v24 =>
 @bindO (xpure .lenS [v24]) ⟨fun v25 =>
 @bindN (xnew (.make (nv 0) 1 8 3) [v25,v25]) ⟨fun cv26 ev26 mkv26=>@letH (H10++[.cells cv26 ev26 none false]) ⟨fun H11 =>
 @bindO (xpure (.fld 2) [(.pointer (some ⟨H.length,0,none⟩))]) ⟨fun v27 =>
 @bindO (xload none H11 [v27]) ⟨fun v28 =>
 @bindO (xpure .lenS [v28]) ⟨fun v29 =>
 @loopV1 (nv 0) H11 ⟨fun v30 H12 K8 =>
 @bindO (xbin .lss 0 v30 v29) ⟨fun v31 =>
 @condK v31 ⟨fun q=>if q=true then @bindO (xpure (.ixS 1) [v28,v30]) ⟨fun v33 =>
 @bindO (xload none H12 [v33]) ⟨fun v34 =>
 @cG 93 [v34] H12 ⟨fun v39 H13 =>
 @bindO (xpure (.ixS 1) [w1,v39]) ⟨fun v40 =>
 @bindO (xload none H13 [v40]) ⟨fun v41 =>
 @bindO (xpure (.ixS 1) [(mkv26 H10.length),v30]) ⟨fun v42 =>
 @bindP (xact (.st 1) H13 [v42,v41]) ⟨fun _v H14 =>
 @bindO (xbin .add 0 v30 (nv 1)) ⟨fun v43 =>
 K8 v43 H14⟩⟩⟩⟩⟩⟩⟩⟩ else
 @bindO (xload (some 3) H12 [(.pointer (some ⟨H.length,0,none⟩))]) ⟨fun v45 =>
 @cG 45 [v45,(mkv26 H10.length)] H12 ⟨fun v47 H15 =>
 @bindO (xpure (.ext 0) [v47]) ⟨fun v48 =>
 @bindO (xpure (.ext 1) [v47]) ⟨fun v49 =>
 @bindO (xbin .neq 0 v49 (nv 0)) ⟨fun v51 =>
 @guardJ (asNB v51) (fun J9=>J9 v48 H15) H15 ⟨fun v53 H16 =>
 @guardJ (asNB v51) (fun J10=>J10 w1 H16) H16 ⟨fun v54 H17 =>
 @guardJ (asNB v51) (fun J11=>@cG 87 [v53,v54] H17 ⟨fun v55 H18 =>
 J11 v55 H18⟩) H17 ⟨fun v55a H19 =>
 @guardJ (asNB v51) (fun J12=>@bindO (eun .not v55a) ⟨fun v56 =>
 J12 v56 H19⟩) H19 ⟨fun v56a H20 =>
 @pickK v51 (.bool true) v56a ⟨fun v57 =>
 @condK v57 ⟨fun q=>if q=true then R (.tuple [(.slice none 0 0),(nv 6)].toArray) H20 else
 R (.tuple [(mkv26 H10.length),(nv 0)].toArray) H20⟩⟩⟩⟩⟩⟩⟩⟩⟩⟩⟩⟩⟩⟩⟩⟩⟩⟩⟩⟩⟩⟩⟩⟩⟩⟩⟩⟩⟩⟩⟩⟩⟩⟩⟩
theorem g44_of {c0 w1:Value} {H:AH} {R:Value→AH→Prop} (h:g44 c0 w1 H R):FN Tryz.prog 44 [c0,w1] H R:=
  FN.of_XD mixed xd44_ok (by kernel_rfl) (Nat.le_of_ble_eq_true rfl) (cast (by kernel_rfl) h)
def xd45:XD:=(.seq (.reg [yS 0 2 (.box 29) [oT 0],yS 1 4 .mov [oC (.slice none 0 0)],yS 2 5 .mov [oC (nv 0)]]) (.seq (.seq (.reg [yS 0 11 (.ld (some 3)) [oT 2],yS 1 12 .call [oF 38,oT 11],yS 2 13 (.un .not) [oT 12],yS 3 14 .mov [oT 13],yG (some (14,false)) 4 (some 15) (.fld 0) [oT 2],yG (some (14,false)) 5 (some 16) (.ld none) [oT 15],yG (some (14,false)) 6 (some 17) (.fld 2) [oT 2],yG (some (14,false)) 7 (some 18) (.ld none) [oT 17],yG (some (14,false)) 8 (some 19) .lenS [oT 18],yG (some (14,false)) 9 (some 20) .mov [oT 1],yG (some (14,false)) 10 (some 21) .call [oF 92,oT 16,oT 19,oT 20],yG (some (14,false)) 11 (some 22) (.un .not) [oT 21],yS 12 23 .pick [oT 14,oC (.bool true),oT 22]]) (.cond (oT 23) (.seq (.reg [yS 0 4 .mov [oC (.slice none 0 0)],yS 1 5 .mov [oC (nv 1)]]) .ret) .skip)) (.seq (.reg [yS 0 25 (.fld 0) [oT 2],yS 1 26 (.ld none) [oT 25],yS 2 27 .call [oF 94,oT 26],yS 3 24 .mov [oT 27],yS 4 28 (.ext 0) [oT 24],yS 5 29 (.ext 1) [oT 24],yS 6 6 (.new [(nv 0),(nv 0),(.slice none 0 0)] 96) [],yN 7 (.st 3) [oT 6,oT 28],yS 8 7 .mov [oT 29]]) (.seq (.reg [yS 0 30 (.fld 1) [oT 2],yS 1 31 (.ld none) [oT 30],yS 2 32 (.make (nv 0) 1 8 3) [oT 31,oT 31],yS 3 8 .mov [oT 32]]) (.seq (.seq (.reg [yS 0 33 .mov [oT 1],yS 1 34 .lenS [oT 33],yS 2 35 .mov [oC (nv 0)]]) (.block 0 (.loop [35] 1125865547105792 (.seq (.reg [yS 0 36 (.bin .lss 0) [oT 35,oT 34]]) (.seq (.cond (oT 36) .skip (.exit 0)) (.seq (.block 1 (.seq (.reg [yS 0 37 .mov [oT 35],yS 1 38 (.ixS 1) [oT 33,oT 35],yS 2 39 (.ld none) [oT 38],yS 3 9 .mov [oT 37],yS 4 10 .mov [oT 39]]) (.reg [yS 0 40 (.ld (some 3)) [oT 6],yS 1 41 .mov [oT 8],yS 2 42 .mov [oT 10],yS 3 43 (.fld 2) [oT 2],yS 4 44 (.ld none) [oT 43],yS 5 45 .mov [oT 9],yS 6 46 (.ixS 1) [oT 44,oT 45],yS 7 47 (.ld none) [oT 46],yS 8 48 .call [oF 95,oT 40,oT 41,oT 42,oT 47]]))) (.reg [yS 0 49 (.bin .add 0) [oT 35,oC (nv 1)],yS 1 35 .mov [oT 49]]))))))) (.seq (.reg [yS 0 50 .mov [oT 8],yS 1 4 .mov [oT 50],yS 2 5 .mov [oC (nv 0)]]) .ret))))))
theorem xd45_ok:compF Tryz.prog 45=some ⟨51,[(.tmp 4),(.tmp 5)],xd45.er⟩:=by kernel_rfl
def g45 (c0 msg1:Value) (H:AH) (R:Value→AH→Prop):Prop:=
 @letH (H++[.cells (cellsL c0) 29 none false]) ⟨fun H1 =>
 @bindO (xload (some 3) H1 [(.pointer (some ⟨H.length,0,none⟩))]) ⟨fun v11 =>
 @cG 38 [v11] H1 ⟨fun v12 H2 =>
 @bindO (eun .not v12) ⟨fun v13 =>
 @guardJ (asNB v13) (fun J1=>@bindO (xpure (.fld 0) [(.pointer (some ⟨H.length,0,none⟩))]) ⟨fun v15 =>
 J1 v15 H2⟩) H2 ⟨fun v15a H3 =>
 @guardJ (asNB v13) (fun J2=>@bindO (xload none H3 [v15a]) ⟨fun v16 =>
 J2 v16 H3⟩) H3 ⟨fun v16a H4 =>
 @guardJ (asNB v13) (fun J3=>@bindO (xpure (.fld 2) [(.pointer (some ⟨H.length,0,none⟩))]) ⟨fun v17 =>
 J3 v17 H4⟩) H4 ⟨fun v17a H5 =>
 @guardJ (asNB v13) (fun J4=>@bindO (xload none H5 [v17a]) ⟨fun v18 =>
 J4 v18 H5⟩) H5 ⟨fun v18a H6 =>
 @guardJ (asNB v13) (fun J5=>@bindO (xpure .lenS [v18a]) ⟨fun v19 =>
 J5 v19 H6⟩) H6 ⟨fun v19a H7 =>
 @guardJ (asNB v13) (fun J6=>J6 msg1 H7) H7 ⟨fun v20 H8 =>
 @guardJ (asNB v13) (fun J7=>@cG 92 [v16a,v19a,v20] H8 ⟨fun v21 H9 =>
 J7 v21 H9⟩) H8 ⟨fun v21a H10 =>
 @guardJ (asNB v13) (fun J8=>@bindO (eun .not v21a) ⟨fun v22 =>
 J8 v22 H10⟩) H10 ⟨fun v22a H11 =>
 @pickK v13 (.bool true) v22a ⟨fun v23 =>
 @condK v23 ⟨fun q=>if q=true then R (.tuple [(.slice none 0 0),(nv 1)].toArray) H11 else
 @bindO (xpure (.fld 0) [(.pointer (some ⟨H.length,0,none⟩))]) ⟨fun v25 =>
 @bindO (xload none H11 [v25]) ⟨fun v26 =>
 @cG 94 [v26] H11 ⟨fun v27 H12 =>
 @bindO (xpure (.ext 0) [v27]) ⟨fun v28 =>
 @bindO (xpure (.ext 1) [v27]) ⟨fun v29 =>
 @letH (H12++[.cells [(nv 0),(nv 0),(.slice none 0 0)] 96 none false]) ⟨fun H13 =>
 @bindP (xact (.st 3) H13 [(.pointer (some ⟨H12.length,0,none⟩)),v28]) ⟨fun _v H14 =>
 @bindO (xpure (.fld 1) [(.pointer (some ⟨H.length,0,none⟩))]) ⟨fun v30 =>
 @bindO (xload none H14 [v30]) ⟨fun v31 =>
 @bindN (xnew (.make (nv 0) 1 8 3) [v31,v31]) ⟨fun cv32 ev32 mkv32=>@letH (H14++[.cells cv32 ev32 none false]) ⟨fun H15 =>
 @bindO (xpure .lenS [msg1]) ⟨fun v34 =>
 @loopV1 (nv 0) H15 ⟨fun v35 H16 K9 =>
 @bindO (xbin .lss 0 v35 v34) ⟨fun v36 =>
 @condK v36 ⟨fun q=>if q=true then @bindO (xpure (.ixS 1) [msg1,v35]) ⟨fun v38 =>
 @bindO (xload none H16 [v38]) ⟨fun v39 =>
 @bindO (xload (some 3) H16 [(.pointer (some ⟨H12.length,0,none⟩))]) ⟨fun v40 =>
 @bindO (xpure (.fld 2) [(.pointer (some ⟨H.length,0,none⟩))]) ⟨fun v43 =>
 @bindO (xload none H16 [v43]) ⟨fun v44 =>
 @bindO (xpure (.ixS 1) [v44,v35]) ⟨fun v46 =>
 @bindO (xload none H16 [v46]) ⟨fun v47 =>
 @cG 95 [v40,(mkv32 H14.length),v39,v47] H16 ⟨fun v48 H17 =>
 @bindO (xbin .add 0 v35 (nv 1)) ⟨fun v49 =>
 K9 v49 H17⟩⟩⟩⟩⟩⟩⟩⟩⟩ else
 R (.tuple [(mkv32 H14.length),(nv 0)].toArray) H16⟩⟩⟩⟩⟩⟩⟩⟩⟩⟩⟩⟩⟩⟩⟩⟩⟩⟩⟩⟩⟩⟩⟩⟩⟩⟩⟩⟩⟩
theorem g45_of {c0 msg1:Value} {H:AH} {R:Value→AH→Prop} (h:g45 c0 msg1 H R):FN Tryz.prog 45 [c0,msg1] H R:=
  FN.of_XD mixed xd45_ok (by kernel_rfl) (Nat.le_of_ble_eq_true rfl) (cast (by kernel_rfl) h)
def xd46:XD:=(.seq (.reg [yS 0 4 .mov [oC (nv 0)]]) (.seq (.reg [yS 0 5 .mov [oC (nv 0)]]) (.seq (.seq (.reg [yS 0 6 .mov [oC (nv 0)]]) (.block 0 (.loop [5,6] 16777184 (.seq (.seq (.reg [yS 0 7 .mov [oT 6],yS 1 8 .mov [oT 0],yS 2 9 .lenS [oT 8],yS 3 10 (.bin .lss 0) [oT 7,oT 9]]) (.cond (oT 10) .skip (.exit 0))) (.join [5] 16769056 (.block 1 (.seq (.reg [yS 0 13 .mov [oT 0],yS 1 14 .mov [oT 6],yS 2 15 (.ixS 1) [oT 13,oT 14],yS 3 16 (.ld none) [oT 15],yS 4 17 .mov [oT 1],yS 5 18 .mov [oT 6],yS 6 19 (.ixS 1) [oT 17,oT 18],yS 7 20 (.ld none) [oT 19],yS 8 21 (.bin .neq 0) [oT 16,oT 20]]) (.cond (oT 21) (.reg [yS 0 22 .mov [oT 5],yS 1 23 (.bin .add 0) [oT 22,oC (nv 1)],yS 2 5 .mov [oT 23]]) .skip))) (.reg [yS 0 11 .mov [oT 6],yS 1 12 (.bin .add 0) [oT 11,oC (nv 1)],yS 2 6 .mov [oT 12]])))))) (.seq (.reg [yS 0 24 .mov [oT 5],yS 1 4 .mov [oT 24]]) .ret))))
theorem xd46_ok:compF Tryz.prog 46=some ⟨25,[(.tmp 4)],xd46.er⟩:=by kernel_rfl
def g46 (a0 b1:Value) (H:AH) (R:Value→AH→Prop):Prop:=
 @loopV2 (nv 0) (nv 0) H ⟨fun n5 i6 H1 K1 =>
 @bindO (xpure .lenS [a0]) ⟨fun v9 =>
 @bindO (xbin .lss 0 i6 v9) ⟨fun v10 =>
 @condK v10 ⟨fun q=>if q=true then @joinV1 (fun J2=>@bindO (xpure (.ixS 1) [a0,i6]) ⟨fun v15 =>
 @bindO (xload none H1 [v15]) ⟨fun v16 =>
 @bindO (xpure (.ixS 1) [b1,i6]) ⟨fun v19 =>
 @bindO (xload none H1 [v19]) ⟨fun v20 =>
 @bindO (xbin .neq 0 v16 v20) ⟨fun v21 =>
 @condK v21 ⟨fun q=>if q=true then @bindO (xbin .add 0 n5 (nv 1)) ⟨fun v23 =>
 J2 v23 H1⟩ else
 J2 n5 H1⟩⟩⟩⟩⟩⟩) ⟨fun n5a H2 =>
 @bindO (xbin .add 0 i6 (nv 1)) ⟨fun v12 =>
 K1 n5a v12 H2⟩⟩ else
 R n5 H1⟩⟩⟩⟩
theorem g46_of {a0 b1:Value} {H:AH} {R:Value→AH→Prop} (h:g46 a0 b1 H R):FN Tryz.prog 46 [a0,b1] H R:=
  FN.of_XD mixed xd46_ok (by kernel_rfl) (Nat.le_of_ble_eq_true rfl) (cast (by kernel_rfl) h)
def xd60:XD:=(.seq (.reg [yS 0 2 .mov [oC (.slice none 0 0)]]) (.seq (.reg [yS 0 3 .mov [oT 0],yS 1 4 (.make (nv 0) 1 8 3) [oT 3,oT 3],yS 2 2 .mov [oT 4]]) .ret))
theorem xd60_ok:compF Tryz.prog 60=some ⟨5,[(.tmp 2)],xd60.er⟩:=by kernel_rfl
def g60 (n0:Value) (H:AH) (R:Value→AH→Prop):Prop:=
 @bindN (xnew (.make (nv 0) 1 8 3) [n0,n0]) ⟨fun cv4 ev4 mkv4=>@letH (H++[.cells cv4 ev4 none false]) ⟨fun H1 =>
 R (mkv4 H.length) H1⟩⟩
theorem g60_of {n0:Value} {H:AH} {R:Value→AH→Prop} (h:g60 n0 H R):FN Tryz.prog 60 [n0] H R:=
  FN.of_XD mixed xd60_ok (by kernel_rfl) (Nat.le_of_ble_eq_true rfl) (cast (by kernel_rfl) h)
def xd61:XD:=(.seq (.reg [yS 0 3 (.box 76) [oT 0],yS 1 6 .mov [oC (.slice none 0 0)]]) (.seq (.reg [yS 0 16 (.bsl [] 0 [] 31) [],yS 1 7 .mov [oT 16]]) (.seq (.seq (.reg [yS 0 8 .mov [oC (nv 0)]]) (.block 0 (.loop [7,8] 4294836608 (.seq (.seq (.reg [yS 0 17 .mov [oT 8],yS 1 18 .mov [oT 2],yS 2 19 .lenS [oT 18],yS 3 20 (.bin .lss 0) [oT 17,oT 19]]) (.cond (oT 20) .skip (.exit 0))) (.seq (.block 1 (.reg [yS 0 23 .mov [oT 7],yS 1 24 (.bsl [] 0 [] 3) [],yS 2 25 .mov [oT 2],yS 3 26 .mov [oT 8],yS 4 27 (.ixS 1) [oT 25,oT 26],yS 5 28 (.ld none) [oT 27],yS 6 29 (.app 3 1 8) [oT 24,oT 28],yS 7 30 (.bsl [(.slice none 0 0)] 1 [(0,1)] 31) [oT 29],yS 8 31 (.app 31 1 24) [oT 23,oT 30],yS 9 7 .mov [oT 31]])) (.reg [yS 0 21 .mov [oT 8],yS 1 22 (.bin .add 0) [oT 21,oC (nv 1)],yS 2 8 .mov [oT 22]])))))) (.seq (.reg [yS 0 9 .mov [oC (nv 0)]]) (.seq (.seq (.reg [yS 0 10 .mov [oC (nv 0)]]) (.block 2 (.loop [9,10] 85070591730234615865843651853647150592 (.seq (.seq (.reg [yS 0 32 .mov [oT 10],yS 1 33 .mov [oT 1],yS 2 34 (.bin .lss 0) [oT 32,oT 33],yS 3 35 .mov [oT 34],yG (some (35,true)) 4 (some 36) .mov [oT 9],yG (some (35,true)) 5 (some 37) .mov [oT 7],yG (some (35,true)) 6 (some 38) .lenS [oT 37],yG (some (35,true)) 7 (some 39) (.bin .lss 0) [oT 36,oT 38],yS 8 40 .pick [oT 35,oT 39,oC (.bool false)]]) (.cond (oT 40) .skip (.exit 2))) (.join [9] 85070591730234615865843643061849094656 (.block 3 (.seq (.reg [yS 0 43 .mov [oT 9],yS 1 11 .mov [oT 43]]) (.seq (.block 4 (.loop [11] 1152903912420804608 (.seq (.seq (.reg [yS 0 44 .mov [oT 11],yS 1 45 .mov [oT 7],yS 2 46 .lenS [oT 45],yS 3 47 (.bin .lss 0) [oT 44,oT 46],yS 4 48 .mov [oT 47],yG (some (48,true)) 5 (some 49) .mov [oT 7],yG (some (48,true)) 6 (some 50) .mov [oT 11],yG (some (48,true)) 7 (some 51) (.ixS 1) [oT 49,oT 50],yG (some (48,true)) 8 (some 52) (.ld none) [oT 51],yG (some (48,true)) 9 (some 53) .mov [oT 10],yG (some (48,true)) 10 (some 54) (.ixS 1) [oT 52,oT 53],yG (some (48,true)) 11 (some 55) (.ld none) [oT 54],yG (some (48,true)) 12 (some 56) (.bin .eql 0) [oT 55,oC (nv 0)],yS 13 57 .pick [oT 48,oT 56,oC (.bool false)]]) (.cond (oT 57) .skip (.exit 4))) (.block 5 (.reg [yS 0 58 .mov [oT 11],yS 1 59 (.bin .add 0) [oT 58,oC (nv 1)],yS 2 11 .mov [oT 59]]))))) (.seq (.seq (.reg [yS 0 60 .mov [oT 11],yS 1 61 .mov [oT 7],yS 2 62 .lenS [oT 61],yS 3 63 (.bin .eql 0) [oT 60,oT 62]]) (.cond (oT 63) (.exit 3) .skip)) (.seq (.reg [yS 0 64 .mov [oT 7],yS 1 65 .mov [oT 11],yS 2 66 (.ixS 1) [oT 64,oT 65],yS 3 67 (.ld none) [oT 66],yS 4 12 .mov [oT 67]]) (.seq (.reg [yS 0 68 .mov [oT 7],yS 1 69 .mov [oT 11],yS 2 70 .mov [oT 7],yS 3 71 .mov [oT 9],yS 4 72 (.ixS 1) [oT 70,oT 71],yS 5 73 (.ld none) [oT 72],yS 6 74 (.ixS 1) [oT 68,oT 69],yN 7 (.st 1) [oT 74,oT 73]]) (.seq (.reg [yS 0 76 (.ld (some 3)) [oT 3],yS 1 77 .mov [oT 12],yS 2 78 .mov [oT 10],yS 3 79 (.ixS 1) [oT 77,oT 78],yS 4 80 (.ld none) [oT 79],yS 5 81 .call [oF 107,oT 76,oT 80],yS 6 75 .mov [oT 81],yS 7 82 (.ext 0) [oT 75],yS 8 83 (.ext 1) [oT 75],yS 9 13 .mov [oT 82],yS 10 14 .mov [oT 83]]) (.seq (.reg [yS 0 84 .mov [oT 7],yS 1 85 .mov [oT 9],yS 2 86 (.ld (some 3)) [oT 3],yS 3 87 .mov [oT 13],yS 4 88 .mov [oT 12],yS 5 89 .call [oF 74,oT 86,oT 87,oT 88],yS 6 90 (.ixS 1) [oT 84,oT 85],yN 7 (.st 1) [oT 90,oT 89]]) (.seq (.seq (.reg [yS 0 15 .mov [oC (nv 0)]]) (.block 6 (.loop [15] 21267647930082773887890152414687297536 (.seq (.seq (.reg [yS 0 91 .mov [oT 15],yS 1 92 .mov [oT 7],yS 2 93 .lenS [oT 92],yS 3 94 (.bin .lss 0) [oT 91,oT 93]]) (.cond (oT 94) .skip (.exit 6))) (.join [] 21267647774102328937932237777397612544 (.block 7 (.seq (.reg [yS 0 97 .mov [oT 15],yS 1 98 .mov [oT 9],yS 2 99 (.bin .neq 0) [oT 97,oT 98]]) (.cond (oT 99) (.reg [yS 0 100 .mov [oT 7],yS 1 101 .mov [oT 15],⟨none,(.ld (some 3)),[oT 3],some 102,2,true,[]⟩,yS 3 103 .mov [oT 7],yS 4 104 .mov [oT 15],yS 5 105 (.ixS 1) [oT 103,oT 104],⟨none,(.ld none),[oT 105],some 106,6,true,[]⟩,⟨none,(.ld (some 3)),[oT 3],some 107,7,true,[]⟩,yS 8 108 (.ld (some 3)) [oT 3],yS 9 109 .mov [oT 7],yS 10 110 .mov [oT 15],yS 11 111 (.ixS 1) [oT 109,oT 110],yS 12 112 (.ld none) [oT 111],yS 13 113 .mov [oT 10],yS 14 114 (.ixS 1) [oT 112,oT 113],yS 15 115 (.ld none) [oT 114],yS 17 117 .mov [oT 7],yS 18 118 .mov [oT 9],yS 19 119 (.ixS 1) [oT 117,oT 118],⟨none,(.ld none),[oT 119],some 120,20,true,[]⟩,⟨none,.call,[oF 81,oT 108,oT 115],some 116,16,false,[20,7,6,2]⟩,⟨none,.call,[oF 74,oT 107,oT 116,oT 120],some 121,21,false,[6,2]⟩,yS 22 122 .call [oF 108,oT 102,oT 106,oT 121],yS 23 123 (.ixS 1) [oT 100,oT 101],yN 24 (.st 1) [oT 123,oT 122]]) .skip))) (.reg [yS 0 95 .mov [oT 15],yS 1 96 (.bin .add 0) [oT 95,oC (nv 1)],yS 2 15 .mov [oT 96]])))))) (.reg [yS 0 124 .mov [oT 9],yS 1 125 (.bin .add 0) [oT 124,oC (nv 1)],yS 2 9 .mov [oT 125]])))))))))) (.reg [yS 0 41 .mov [oT 10],yS 1 42 (.bin .add 0) [oT 41,oC (nv 1)],yS 2 10 .mov [oT 42]])))))) (.seq (.reg [yS 0 126 .mov [oT 7],yS 1 127 .mov [oT 9],yS 2 128 (.slS 1 false true) [oT 126,oT 127],yS 3 6 .mov [oT 128]]) .ret))))))
theorem xd61_ok:compF Tryz.prog 61=some ⟨129,[(.tmp 6)],xd61.er⟩:=by kernel_rfl
def g61 (f0 n1 rows2:Value) (H:AH) (R:Value→AH→Prop):Prop:=
 @letH (H++[.cells (cellsL f0) 76 none false]) ⟨fun H1 =>
 @bindL (xfill [] [] []) ⟨fun cv16=>@letH (H1++[.cells cv16 31 none false]) ⟨fun H2 =>
 @loopV2 (.slice (some ⟨H1.length,0,none⟩) 0 0) (nv 0) H2 ⟨fun m7 i8 H3 K1 =>
 @bindO (xpure .lenS [rows2]) ⟨fun v19 =>
 @bindO (xbin .lss 0 i8 v19) ⟨fun v20 =>
 @condK v20 ⟨fun q=>if q=true then @bindL (xfill [] [] []) ⟨fun cv24=>@letH (H3++[.cells cv24 3 none false]) ⟨fun H4 =>
 @bindO (xpure (.ixS 1) [rows2,i8]) ⟨fun v27 =>
 @bindO (xload none H4 [v27]) ⟨fun v28 =>
 @bindP (xact (.app 3 1 8) H4 [(.slice (some ⟨H3.length,0,none⟩) 0 0),v28]) ⟨fun v29 H5 =>
 @bindL (xfill [(.slice none 0 0)] [(0,1)] [v29]) ⟨fun cv30=>@letH (H5++[.cells cv30 31 none false]) ⟨fun H6 =>
 @bindP (xact (.app 31 1 24) H6 [m7,(.slice (some ⟨H5.length,0,none⟩) 1 1)]) ⟨fun v31 H7 =>
 @bindO (xbin .add 0 i8 (nv 1)) ⟨fun v22 =>
 K1 v31 v22 H7⟩⟩⟩⟩⟩⟩⟩⟩⟩ else
 @loopV2 (nv 0) (nv 0) H3 ⟨fun r9 c10 H8 K2 =>
 @bindO (xbin .lss 0 c10 n1) ⟨fun v34 =>
 @guardJ (asB v34) (fun J3=>J3 r9 H8) H8 ⟨fun v36 H9 =>
 @guardJ (asB v34) (fun J4=>J4 m7 H9) H9 ⟨fun v37 H10 =>
 @guardJ (asB v34) (fun J5=>@bindO (xpure .lenS [v37]) ⟨fun v38 =>
 J5 v38 H10⟩) H10 ⟨fun v38a H11 =>
 @guardJ (asB v34) (fun J6=>@bindO (xbin .lss 0 v36 v38a) ⟨fun v39 =>
 J6 v39 H11⟩) H11 ⟨fun v39a H12 =>
 @pickK v34 v39a (.bool false) ⟨fun v40 =>
 @condK v40 ⟨fun q=>if q=true then @joinV1 (fun J7=>@loopV1 r9 H12 ⟨fun p11 H13 K8 =>
 @bindO (xpure .lenS [m7]) ⟨fun v46 =>
 @bindO (xbin .lss 0 p11 v46) ⟨fun v47 =>
 @guardJ (asB v47) (fun J9=>J9 m7 H13) H13 ⟨fun v49 H14 =>
 @guardJ (asB v47) (fun J10=>J10 p11 H14) H14 ⟨fun v50 H15 =>
 @guardJ (asB v47) (fun J11=>@bindO (xpure (.ixS 1) [v49,v50]) ⟨fun v51 =>
 J11 v51 H15⟩) H15 ⟨fun v51a H16 =>
 @guardJ (asB v47) (fun J12=>@bindO (xload none H16 [v51a]) ⟨fun v52 =>
 J12 v52 H16⟩) H16 ⟨fun v52a H17 =>
 @guardJ (asB v47) (fun J13=>J13 c10 H17) H17 ⟨fun v53 H18 =>
 @guardJ (asB v47) (fun J14=>@bindO (xpure (.ixS 1) [v52a,v53]) ⟨fun v54 =>
 J14 v54 H18⟩) H18 ⟨fun v54a H19 =>
 @guardJ (asB v47) (fun J15=>@bindO (xload none H19 [v54a]) ⟨fun v55 =>
 J15 v55 H19⟩) H19 ⟨fun v55a H20 =>
 @guardJ (asB v47) (fun J16=>@bindO (xbin .eql 0 v55a (nv 0)) ⟨fun v56 =>
 J16 v56 H20⟩) H20 ⟨fun v56a H21 =>
 @pickK v47 v56a (.bool false) ⟨fun v57 =>
 @condK v57 ⟨fun q=>if q=true then @bindO (xbin .add 0 p11 (nv 1)) ⟨fun v59 =>
 K8 v59 H21⟩ else
 @bindO (xpure .lenS [m7]) ⟨fun v62 =>
 @bindO (xbin .eql 0 p11 v62) ⟨fun v63 =>
 @condK v63 ⟨fun q=>if q=true then J7 r9 H21 else
 @bindO (xpure (.ixS 1) [m7,p11]) ⟨fun v66 =>
 @bindO (xload none H21 [v66]) ⟨fun v67 =>
 @bindO (xpure (.ixS 1) [m7,r9]) ⟨fun v72 =>
 @bindO (xload none H21 [v72]) ⟨fun v73 =>
 @bindO (xpure (.ixS 1) [m7,p11]) ⟨fun v74 =>
 @bindP (xact (.st 1) H21 [v74,v73]) ⟨fun _v H22 =>
 @bindO (xload (some 3) H22 [(.pointer (some ⟨H.length,0,none⟩))]) ⟨fun v76 =>
 @bindO (xpure (.ixS 1) [v67,c10]) ⟨fun v79 =>
 @bindO (xload none H22 [v79]) ⟨fun v80 =>
 @cG 107 [v76,v80] H22 ⟨fun v81 H23 =>
 @bindO (xpure (.ext 0) [v81]) ⟨fun v82 =>
 @bindO (xpure (.ext 1) [v81]) ⟨fun v83 =>
 @bindO (xload (some 3) H23 [(.pointer (some ⟨H.length,0,none⟩))]) ⟨fun v86 =>
 @cG 74 [v86,v82,v67] H23 ⟨fun v89 H24 =>
 @bindO (xpure (.ixS 1) [m7,r9]) ⟨fun v90 =>
 @bindP (xact (.st 1) H24 [v90,v89]) ⟨fun _v H25 =>
 @loopV1 (nv 0) H25 ⟨fun k15 H26 K17 =>
 @bindO (xpure .lenS [m7]) ⟨fun v93 =>
 @bindO (xbin .lss 0 k15 v93) ⟨fun v94 =>
 @condK v94 ⟨fun q=>if q=true then @joinV0 (fun J18=>@bindO (xbin .neq 0 k15 r9) ⟨fun v99 =>
 @condK v99 ⟨fun q=>if q=true then @bindO (xload (some 3) H26 [(.pointer (some ⟨H.length,0,none⟩))]) ⟨fun v102 =>
 @bindO (xpure (.ixS 1) [m7,k15]) ⟨fun v105 =>
 @bindO (xload none H26 [v105]) ⟨fun v106 =>
 @bindO (xload (some 3) H26 [(.pointer (some ⟨H.length,0,none⟩))]) ⟨fun v107 =>
 @bindO (xload (some 3) H26 [(.pointer (some ⟨H.length,0,none⟩))]) ⟨fun v108 =>
 @bindO (xpure (.ixS 1) [m7,k15]) ⟨fun v111 =>
 @bindO (xload none H26 [v111]) ⟨fun v112 =>
 @bindO (xpure (.ixS 1) [v112,c10]) ⟨fun v114 =>
 @bindO (xload none H26 [v114]) ⟨fun v115 =>
 @bindO (xpure (.ixS 1) [m7,r9]) ⟨fun v119 =>
 @bindO (xload none H26 [v119]) ⟨fun v120 =>
 @cG 81 [v108,v115] H26 ⟨fun v116 H27 =>
 (chkX [20,7,6,2] (⟨20,none,[v119],v120⟩ :: (⟨7,(some 3),[(.pointer (some ⟨H.length,0,none⟩))],v107⟩ :: (⟨6,none,[v105],v106⟩ :: (⟨2,(some 3),[(.pointer (some ⟨H.length,0,none⟩))],v102⟩ :: [])))) H27∧@cG 74 [v107,v116,v120] H27 ⟨fun v121 H28 =>
 (chkX [6,2] (⟨20,none,[v119],v120⟩ :: (⟨7,(some 3),[(.pointer (some ⟨H.length,0,none⟩))],v107⟩ :: (⟨6,none,[v105],v106⟩ :: (⟨2,(some 3),[(.pointer (some ⟨H.length,0,none⟩))],v102⟩ :: [])))) H28∧@cG 108 [v102,v106,v121] H28 ⟨fun v122 H29 =>
 @bindO (xpure (.ixS 1) [m7,k15]) ⟨fun v123 =>
 @bindP (xact (.st 1) H29 [v123,v122]) ⟨fun _v H30 =>
 J18 H30⟩⟩⟩)⟩)⟩⟩⟩⟩⟩⟩⟩⟩⟩⟩⟩⟩ else
 J18 H26⟩⟩) ⟨fun H31 =>
 @bindO (xbin .add 0 k15 (nv 1)) ⟨fun v96 =>
 K17 v96 H31⟩⟩ else
 @bindO (xbin .add 0 r9 (nv 1)) ⟨fun v125 =>
 J7 v125 H26⟩⟩⟩⟩⟩⟩⟩⟩⟩⟩⟩⟩⟩⟩⟩⟩⟩⟩⟩⟩⟩⟩⟩⟩⟩⟩⟩⟩⟩⟩⟩⟩⟩⟩⟩⟩⟩) ⟨fun r9a H32 =>
 @bindO (xbin .add 0 c10 (nv 1)) ⟨fun v42 =>
 K2 r9a v42 H32⟩⟩ else
 @bindO (xpure (.slS 1 false true) [m7,r9]) ⟨fun v128 =>
 R v128 H12⟩⟩⟩⟩⟩⟩⟩⟩⟩⟩⟩⟩⟩⟩⟩⟩
theorem g61_of {f0 n1 rows2:Value} {H:AH} {R:Value→AH→Prop} (h:g61 f0 n1 rows2 H R):FN Tryz.prog 61 [f0,n1,rows2] H R:=
  FN.of_XD mixed xd61_ok (by kernel_rfl) (Nat.le_of_ble_eq_true rfl) (cast (by kernel_rfl) h)
def xd62:XD:=(.seq (.reg [yS 0 2 (.new [(nv 0),(nv 0),(.slice none 0 0)] 76) []]) (.seq (.reg [yS 0 6 .mov [oT 0],yS 1 7 .call [oF 109,oT 6],yS 2 5 .mov [oT 7],yS 3 8 (.ext 0) [oT 5],yS 4 9 (.ext 1) [oT 5],yS 5 3 (.new [(nv 0),(nv 0),(.slice none 0 0)] 76) [],yN 6 (.st 3) [oT 3,oT 8],yS 7 4 .mov [oT 9]]) (.seq (.reg [yS 0 10 (.ld (some 3)) [oT 3],yN 1 (.st 3) [oT 2,oT 10]]) .ret)))
theorem xd62_ok:compF Tryz.prog 62=some ⟨11,[(.cell 2 (some 3))],xd62.er⟩:=by kernel_rfl
def g62 (q0:Value) (H:AH) (R:Value→AH→Prop):Prop:=
 @letH (H++[.cells [(nv 0),(nv 0),(.slice none 0 0)] 76 none false]) ⟨fun H1 =>
 @cG 109 [q0] H1 ⟨fun v7 H2 =>
 @bindO (xpure (.ext 0) [v7]) ⟨fun v8 =>
 @bindO (xpure (.ext 1) [v7]) ⟨fun v9 =>
 @letH (H2++[.cells [(nv 0),(nv 0),(.slice none 0 0)] 76 none false]) ⟨fun H3 =>
 @bindP (xact (.st 3) H3 [(.pointer (some ⟨H2.length,0,none⟩)),v8]) ⟨fun _v H4 =>
 @bindO (xload (some 3) H4 [(.pointer (some ⟨H2.length,0,none⟩))]) ⟨fun v10 =>
 @bindP (xact (.st 3) H4 [(.pointer (some ⟨H.length,0,none⟩)),v10]) ⟨fun _v H5 =>
 @bindO (xload (some 3) H5 [(.pointer (some ⟨H.length,0,none⟩))]) ⟨fun r0=>R r0 H5⟩⟩⟩⟩⟩⟩⟩⟩⟩
theorem g62_of {q0:Value} {H:AH} {R:Value→AH→Prop} (h:g62 q0 H R):FN Tryz.prog 62 [q0] H R:=
  FN.of_XD mixed xd62_ok (by kernel_rfl) (Nat.le_of_ble_eq_true rfl) (cast (by kernel_rfl) h)
def xd64:XD:=(.seq (.reg [yS 0 2 (.box 29) [oT 0],yS 1 3 (.box 29) [oT 1],yS 2 4 .mov [oC (.bool false)]]) (.seq (.reg [yS 0 5 (.fld 0) [oT 2],yS 1 6 (.ld none) [oT 5],yS 2 7 (.fld 0) [oT 3],yS 3 8 (.ld none) [oT 7],yS 4 9 (.bin .eql 0) [oT 6,oT 8],yS 5 10 .mov [oT 9],yG (some (10,true)) 6 (some 11) (.fld 1) [oT 2],yG (some (10,true)) 7 (some 12) (.ld none) [oT 11],yG (some (10,true)) 8 (some 13) (.fld 1) [oT 3],yG (some (10,true)) 9 (some 14) (.ld none) [oT 13],yG (some (10,true)) 10 (some 15) (.bin .eql 0) [oT 12,oT 14],yS 11 16 .pick [oT 10,oT 15,oC (.bool false)],yS 12 17 .mov [oT 16],yG (some (17,true)) 13 (some 18) (.fld 2) [oT 2],yG (some (17,true)) 14 (some 19) (.ld none) [oT 18],yG (some (17,true)) 15 (some 20) (.fld 2) [oT 3],yG (some (17,true)) 16 (some 21) (.ld none) [oT 20],yG (some (17,true)) 17 (some 22) .call [oF 91,oT 19,oT 21],yS 18 23 .pick [oT 17,oT 22,oC (.bool false)],yS 19 4 .mov [oT 23]]) .ret))
theorem xd64_ok:compF Tryz.prog 64=some ⟨24,[(.tmp 4)],xd64.er⟩:=by kernel_rfl
def xd65:XD:=(.seq (.reg [yS 0 1 (.box 29) [oT 0],yS 1 2 (.new [(nv 0),(nv 0),(.slice none 0 0)] 29) [],yS 2 3 .mov [oC (nv 0)]]) (.seq (.seq (.reg [yS 0 6 (.fld 1) [oT 1],yS 1 7 (.ld none) [oT 6],yS 2 8 (.bin .geq 0) [oT 7,oC (nv 24)]]) (.cond (oT 8) (.seq (.reg [yS 0 9 .call [oF 110,oC (nv 2)],yS 1 10 (.ext 0) [oT 9],yS 2 11 (.ext 1) [oT 9],yN 3 (.st 3) [oT 2,oT 10],yS 4 3 .mov [oT 11]]) .ret) .skip)) (.seq (.reg [yS 0 13 (.fld 0) [oT 1],yS 1 14 (.ld none) [oT 13],yS 2 15 .call [oF 111,oT 14],yS 3 12 .mov [oT 15],yS 4 16 (.ext 0) [oT 12],yS 5 17 (.ext 1) [oT 12],yS 6 4 (.new [(nv 0),(nv 0),(.slice none 0 0)] 76) [],yN 7 (.st 3) [oT 4,oT 16],yS 8 5 .mov [oT 17]]) (.seq (.reg [yS 0 18 (.fld 0) [oT 1],⟨none,(.ld none),[oT 18],some 19,1,true,[]⟩,yS 2 20 (.fld 1) [oT 1],⟨none,(.ld none),[oT 20],some 21,3,true,[]⟩,yS 4 22 (.bin .add 0) [oT 21,oC (nv 1)],yS 5 23 (.fld 2) [oT 1],yS 6 24 (.ld none) [oT 23],yS 7 25 (.fn 114 0 1) [oT 4],⟨none,.call,[oF 113,oT 24,oT 25],some 26,8,false,[3,1]⟩,yS 9 27 .call [oF 112,oT 19,oT 22,oT 26],yS 10 28 (.ext 0) [oT 27],yS 11 29 (.ext 1) [oT 27],yN 12 (.st 3) [oT 2,oT 28],yS 13 3 .mov [oT 29]]) .ret))))
theorem xd65_ok:compF Tryz.prog 65=some ⟨30,[(.cell 2 (some 3)),(.tmp 3)],xd65.er⟩:=by kernel_rfl
def xd67:XD:=(.seq (.reg [yS 0 6 (.new [(nv 0),(nv 0),(.slice none 0 0),(nv 0)] 37) []]) (.seq (.reg [yS 0 7 .mov [oT 0],yS 1 8 .mov [oT 1],yS 2 9 .mov [oT 0],yS 3 10 .call [oF 62,oT 9],yS 4 11 .mov [oT 1],yS 5 12 .mov [oT 2],yS 6 13 .call [oF 61,oT 10,oT 11,oT 12],yS 7 14 (.bld [(nv 0),(nv 0),(.slice none 0 0)] [(0,1),(1,1),(2,1)]) [oT 7,oT 8,oT 13],yS 8 15 (.bld [(nv 0),(nv 0),(.slice none 0 0),(nv 0)] [(0,3)]) [oT 14],yN 9 (.st 4) [oT 6,oT 15]]) .ret))
theorem xd67_ok:compF Tryz.prog 67=some ⟨16,[(.cell 6 (some 4))],xd67.er⟩:=by kernel_rfl
def g67 (q0 n1 rows2:Value) (H:AH) (R:Value→AH→Prop):Prop:=
 @letH (H++[.cells [(nv 0),(nv 0),(.slice none 0 0),(nv 0)] 37 none false]) ⟨fun H1 =>
 @cG 62 [q0] H1 ⟨fun v10 H2 =>
 @cG 61 [v10,n1,rows2] H2 ⟨fun v13 H3 =>
 @bindL (xfill [(nv 0),(nv 0),(.slice none 0 0)] [(0,1),(1,1),(2,1)] [q0,n1,v13]) ⟨fun v14 =>
 @bindL (xfill [(nv 0),(nv 0),(.slice none 0 0),(nv 0)] [(0,3)] [(.agg v14.toArray)]) ⟨fun v15 =>
 @bindP (xact (.st 4) H3 [(.pointer (some ⟨H.length,0,none⟩)),(.agg v15.toArray)]) ⟨fun _v H4 =>
 @bindO (xload (some 4) H4 [(.pointer (some ⟨H.length,0,none⟩))]) ⟨fun r0=>R r0 H4⟩⟩⟩⟩⟩⟩⟩
theorem g67_of {q0 n1 rows2:Value} {H:AH} {R:Value→AH→Prop} (h:g67 q0 n1 rows2 H R):FN Tryz.prog 67 [q0,n1,rows2] H R:=
  FN.of_XD mixed xd67_ok (by kernel_rfl) (Nat.le_of_ble_eq_true rfl) (cast (by kernel_rfl) h)
def xd68:XD:=(.seq (.reg [yS 0 2 (.box 29) [oT 0],yS 1 4 (.new [(nv 0),(nv 0),(.slice none 0 0)] 29) [],yS 2 5 .mov [oC (nv 0)]]) (.seq (.seq (.reg [yS 0 6 (.ld (some 3)) [oT 2],yS 1 7 .mov [oT 1],yS 2 8 .call [oF 117,oT 6,oT 7],yS 3 9 (.un .not) [oT 8]]) (.cond (oT 9) (.seq (.reg [yS 0 10 .call [oF 110,oC (nv 1)],yS 1 11 (.ext 0) [oT 10],yS 2 12 (.ext 1) [oT 10],yN 3 (.st 3) [oT 4,oT 11],yS 4 5 .mov [oT 12]]) .ret) .skip)) (.seq (.reg [yS 0 13 (.fld 0) [oT 2],⟨none,(.ld none),[oT 13],some 14,1,true,[]⟩,yS 2 15 (.fld 1) [oT 2],⟨none,(.ld none),[oT 15],some 16,3,true,[]⟩,yS 4 17 (.bin .sub 0) [oT 16,oC (nv 1)],yS 5 18 (.fld 2) [oT 2],⟨none,(.ld none),[oT 18],some 19,6,true,[]⟩,yS 7 20 .mov [oT 1],⟨none,.call,[oF 118,oT 20],some 21,8,false,[6,3,1]⟩,⟨none,.call,[oF 113,oT 19,oT 21],some 22,9,false,[3,1]⟩,yS 10 23 .call [oF 112,oT 14,oT 17,oT 22],yS 11 24 (.ext 0) [oT 23],yS 12 25 (.ext 1) [oT 23],yN 13 (.st 3) [oT 4,oT 24],yS 14 5 .mov [oT 25]]) .ret)))
theorem xd68_ok:compF Tryz.prog 68=some ⟨26,[(.cell 4 (some 3)),(.tmp 5)],xd68.er⟩:=by kernel_rfl
def xd70:XD:=(.seq (.reg [yS 0 2 (.box 29) [oT 0],yS 1 3 (.box 3) [oT 1],yS 2 4 (.new [(nv 0),(nv 0),(.slice none 0 0)] 29) [],yS 3 5 .mov [oC (nv 0)]]) (.seq (.seq (.reg [yS 0 7 (.ld (some 3)) [oT 2],yS 1 8 (.ld none) [oT 3],yS 2 9 .call [oF 117,oT 7,oT 8],yS 3 10 (.un .not) [oT 9]]) (.cond (oT 10) (.seq (.reg [yS 0 11 .call [oF 110,oC (nv 1)],yS 1 12 (.ext 0) [oT 11],yS 2 13 (.ext 1) [oT 11],yN 3 (.st 3) [oT 4,oT 12],yS 4 5 .mov [oT 13]]) .ret) .skip)) (.seq (.reg [yS 0 14 (.fld 0) [oT 2],yS 1 15 (.ld none) [oT 14],yS 2 16 (.fld 2) [oT 2],yS 3 17 (.ld none) [oT 16],yS 4 18 (.fn 120 0 1) [oT 3],yS 5 19 .call [oF 119,oT 15,oT 17,oT 18],yS 6 6 .mov [oT 19]]) (.seq (.reg [yS 0 20 (.fld 0) [oT 2],⟨none,(.ld none),[oT 20],some 21,1,true,[]⟩,yS 2 22 (.fld 1) [oT 2],⟨none,(.ld none),[oT 22],some 23,3,true,[]⟩,yS 4 24 (.bin .sub 0) [oT 23,oC (nv 1)],yS 5 25 .mov [oT 6],yS 6 26 (.ld none) [oT 3],⟨none,.call,[oF 118,oT 26],some 27,7,false,[3,1]⟩,⟨none,.call,[oF 113,oT 25,oT 27],some 28,8,false,[3,1]⟩,yS 9 29 .call [oF 112,oT 21,oT 24,oT 28],yS 10 30 (.ext 0) [oT 29],yS 11 31 (.ext 1) [oT 29],yN 12 (.st 3) [oT 4,oT 30],yS 13 5 .mov [oT 31]]) .ret))))
theorem xd70_ok:compF Tryz.prog 70=some ⟨32,[(.cell 4 (some 3)),(.tmp 5)],xd70.er⟩:=by kernel_rfl
def xd71:XD:=(.seq (.reg [yS 0 2 (.box 29) [oT 0],yS 1 3 (.box 29) [oT 1],yS 2 4 (.new [(nv 0),(nv 0),(.slice none 0 0)] 29) [],yS 3 5 .mov [oC (nv 0)]]) (.seq (.block 0 (.seq (.reg [yS 0 9 (.fld 0) [oT 2],yS 1 10 (.ld none) [oT 9],yS 2 11 (.fld 0) [oT 3],yS 3 12 (.ld none) [oT 11],yS 4 13 (.bin .neq 0) [oT 10,oT 12],yS 5 8 .mov [oT 13]]) (.cond (oT 8) (.seq (.reg [yS 0 14 .call [oF 110,oC (nv 1)],yS 1 15 (.ext 0) [oT 14],yS 2 16 (.ext 1) [oT 14],yN 3 (.st 3) [oT 4,oT 15],yS 4 5 .mov [oT 16]]) .ret) (.seq (.reg [yS 0 18 (.fld 1) [oT 2],yS 1 19 (.ld none) [oT 18],yS 2 20 (.fld 1) [oT 3],yS 3 21 (.ld none) [oT 20],yS 4 22 (.bin .add 0) [oT 19,oT 21],yS 5 23 (.bin .gtr 0) [oT 22,oC (nv 24)],yS 6 17 .mov [oT 23]]) (.cond (oT 17) (.seq (.reg [yS 0 24 .call [oF 110,oC (nv 2)],yS 1 25 (.ext 0) [oT 24],yS 2 26 (.ext 1) [oT 24],yN 3 (.st 3) [oT 4,oT 25],yS 4 5 .mov [oT 26]]) .ret) .skip))))) (.seq (.reg [yS 0 27 (.fld 2) [oT 2],yS 1 28 (.ld none) [oT 27],yS 2 29 (.fn 121 0 1) [oT 3],yS 3 30 .call [oF 113,oT 28,oT 29],yS 4 6 .mov [oT 30]]) (.seq (.reg [yS 0 31 (.fld 2) [oT 3],yS 1 32 (.ld none) [oT 31],yS 2 33 (.fn 123 0 1) [oT 2],yS 3 34 .call [oF 113,oT 32,oT 33],yS 4 7 .mov [oT 34]]) (.seq (.reg [yS 0 35 (.fld 0) [oT 2],⟨none,(.ld none),[oT 35],some 36,1,true,[]⟩,yS 2 37 (.fld 1) [oT 2],⟨none,(.ld none),[oT 37],some 38,3,true,[]⟩,yS 4 39 (.fld 1) [oT 3],⟨none,(.ld none),[oT 39],some 40,5,true,[]⟩,yS 6 41 (.bin .add 0) [oT 38,oT 40],yS 7 42 .mov [oT 6],yS 8 43 .mov [oT 7],yS 9 44 (.bsl [(.slice none 0 0),(.slice none 0 0)] 2 [(0,1),(1,1)] 27) [oT 42,oT 43],⟨none,.call,[oF 124,oT 44],some 45,10,false,[5,3,1]⟩,yS 11 46 .call [oF 112,oT 36,oT 41,oT 45],yS 12 47 (.ext 0) [oT 46],yS 13 48 (.ext 1) [oT 46],yN 14 (.st 3) [oT 4,oT 47],yS 15 5 .mov [oT 48]]) .ret)))))
theorem xd71_ok:compF Tryz.prog 71=some ⟨49,[(.cell 4 (some 3)),(.tmp 5)],xd71.er⟩:=by kernel_rfl
def xd72:XD:=(.seq (.reg [yS 0 2 (.box 29) [oT 0],yS 1 3 (.box 29) [oT 1],yS 2 4 (.new [(nv 0),(nv 0),(.slice none 0 0)] 29) [],yS 3 5 .mov [oC (nv 0)]]) (.seq (.block 0 (.seq (.reg [yS 0 9 (.fld 0) [oT 2],yS 1 10 (.ld none) [oT 9],yS 2 11 (.fld 0) [oT 3],yS 3 12 (.ld none) [oT 11],yS 4 13 (.bin .neq 0) [oT 10,oT 12],yS 5 14 .mov [oT 13],yG (some (14,false)) 6 (some 15) (.fld 1) [oT 2],yG (some (14,false)) 7 (some 16) (.ld none) [oT 15],yG (some (14,false)) 8 (some 17) (.fld 1) [oT 3],yG (some (14,false)) 9 (some 18) (.ld none) [oT 17],yG (some (14,false)) 10 (some 19) (.bin .neq 0) [oT 16,oT 18],yS 11 20 .pick [oT 14,oC (.bool true),oT 19],yS 12 8 .mov [oT 20]]) (.cond (oT 8) (.seq (.reg [yS 0 21 .call [oF 110,oC (nv 1)],yS 1 22 (.ext 0) [oT 21],yS 2 23 (.ext 1) [oT 21],yN 3 (.st 3) [oT 4,oT 22],yS 4 5 .mov [oT 23]]) .ret) (.seq (.reg [yS 0 25 (.fld 1) [oT 2],yS 1 26 (.ld none) [oT 25],yS 2 27 (.bin .mul 0) [oC (nv 2),oT 26],yS 3 28 (.bin .gtr 0) [oT 27,oC (nv 24)],yS 4 24 .mov [oT 28]]) (.cond (oT 24) (.seq (.reg [yS 0 29 .call [oF 110,oC (nv 2)],yS 1 30 (.ext 0) [oT 29],yS 2 31 (.ext 1) [oT 29],yN 3 (.st 3) [oT 4,oT 30],yS 4 5 .mov [oT 31]]) .ret) .skip))))) (.seq (.reg [yS 0 32 (.fld 2) [oT 2],yS 1 33 (.ld none) [oT 32],yS 2 34 .call [oF 113,oT 33,oF 125],yS 3 6 .mov [oT 34]]) (.seq (.reg [yS 0 35 (.fld 2) [oT 3],yS 1 36 (.ld none) [oT 35],yS 2 37 (.fn 126 0 1) [oT 2],yS 3 38 .call [oF 113,oT 36,oT 37],yS 4 7 .mov [oT 38]]) (.seq (.reg [yS 0 39 (.fld 0) [oT 2],⟨none,(.ld none),[oT 39],some 40,1,true,[]⟩,yS 2 41 (.fld 1) [oT 2],⟨none,(.ld none),[oT 41],some 42,3,true,[]⟩,yS 4 43 (.bin .mul 0) [oC (nv 2),oT 42],yS 5 44 .mov [oT 6],yS 6 45 .mov [oT 7],yS 7 46 (.bsl [(.slice none 0 0),(.slice none 0 0)] 2 [(0,1),(1,1)] 27) [oT 44,oT 45],⟨none,.call,[oF 124,oT 46],some 47,8,false,[3,1]⟩,yS 9 48 .call [oF 112,oT 40,oT 43,oT 47],yS 10 49 (.ext 0) [oT 48],yS 11 50 (.ext 1) [oT 48],yN 12 (.st 3) [oT 4,oT 49],yS 13 5 .mov [oT 50]]) .ret)))))
theorem xd72_ok:compF Tryz.prog 72=some ⟨51,[(.cell 4 (some 3)),(.tmp 5)],xd72.er⟩:=by kernel_rfl
def xd73:XD:=(.seq (.reg [yS 0 2 (.box 29) [oT 0],yS 1 3 (.box 29) [oT 1],yS 2 4 (.new [(nv 0),(nv 0),(.slice none 0 0)] 29) [],yS 3 5 .mov [oC (nv 0)]]) (.seq (.block 0 (.seq (.reg [yS 0 11 (.fld 0) [oT 2],yS 1 12 (.ld none) [oT 11],yS 2 13 (.bin .neq 0) [oT 12,oC (nv 4)],yS 3 14 .mov [oT 13],yG (some (14,false)) 4 (some 15) (.fld 0) [oT 3],yG (some (14,false)) 5 (some 16) (.ld none) [oT 15],yG (some (14,false)) 6 (some 17) (.bin .neq 0) [oT 16,oC (nv 2)],yS 7 18 .pick [oT 14,oC (.bool true),oT 17],yS 8 19 .mov [oT 18],yG (some (19,false)) 9 (some 20) (.fld 2) [oT 3],yG (some (19,false)) 10 (some 21) (.ld none) [oT 20],yG (some (19,false)) 11 (some 22) .lenS [oT 21],yG (some (19,false)) 12 (some 23) (.bin .neq 0) [oT 22,oC (nv 2)],yS 13 24 .pick [oT 19,oC (.bool true),oT 23],yS 14 10 .mov [oT 24]]) (.cond (oT 10) (.seq (.reg [yS 0 25 .call [oF 110,oC (nv 1)],yS 1 26 (.ext 0) [oT 25],yS 2 27 (.ext 1) [oT 25],yN 3 (.st 3) [oT 4,oT 26],yS 4 5 .mov [oT 27]]) .ret) (.seq (.reg [yS 0 29 (.fld 1) [oT 2],yS 1 30 (.ld none) [oT 29],yS 2 31 (.fld 1) [oT 3],yS 3 32 (.ld none) [oT 31],yS 4 33 (.bin .mul 0) [oT 30,oT 32],yS 5 34 (.bin .gtr 0) [oT 33,oC (nv 24)],yS 6 28 .mov [oT 34]]) (.cond (oT 28) (.seq (.reg [yS 0 35 .call [oF 110,oC (nv 2)],yS 1 36 (.ext 0) [oT 35],yS 2 37 (.ext 1) [oT 35],yN 3 (.st 3) [oT 4,oT 36],yS 4 5 .mov [oT 37]]) .ret) .skip))))) (.seq (.reg [yS 0 38 (.fn 127 0 1) [oT 3],yS 1 6 .mov [oT 38]]) (.seq (.reg [yS 0 40 .call [oF 111,oC (nv 4)],yS 1 39 .mov [oT 40],yS 2 41 (.ext 0) [oT 39],yS 3 42 (.ext 1) [oT 39],yS 4 7 (.new [(nv 0),(nv 0),(.slice none 0 0)] 76) [],yN 5 (.st 3) [oT 7,oT 41],yS 6 8 .mov [oT 42]]) (.seq (.reg [yS 0 43 (.fld 2) [oT 2],yS 1 44 (.ld none) [oT 43],yS 2 45 (.fn 128 0 1) [oT 7],yS 3 46 .call [oF 113,oT 44,oT 45],yS 4 9 .mov [oT 46]]) (.seq (.reg [yS 0 47 (.fld 1) [oT 2],⟨none,(.ld none),[oT 47],some 48,1,true,[]⟩,yS 2 49 (.fld 1) [oT 3],⟨none,(.ld none),[oT 49],some 50,3,true,[]⟩,yS 4 51 (.bin .mul 0) [oT 48,oT 50],yS 5 52 (.fld 2) [oT 2],yS 6 53 (.ld none) [oT 52],yS 7 54 .mov [oT 9],yS 8 55 (.bsl [(.slice none 0 0),(.slice none 0 0)] 2 [(0,1),(1,1)] 27) [oT 53,oT 54],yS 10 57 .mov [oT 6],⟨none,.call,[oF 124,oT 55],some 56,9,false,[3,1]⟩,⟨none,.call,[oF 113,oT 56,oT 57],some 58,11,false,[3,1]⟩,yS 12 59 .call [oF 112,oC (nv 2),oT 51,oT 58],yS 13 60 (.ext 0) [oT 59],yS 14 61 (.ext 1) [oT 59],yN 15 (.st 3) [oT 4,oT 60],yS 16 5 .mov [oT 61]]) .ret))))))
theorem xd73_ok:compF Tryz.prog 73=some ⟨62,[(.cell 4 (some 3)),(.tmp 5)],xd73.er⟩:=by kernel_rfl
def g73 (outer0 inner1:Value) (H:AH) (R:Value→AH→Prop):Prop:=
 @letH (H++[.cells (cellsL outer0) 29 none false]) ⟨fun H1 =>
 @letH (H1++[.cells (cellsL inner1) 29 none false]) ⟨fun H2 =>
 @letH (H2++[.cells [(nv 0),(nv 0),(.slice none 0 0)] 29 none false]) ⟨fun H3 =>
 @bindO (xpure (.fld 0) [(.pointer (some ⟨H.length,0,none⟩))]) ⟨fun v11 =>
 @bindO (xload none H3 [v11]) ⟨fun v12 =>
 @bindO (xbin .neq 0 v12 (nv 4)) ⟨fun v13 =>
 @guardJ (asNB v13) (fun J1=>@bindO (xpure (.fld 0) [(.pointer (some ⟨H1.length,0,none⟩))]) ⟨fun v15 =>
 J1 v15 H3⟩) H3 ⟨fun v15a H4 =>
 @guardJ (asNB v13) (fun J2=>@bindO (xload none H4 [v15a]) ⟨fun v16 =>
 J2 v16 H4⟩) H4 ⟨fun v16a H5 =>
 @guardJ (asNB v13) (fun J3=>@bindO (xbin .neq 0 v16a (nv 2)) ⟨fun v17 =>
 J3 v17 H5⟩) H5 ⟨fun v17a H6 =>
 @pickK v13 (.bool true) v17a ⟨fun v18 =>
 @guardJ (asNB v18) (fun J4=>@bindO (xpure (.fld 2) [(.pointer (some ⟨H1.length,0,none⟩))]) ⟨fun v20 =>
 J4 v20 H6⟩) H6 ⟨fun v20a H7 =>
 @guardJ (asNB v18) (fun J5=>@bindO (xload none H7 [v20a]) ⟨fun v21 =>
 J5 v21 H7⟩) H7 ⟨fun v21a H8 =>
 @guardJ (asNB v18) (fun J6=>@bindO (xpure .lenS [v21a]) ⟨fun v22 =>
 J6 v22 H8⟩) H8 ⟨fun v22a H9 =>
 @guardJ (asNB v18) (fun J7=>@bindO (xbin .neq 0 v22a (nv 2)) ⟨fun v23 =>
 J7 v23 H9⟩) H9 ⟨fun v23a H10 =>
 @pickK v18 (.bool true) v23a ⟨fun v24 =>
 @condK v24 ⟨fun q=>if q=true then @cG 110 [(nv 1)] H10 ⟨fun v25 H11 =>
 @bindO (xpure (.ext 0) [v25]) ⟨fun v26 =>
 @bindO (xpure (.ext 1) [v25]) ⟨fun v27 =>
 @bindP (xact (.st 3) H11 [(.pointer (some ⟨H2.length,0,none⟩)),v26]) ⟨fun _v H12 =>
 @bindO (xload (some 3) H12 [(.pointer (some ⟨H2.length,0,none⟩))]) ⟨fun r0=>R (.tuple [r0,v27].toArray) H12⟩⟩⟩⟩⟩ else
 @bindO (xpure (.fld 1) [(.pointer (some ⟨H.length,0,none⟩))]) ⟨fun v29 =>
 @bindO (xload none H10 [v29]) ⟨fun v30 =>
 @bindO (xpure (.fld 1) [(.pointer (some ⟨H1.length,0,none⟩))]) ⟨fun v31 =>
 @bindO (xload none H10 [v31]) ⟨fun v32 =>
 @bindO (xbin .mul 0 v30 v32) ⟨fun v33 =>
 @bindO (xbin .gtr 0 v33 (nv 24)) ⟨fun v34 =>
 @condK v34 ⟨fun q=>if q=true then @cG 110 [(nv 2)] H10 ⟨fun v35 H13 =>
 @bindO (xpure (.ext 0) [v35]) ⟨fun v36 =>
 @bindO (xpure (.ext 1) [v35]) ⟨fun v37 =>
 @bindP (xact (.st 3) H13 [(.pointer (some ⟨H2.length,0,none⟩)),v36]) ⟨fun _v H14 =>
 @bindO (xload (some 3) H14 [(.pointer (some ⟨H2.length,0,none⟩))]) ⟨fun r0=>R (.tuple [r0,v37].toArray) H14⟩⟩⟩⟩⟩ else
 @bindO (xpure (.fn 127 0 1) [(.pointer (some ⟨H1.length,0,none⟩))]) ⟨fun v38 =>
 @cG 111 [(nv 4)] H10 ⟨fun v40 H15 =>
 @bindO (xpure (.ext 0) [v40]) ⟨fun v41 =>
 @bindO (xpure (.ext 1) [v40]) ⟨fun v42 =>
 @letH (H15++[.cells [(nv 0),(nv 0),(.slice none 0 0)] 76 none false]) ⟨fun H16 =>
 @bindP (xact (.st 3) H16 [(.pointer (some ⟨H15.length,0,none⟩)),v41]) ⟨fun _v H17 =>
 @bindO (xpure (.fld 2) [(.pointer (some ⟨H.length,0,none⟩))]) ⟨fun v43 =>
 @bindO (xload none H17 [v43]) ⟨fun v44 =>
 @bindO (xpure (.fn 128 0 1) [(.pointer (some ⟨H15.length,0,none⟩))]) ⟨fun v45 =>
 @cG 113 [v44,v45] H17 ⟨fun v46 H18 =>
 @bindO (xpure (.fld 1) [(.pointer (some ⟨H.length,0,none⟩))]) ⟨fun v47 =>
 @bindO (xload none H18 [v47]) ⟨fun v48 =>
 @bindO (xpure (.fld 1) [(.pointer (some ⟨H1.length,0,none⟩))]) ⟨fun v49 =>
 @bindO (xload none H18 [v49]) ⟨fun v50 =>
 @bindO (xbin .mul 0 v48 v50) ⟨fun v51 =>
 @bindO (xpure (.fld 2) [(.pointer (some ⟨H.length,0,none⟩))]) ⟨fun v52 =>
 @bindO (xload none H18 [v52]) ⟨fun v53 =>
 @bindL (xfill [(.slice none 0 0),(.slice none 0 0)] [(0,1),(1,1)] [v53,v46]) ⟨fun cv55=>@letH (H18++[.cells cv55 27 none false]) ⟨fun H19 =>
 @cG 124 [(.slice (some ⟨H18.length,0,none⟩) 2 2)] H19 ⟨fun v56 H20 =>
 (chkX [3,1] (⟨3,none,[v49],v50⟩ :: (⟨1,none,[v47],v48⟩ :: [])) H20∧@cG 113 [v56,v38] H20 ⟨fun v58 H21 =>
 (chkX [3,1] (⟨3,none,[v49],v50⟩ :: (⟨1,none,[v47],v48⟩ :: [])) H21∧@cG 112 [(nv 2),v51,v58] H21 ⟨fun v59 H22 =>
 @bindO (xpure (.ext 0) [v59]) ⟨fun v60 =>
 @bindO (xpure (.ext 1) [v59]) ⟨fun v61 =>
 @bindP (xact (.st 3) H22 [(.pointer (some ⟨H2.length,0,none⟩)),v60]) ⟨fun _v H23 =>
 @bindO (xload (some 3) H23 [(.pointer (some ⟨H2.length,0,none⟩))]) ⟨fun r0=>R (.tuple [r0,v61].toArray) H23⟩⟩⟩⟩⟩)⟩)⟩⟩⟩⟩⟩⟩⟩⟩⟩⟩⟩⟩⟩⟩⟩⟩⟩⟩⟩⟩⟩⟩⟩⟩⟩⟩⟩⟩⟩⟩⟩⟩⟩⟩⟩⟩⟩⟩⟩⟩⟩⟩⟩
theorem g73_of {outer0 inner1:Value} {H:AH} {R:Value→AH→Prop} (h:g73 outer0 inner1 H R):FN Tryz.prog 73 [outer0,inner1] H R:=
  FN.of_XD mixed xd73_ok (by kernel_rfl) (Nat.le_of_ble_eq_true rfl) (cast (by kernel_rfl) h)
def xd74:XD:=(.seq (.reg [yS 0 3 (.box 76) [oT 0],yS 1 6 .mov [oC (.slice none 0 0)]]) (.seq (.reg [yS 0 9 (.bsl [] 0 [] 3) [],yS 1 7 .mov [oT 9]]) (.seq (.seq (.reg [yS 0 8 .mov [oC (nv 0)]]) (.block 0 (.loop [7,8] 67108224 (.seq (.seq (.reg [yS 0 10 .mov [oT 8],yS 1 11 .mov [oT 2],yS 2 12 .lenS [oT 11],yS 3 13 (.bin .lss 0) [oT 10,oT 12]]) (.cond (oT 13) .skip (.exit 0))) (.seq (.block 1 (.reg [yS 0 16 .mov [oT 7],yS 1 17 (.ld (some 3)) [oT 3],yS 2 18 .mov [oT 1],yS 3 19 .mov [oT 2],yS 4 20 .mov [oT 8],yS 5 21 (.ixS 1) [oT 19,oT 20],yS 6 22 (.ld none) [oT 21],yS 7 23 .call [oF 132,oT 17,oT 18,oT 22],yS 8 24 (.bsl [(nv 0)] 1 [(0,1)] 3) [oT 23],yS 9 25 (.app 3 1 8) [oT 16,oT 24],yS 10 7 .mov [oT 25]])) (.reg [yS 0 14 .mov [oT 8],yS 1 15 (.bin .add 0) [oT 14,oC (nv 1)],yS 2 8 .mov [oT 15]])))))) (.seq (.reg [yS 0 26 .mov [oT 7],yS 1 6 .mov [oT 26]]) .ret))))
theorem xd74_ok:compF Tryz.prog 74=some ⟨27,[(.tmp 6)],xd74.er⟩:=by kernel_rfl
def g74 (f0 a1 l2:Value) (H:AH) (R:Value→AH→Prop):Prop:=
 @letH (H++[.cells (cellsL f0) 76 none false]) ⟨fun H1 =>
 @bindL (xfill [] [] []) ⟨fun cv9=>@letH (H1++[.cells cv9 3 none false]) ⟨fun H2 =>
 @loopV2 (.slice (some ⟨H1.length,0,none⟩) 0 0) (nv 0) H2 ⟨fun out7 i8 H3 K1 =>
 @bindO (xpure .lenS [l2]) ⟨fun v12 =>
 @bindO (xbin .lss 0 i8 v12) ⟨fun v13 =>
 @condK v13 ⟨fun q=>if q=true then @bindO (xload (some 3) H3 [(.pointer (some ⟨H.length,0,none⟩))]) ⟨fun v17 =>
 @bindO (xpure (.ixS 1) [l2,i8]) ⟨fun v21 =>
 @bindO (xload none H3 [v21]) ⟨fun v22 =>
 @cG 132 [v17,a1,v22] H3 ⟨fun v23 H4 =>
 @bindL (xfill [(nv 0)] [(0,1)] [v23]) ⟨fun cv24=>@letH (H4++[.cells cv24 3 none false]) ⟨fun H5 =>
 @bindP (xact (.app 3 1 8) H5 [out7,(.slice (some ⟨H4.length,0,none⟩) 1 1)]) ⟨fun v25 H6 =>
 @bindO (xbin .add 0 i8 (nv 1)) ⟨fun v15 =>
 K1 v25 v15 H6⟩⟩⟩⟩⟩⟩⟩⟩ else
 R out7 H3⟩⟩⟩⟩⟩⟩⟩
theorem g74_of {f0 a1 l2:Value} {H:AH} {R:Value→AH→Prop} (h:g74 f0 a1 l2 H R):FN Tryz.prog 74 [f0,a1,l2] H R:=
  FN.of_XD mixed xd74_ok (by kernel_rfl) (Nat.le_of_ble_eq_true rfl) (cast (by kernel_rfl) h)
def xd75:XD:=(.seq (.reg [yS 0 1 (.box 29) [oT 0],yS 1 2 (.new [(nv 0),(nv 0),(.slice none 0 0)] 29) [],yS 2 3 .mov [oC (nv 0)]]) (.seq (.seq (.reg [yS 0 4 (.fld 0) [oT 1],yS 1 5 (.ld none) [oT 4],yS 2 6 (.bin .neq 0) [oT 5,oC (nv 2)]]) (.cond (oT 6) (.seq (.reg [yS 0 7 .call [oF 110,oC (nv 1)],yS 1 8 (.ext 0) [oT 7],yS 2 9 (.ext 1) [oT 7],yN 3 (.st 3) [oT 2,oT 8],yS 4 3 .mov [oT 9]]) .ret) .skip)) (.seq (.reg [yS 0 10 (.fld 1) [oT 1],⟨none,(.ld none),[oT 10],some 11,1,true,[]⟩,yS 2 12 (.fld 2) [oT 1],yS 3 13 (.ld none) [oT 12],⟨none,.call,[oF 119,oC (nv 2),oT 13,oF 133],some 14,4,false,[1]⟩,yS 5 15 .call [oF 112,oC (nv 2),oT 11,oT 14],yS 6 16 (.ext 0) [oT 15],yS 7 17 (.ext 1) [oT 15],yN 8 (.st 3) [oT 2,oT 16],yS 9 3 .mov [oT 17]]) .ret)))
theorem xd75_ok:compF Tryz.prog 75=some ⟨18,[(.cell 2 (some 3)),(.tmp 3)],xd75.er⟩:=by kernel_rfl
def xd76:XD:=(.seq (.reg [yS 0 2 (.box 29) [oT 0],yS 1 3 (.box 31) [oT 1],yS 2 4 (.new [(nv 0),(nv 0),(.slice none 0 0)] 29) [],yS 3 5 .mov [oC (nv 0)]]) (.seq (.reg [yS 0 9 (.fld 1) [oT 2],yS 1 10 (.ld none) [oT 9],yS 2 11 (.make (.bool false) 1 1 4) [oT 10,oT 10],yS 3 6 .mov [oT 11]]) (.seq (.seq (.reg [yS 0 12 (.ld none) [oT 3],yS 1 13 .lenS [oT 12],yS 2 14 .mov [oC (nv 0)]]) (.block 0 (.loop [14] 549755797792 (.seq (.reg [yS 0 15 (.bin .lss 0) [oT 14,oT 13]]) (.seq (.cond (oT 15) .skip (.exit 0)) (.seq (.block 1 (.seq (.reg [yS 0 16 (.ixS 1) [oT 12,oT 14],yS 1 17 (.ld none) [oT 16],yS 2 8 .mov [oT 17]]) (.seq (.seq (.reg [yS 0 18 .mov [oT 8],yS 1 19 (.bin .lss 0) [oT 18,oC (nv 0)],yS 2 20 .mov [oT 19],yG (some (20,false)) 3 (some 21) .mov [oT 8],yG (some (20,false)) 4 (some 22) (.fld 1) [oT 2],yG (some (20,false)) 5 (some 23) (.ld none) [oT 22],yG (some (20,false)) 6 (some 24) (.bin .geq 0) [oT 21,oT 23],yS 7 25 .pick [oT 20,oC (.bool true),oT 24],yS 8 26 .mov [oT 25],yG (some (26,false)) 9 (some 27) .mov [oT 6],yG (some (26,false)) 10 (some 28) .mov [oT 8],yG (some (26,false)) 11 (some 29) (.ixS 1) [oT 27,oT 28],yG (some (26,false)) 12 (some 30) (.ld none) [oT 29],yS 13 31 .pick [oT 26,oC (.bool true),oT 30]]) (.cond (oT 31) (.seq (.reg [yS 0 32 .call [oF 110,oC (nv 1)],yS 1 33 (.ext 0) [oT 32],yS 2 34 (.ext 1) [oT 32],yN 3 (.st 3) [oT 4,oT 33],yS 4 5 .mov [oT 34]]) .ret) .skip)) (.reg [yS 0 35 .mov [oT 6],yS 1 36 .mov [oT 8],yS 2 37 (.ixS 1) [oT 35,oT 36],yN 3 (.st 1) [oT 37,oC (.bool true)]])))) (.reg [yS 0 38 (.bin .add 0) [oT 14,oC (nv 1)],yS 1 14 .mov [oT 38]]))))))) (.seq (.seq (.reg [yS 0 39 (.ld none) [oT 3],yS 1 40 .lenS [oT 39],yS 2 41 (.fld 1) [oT 2],yS 3 42 (.ld none) [oT 41],yS 4 43 (.bin .neq 0) [oT 40,oT 42]]) (.cond (oT 43) (.seq (.reg [yS 0 44 .call [oF 110,oC (nv 1)],yS 1 45 (.ext 0) [oT 44],yS 2 46 (.ext 1) [oT 44],yN 3 (.st 3) [oT 4,oT 45],yS 4 5 .mov [oT 46]]) .ret) .skip)) (.seq (.reg [yS 0 47 (.fld 0) [oT 2],⟨none,(.ld none),[oT 47],some 48,1,true,[]⟩,yS 2 49 (.fld 1) [oT 2],⟨none,(.ld none),[oT 49],some 50,3,true,[]⟩,yS 4 51 (.fld 2) [oT 2],yS 5 52 (.ld none) [oT 51],yS 6 53 (.fn 134 0 2) [oT 2,oT 3],⟨none,.call,[oF 113,oT 52,oT 53],some 54,7,false,[3,1]⟩,yS 8 55 .call [oF 112,oT 48,oT 50,oT 54],yS 9 56 (.ext 0) [oT 55],yS 10 57 (.ext 1) [oT 55],yN 11 (.st 3) [oT 4,oT 56],yS 12 5 .mov [oT 57]]) .ret)))))
theorem xd76_ok:compF Tryz.prog 76=some ⟨58,[(.cell 4 (some 3)),(.tmp 5)],xd76.er⟩:=by kernel_rfl
def xd79:XD:=(.seq (.reg [yS 0 6 .mov [oC (.slice none 0 0)]]) (.seq (.reg [yS 0 9 .mov [oT 1],yS 1 10 .call [oF 60,oT 9],yS 2 7 .mov [oT 10]]) (.seq (.seq (.reg [yS 0 8 .mov [oC (nv 0)]]) (.block 0 (.loop [8] 4294965504 (.seq (.seq (.reg [yS 0 11 .mov [oT 8],yS 1 12 .mov [oT 1],yS 2 13 (.bin .lss 0) [oT 11,oT 12],yS 3 14 .mov [oT 13],yG (some (14,true)) 4 (some 15) .mov [oT 8],yG (some (14,true)) 5 (some 16) .mov [oT 2],yG (some (14,true)) 6 (some 17) .lenS [oT 16],yG (some (14,true)) 7 (some 18) (.bin .lss 0) [oT 15,oT 17],yS 8 19 .pick [oT 14,oT 18,oC (.bool false)]]) (.cond (oT 19) .skip (.exit 0))) (.seq (.block 1 (.reg [yS 0 22 .mov [oT 7],yS 1 23 .mov [oT 8],yS 2 24 .mov [oT 2],yS 3 25 .mov [oT 8],yS 4 26 (.ixS 1) [oT 24,oT 25],yS 5 27 (.ld none) [oT 26],yS 6 28 (.conv .i64) [oT 27],yS 7 29 .mov [oT 0],yS 8 30 (.bin .rem 0) [oT 28,oT 29],yS 9 31 (.ixS 1) [oT 22,oT 23],yN 10 (.st 1) [oT 31,oT 30]])) (.reg [yS 0 20 .mov [oT 8],yS 1 21 (.bin .add 0) [oT 20,oC (nv 1)],yS 2 8 .mov [oT 21]])))))) (.seq (.reg [yS 0 32 .mov [oT 7],yS 1 6 .mov [oT 32]]) .ret))))
theorem xd79_ok:compF Tryz.prog 79=some ⟨33,[(.tmp 6)],xd79.er⟩:=by kernel_rfl
def g79 (q0 n1 l2:Value) (H:AH) (R:Value→AH→Prop):Prop:=
 @cG 60 [n1] H ⟨fun v10 H1 =>
 @loopV1 (nv 0) H1 ⟨fun i8 H2 K1 =>
 @bindO (xbin .lss 0 i8 n1) ⟨fun v13 =>
 @guardJ (asB v13) (fun J2=>J2 i8 H2) H2 ⟨fun v15 H3 =>
 @guardJ (asB v13) (fun J3=>J3 l2 H3) H3 ⟨fun v16 H4 =>
 @guardJ (asB v13) (fun J4=>@bindO (xpure .lenS [v16]) ⟨fun v17 =>
 J4 v17 H4⟩) H4 ⟨fun v17a H5 =>
 @guardJ (asB v13) (fun J5=>@bindO (xbin .lss 0 v15 v17a) ⟨fun v18 =>
 J5 v18 H5⟩) H5 ⟨fun v18a H6 =>
 @pickK v13 v18a (.bool false) ⟨fun v19 =>
 @condK v19 ⟨fun q=>if q=true then @bindO (xpure (.ixS 1) [l2,i8]) ⟨fun v26 =>
 @bindO (xload none H6 [v26]) ⟨fun v27 =>
 @bindO (xpure (.conv .i64) [v27]) ⟨fun v28 =>
 @bindO (xbin .rem 0 v28 q0) ⟨fun v30 =>
 @bindO (xpure (.ixS 1) [v10,i8]) ⟨fun v31 =>
 @bindP (xact (.st 1) H6 [v31,v30]) ⟨fun _v H7 =>
 @bindO (xbin .add 0 i8 (nv 1)) ⟨fun v21 =>
 K1 v21 H7⟩⟩⟩⟩⟩⟩⟩ else
 R v10 H6⟩⟩⟩⟩⟩⟩⟩⟩⟩
theorem g79_of {q0 n1 l2:Value} {H:AH} {R:Value→AH→Prop} (h:g79 q0 n1 l2 H R):FN Tryz.prog 79 [q0,n1,l2] H R:=
  FN.of_XD mixed xd79_ok (by kernel_rfl) (Nat.le_of_ble_eq_true rfl) (cast (by kernel_rfl) h)
def xd83:XD:=(.seq (.reg [yS 0 4 (.box 3) [oT 0],yS 1 5 (.box 3) [oT 1],yS 2 8 (.new [(nv 0),(nv 0),(.slice none 0 0)] 96) [],yS 3 9 .mov [oC (.bool false)]]) (.seq (.reg [yS 0 13 (.ld none) [oT 4],yS 1 14 .call [oF 94,oT 13],yS 2 12 .mov [oT 14],yS 3 15 (.ext 0) [oT 12],yS 4 16 (.ext 1) [oT 12],yS 5 10 (.new [(nv 0),(nv 0),(.slice none 0 0)] 96) [],yN 6 (.st 3) [oT 10,oT 15],yS 7 11 .mov [oT 16]]) (.seq (.reg [yS 0 17 .mov [oT 11],yS 1 18 .mov [oT 17],yG (some (18,true)) 2 (some 19) (.ld none) [oT 5],yG (some (18,true)) 3 (some 20) (.bin .geq 0) [oT 19,oC (nv 1)],yS 4 21 .pick [oT 18,oT 20,oC (.bool false)],yS 5 22 .mov [oT 21],yG (some (22,true)) 6 (some 23) (.ld none) [oT 5],yG (some (22,true)) 7 (some 24) (.bin .leq 0) [oT 23,oC (nv 24)],yS 8 25 .pick [oT 22,oT 24,oC (.bool false)],yS 9 26 .mov [oT 25],yG (some (26,true)) 10 (some 27) .mov [oT 3],yG (some (26,true)) 11 (some 28) .lenS [oT 27],yG (some (26,true)) 12 (some 29) .mov [oT 2],yG (some (26,true)) 13 (some 30) (.bin .leq 0) [oT 28,oT 29],yS 14 31 .pick [oT 26,oT 30,oC (.bool false)],yS 15 11 .mov [oT 31]]) (.seq (.reg [⟨none,(.ld (some 3)),[oT 10],some 32,0,true,[]⟩,yS 1 33 .mov [oT 11],yS 2 34 .mov [oT 33],yG (some (34,true)) 3 (some 35) .mov [oT 3],yG (some (34,true)) 4 (some 36) (.fn 139 0 2) [oT 4,oT 5],⟨(some (34,true)),.call,[oF 138,oT 35,oT 36],some 37,5,false,[0]⟩,yG (some (34,true)) 6 (some 38) (.un .not) [oT 37],yS 7 39 .pick [oT 34,oT 38,oC (.bool false)],yN 8 (.st 3) [oT 8,oT 32],yS 9 9 .mov [oT 39]]) .ret))))
theorem xd83_ok:compF Tryz.prog 83=some ⟨40,[(.cell 8 (some 3)),(.tmp 9)],xd83.er⟩:=by kernel_rfl
def g83 (q0 n1 most2 rows3:Value) (H:AH) (R:Value→AH→Prop):Prop:=
 @letH (H++[.cells (cellsL q0) 3 none false]) ⟨fun H1 =>
 @letH (H1++[.cells (cellsL n1) 3 none false]) ⟨fun H2 =>
 @letH (H2++[.cells [(nv 0),(nv 0),(.slice none 0 0)] 96 none false]) ⟨fun H3 =>
 @bindO (xload none H3 [(.pointer (some ⟨H.length,0,none⟩))]) ⟨fun v13 =>
 @cG 94 [v13] H3 ⟨fun v14 H4 =>
 @bindO (xpure (.ext 0) [v14]) ⟨fun v15 =>
 @bindO (xpure (.ext 1) [v14]) ⟨fun v16 =>
 @letH (H4++[.cells [(nv 0),(nv 0),(.slice none 0 0)] 96 none false]) ⟨fun H5 =>
 @bindP (xact (.st 3) H5 [(.pointer (some ⟨H4.length,0,none⟩)),v15]) ⟨fun _v H6 =>
 @guardJ (asB v16) (fun J1=>@bindO (xload none H6 [(.pointer (some ⟨H1.length,0,none⟩))]) ⟨fun v19 =>
 J1 v19 H6⟩) H6 ⟨fun v19a H7 =>
 @guardJ (asB v16) (fun J2=>@bindO (xbin .geq 0 v19a (nv 1)) ⟨fun v20 =>
 J2 v20 H7⟩) H7 ⟨fun v20a H8 =>
 @pickK v16 v20a (.bool false) ⟨fun v21 =>
 @guardJ (asB v21) (fun J3=>@bindO (xload none H8 [(.pointer (some ⟨H1.length,0,none⟩))]) ⟨fun v23 =>
 J3 v23 H8⟩) H8 ⟨fun v23a H9 =>
 @guardJ (asB v21) (fun J4=>@bindO (xbin .leq 0 v23a (nv 24)) ⟨fun v24 =>
 J4 v24 H9⟩) H9 ⟨fun v24a H10 =>
 @pickK v21 v24a (.bool false) ⟨fun v25 =>
 @guardJ (asB v25) (fun J5=>J5 rows3 H10) H10 ⟨fun v27 H11 =>
 @guardJ (asB v25) (fun J6=>@bindO (xpure .lenS [v27]) ⟨fun v28 =>
 J6 v28 H11⟩) H11 ⟨fun v28a H12 =>
 @guardJ (asB v25) (fun J7=>J7 most2 H12) H12 ⟨fun v29 H13 =>
 @guardJ (asB v25) (fun J8=>@bindO (xbin .leq 0 v28a v29) ⟨fun v30 =>
 J8 v30 H13⟩) H13 ⟨fun v30a H14 =>
 @pickK v25 v30a (.bool false) ⟨fun v31 =>
 @bindO (xload (some 3) H14 [(.pointer (some ⟨H4.length,0,none⟩))]) ⟨fun v32 =>
 @guardJ (asB v31) (fun J9=>J9 rows3 H14) H14 ⟨fun v35 H15 =>
 @guardJ (asB v31) (fun J10=>@bindO (xpure (.fn 139 0 2) [(.pointer (some ⟨H.length,0,none⟩)),(.pointer (some ⟨H1.length,0,none⟩))]) ⟨fun v36 =>
 J10 v36 H15⟩) H15 ⟨fun v36a H16 =>
 @guardJ (asB v31) (fun J11=>@cG 138 [v35,v36a] H16 ⟨fun v37 H17 =>
 (chkX [0] (⟨0,(some 3),[(.pointer (some ⟨H4.length,0,none⟩))],v32⟩ :: []) H17∧J11 v37 H17)⟩) H16 ⟨fun v37a H18 =>
 @guardJ (asB v31) (fun J12=>@bindO (eun .not v37a) ⟨fun v38 =>
 J12 v38 H18⟩) H18 ⟨fun v38a H19 =>
 @pickK v31 v38a (.bool false) ⟨fun v39 =>
 @bindP (xact (.st 3) H19 [(.pointer (some ⟨H2.length,0,none⟩)),v32]) ⟨fun _v H20 =>
 @bindO (xload (some 3) H20 [(.pointer (some ⟨H2.length,0,none⟩))]) ⟨fun r0=>R (.tuple [r0,v39].toArray) H20⟩⟩⟩⟩⟩⟩⟩⟩⟩⟩⟩⟩⟩⟩⟩⟩⟩⟩⟩⟩⟩⟩⟩⟩⟩⟩⟩⟩
theorem g83_of {q0 n1 most2 rows3:Value} {H:AH} {R:Value→AH→Prop} (h:g83 q0 n1 most2 rows3 H R):FN Tryz.prog 83 [q0,n1,most2,rows3] H R:=
  FN.of_XD mixed xd83_ok (by kernel_rfl) (Nat.le_of_ble_eq_true rfl) (cast (by kernel_rfl) h)
def xd84:XD:=(.seq (.reg [yS 0 6 .mov [oC (.bool false)]]) (.seq (.seq (.reg [yS 0 10 .mov [oT 0],yS 1 11 .lenS [oT 10],yS 2 12 .mov [oT 1],yS 3 13 .lenS [oT 12],yS 4 14 (.bin .neq 0) [oT 11,oT 13]]) (.cond (oT 14) (.seq (.reg [yS 0 6 .mov [oC (.bool false)]]) .ret) .skip)) (.seq (.seq (.reg [yS 0 15 .mov [oT 0],yS 1 16 .lenS [oT 15],yS 2 17 .mov [oC (nv 0)]]) (.block 0 (.loop [17] 4294837184 (.seq (.reg [yS 0 18 (.bin .lss 0) [oT 17,oT 16]]) (.seq (.cond (oT 18) .skip (.exit 0)) (.seq (.block 1 (.seq (.reg [yS 0 19 .mov [oT 17],yS 1 20 (.ixS 1) [oT 15,oT 17],yS 2 21 (.ld none) [oT 20],yS 3 7 .mov [oT 19],yS 4 8 .mov [oT 21]]) (.seq (.reg [yS 0 22 .mov [oT 1],yS 1 23 .mov [oT 7],yS 2 24 (.ixS 1) [oT 22,oT 23],yS 3 25 (.ld none) [oT 24],yS 4 9 .mov [oT 25]]) (.seq (.reg [yS 0 26 .mov [oT 2],yS 1 27 .mov [oT 8],yS 2 28 .mov [oT 9],yS 3 29 .call [oT 26,oT 27,oT 28],yS 4 30 (.un .not) [oT 29]]) (.cond (oT 30) (.seq (.reg [yS 0 6 .mov [oC (.bool false)]]) .ret) .skip))))) (.reg [yS 0 31 (.bin .add 0) [oT 17,oC (nv 1)],yS 1 17 .mov [oT 31]]))))))) (.seq (.reg [yS 0 6 .mov [oC (.bool true)]]) .ret))))
theorem xd84_ok:compF Tryz.prog 84=some ⟨32,[(.tmp 6)],xd84.er⟩:=by kernel_rfl
def g84 (s10 s21 eq2:Value) (H:AH) (R:Value→AH→Prop):Prop:=
 @bindO (xpure .lenS [s10]) ⟨fun v11 =>
 @bindO (xpure .lenS [s21]) ⟨fun v13 =>
 @bindO (xbin .neq 0 v11 v13) ⟨fun v14 =>
 @condK v14 ⟨fun q=>if q=true then R (.bool false) H else
 @bindO (xpure .lenS [s10]) ⟨fun v16 =>
 @loopV1 (nv 0) H ⟨fun v17 H1 K1 =>
 @bindO (xbin .lss 0 v17 v16) ⟨fun v18 =>
 @condK v18 ⟨fun q=>if q=true then @bindO (xpure (.ixS 1) [s10,v17]) ⟨fun v20 =>
 @bindO (xload none H1 [v20]) ⟨fun v21 =>
 @bindO (xpure (.ixS 1) [s21,v17]) ⟨fun v24 =>
 @bindO (xload none H1 [v24]) ⟨fun v25 =>
 @callZ Tryz.prog [eq2,v21,v25] H1 ⟨fun v29 H2 =>
 @bindO (eun .not v29) ⟨fun v30 =>
 @condK v30 ⟨fun q=>if q=true then R (.bool false) H2 else
 @bindO (xbin .add 0 v17 (nv 1)) ⟨fun v31 =>
 K1 v31 H2⟩⟩⟩⟩⟩⟩⟩⟩ else
 R (.bool true) H1⟩⟩⟩⟩⟩⟩⟩⟩
theorem g84_of {s10 s21 eq2:Value} {H:AH} {R:Value→AH→Prop} (h:g84 s10 s21 eq2 H R):FN Tryz.prog 84 [s10,s21,eq2] H R:=
  FN.of_XD mixed xd84_ok (by kernel_rfl) (Nat.le_of_ble_eq_true rfl) (cast (by kernel_rfl) h)
def xd85:XD:=(.seq (.reg [yS 0 3 (.box 96) [oT 0],yS 1 6 .mov [oC (.slice none 0 0)]]) (.seq (.reg [yS 0 7 .mov [oC (nv 0)]]) (.seq (.seq (.reg [yS 0 8 (.new [(nv 0)] 3) [],yN 1 (.st 1) [oT 8,oC (nv 0)]]) (.block 0 (.loop [7,8] 332306998946228968225951765070086016 (.seq (.seq (.reg [yS 0 15 (.ld none) [oT 8],yS 1 16 .mov [oT 1],yS 2 17 (.bin .lss 0) [oT 15,oT 16],yS 3 18 .mov [oT 17],yG (some (18,true)) 4 (some 19) .mov [oT 7],yG (some (18,true)) 5 (some 20) .mov [oT 2],yG (some (18,true)) 6 (some 21) .lenS [oT 20],yG (some (18,true)) 7 (some 22) (.bin .lss 0) [oT 19,oT 21],yS 8 23 .pick [oT 18,oT 22,oC (.bool false)]]) (.cond (oT 23) .skip (.exit 0))) (.join [7] 166153499473114484112975882467966592 (.block 1 (.seq (.reg [yS 0 26 .mov [oT 2],yS 1 27 .mov [oT 7],yS 2 28 (.slS 1 true false) [oT 26,oT 27],yS 3 29 (.fn 141 0 1) [oT 8],yS 4 30 .call [oF 140,oT 28,oT 29],yS 5 9 .mov [oT 30]]) (.seq (.seq (.reg [yS 0 31 .mov [oT 9],yS 1 32 (.bin .lss 0) [oT 31,oC (nv 0)]]) (.cond (oT 32) (.exit 1) .skip)) (.seq (.reg [yS 0 33 .mov [oT 2],yS 1 34 .mov [oT 7],yS 2 35 .mov [oT 2],yS 3 36 .mov [oT 7],yS 4 37 .mov [oT 9],yS 5 38 (.bin .add 0) [oT 36,oT 37],yS 6 39 .mov [oT 2],yS 7 40 .mov [oT 7],yS 8 41 .mov [oT 9],yS 9 42 (.bin .add 0) [oT 40,oT 41],yS 10 43 (.ixS 1) [oT 39,oT 42],yS 11 44 (.ld none) [oT 43],yS 12 45 .mov [oT 2],yS 13 46 .mov [oT 7],yS 14 47 (.ixS 1) [oT 45,oT 46],yS 15 48 (.ld none) [oT 47],yS 16 49 (.ixS 1) [oT 33,oT 34],yN 17 (.st 1) [oT 49,oT 44],yS 18 50 (.ixS 1) [oT 35,oT 38],yN 19 (.st 1) [oT 50,oT 48]]) (.seq (.reg [yS 0 52 (.fld 0) [oT 3],yS 1 53 (.ld (some 3)) [oT 52],yS 2 54 .mov [oT 2],yS 3 55 .mov [oT 7],yS 4 56 (.ixS 1) [oT 54,oT 55],yS 5 57 (.ld none) [oT 56],yS 6 58 (.ld none) [oT 8],yS 7 59 (.ixS 1) [oT 57,oT 58],yS 8 60 (.ld none) [oT 59],yS 9 61 .call [oF 142,oT 53,oT 60],yS 10 51 .mov [oT 61],yS 11 62 (.ext 0) [oT 51],yS 12 63 (.ext 1) [oT 51],yS 13 10 .mov [oT 62],yS 14 11 .mov [oT 63]]) (.seq (.seq (.reg [yS 0 64 .mov [oT 2],yS 1 65 .mov [oT 7],yS 2 66 (.ixS 1) [oT 64,oT 65],yS 3 67 (.ld none) [oT 66],yS 4 68 .lenS [oT 67],yS 5 69 .mov [oC (nv 0)]]) (.block 2 (.loop [69] 1237939448989569916193476608 (.seq (.reg [yS 0 70 (.bin .lss 0) [oT 69,oT 68]]) (.seq (.cond (oT 70) .skip (.exit 2)) (.seq (.block 3 (.seq (.reg [yS 0 71 .mov [oT 69],yS 1 12 .mov [oT 71]]) (.reg [yS 0 72 .mov [oT 2],yS 1 73 .mov [oT 7],yS 2 74 (.ixS 1) [oT 72,oT 73],⟨none,(.ld none),[oT 74],some 75,3,true,[]⟩,yS 4 76 .mov [oT 12],yS 5 77 (.fld 0) [oT 3],yS 6 78 (.ld (some 3)) [oT 77],yS 7 79 .mov [oT 10],yS 8 80 .mov [oT 2],yS 9 81 .mov [oT 7],yS 10 82 (.ixS 1) [oT 80,oT 81],yS 11 83 (.ld none) [oT 82],yS 12 84 .mov [oT 12],yS 13 85 (.ixS 1) [oT 83,oT 84],yS 14 86 (.ld none) [oT 85],⟨none,.call,[oF 131,oT 78,oT 79,oT 86],some 87,15,false,[3]⟩,yS 16 88 (.ixS 1) [oT 75,oT 76],yN 17 (.st 1) [oT 88,oT 87]]))) (.reg [yS 0 89 (.bin .add 0) [oT 69,oC (nv 1)],yS 1 69 .mov [oT 89]]))))))) (.seq (.seq (.reg [yS 0 90 .mov [oT 2],yS 1 91 .lenS [oT 90],yS 2 92 .mov [oC (nv 0)]]) (.block 4 (.loop [92] 41538369916518463886722871037288448 (.seq (.reg [yS 0 93 (.bin .lss 0) [oT 92,oT 91]]) (.seq (.cond (oT 93) .skip (.exit 4)) (.seq (.block 5 (.seq (.reg [yS 0 94 .mov [oT 92],yS 1 95 (.ixS 1) [oT 90,oT 92],yS 2 96 (.ld none) [oT 95],yS 3 13 .mov [oT 94],yS 4 14 .mov [oT 96]]) (.seq (.reg [yS 0 97 .mov [oT 13],yS 1 98 .mov [oT 7],yS 2 99 (.bin .neq 0) [oT 97,oT 98]]) (.cond (oT 99) (.reg [⟨none,(.ld (some 3)),[oT 3],some 100,0,true,[]⟩,yS 1 101 .mov [oT 14],yS 2 102 (.fld 0) [oT 3],yS 3 103 (.ld (some 3)) [oT 102],yS 4 104 .mov [oT 14],yS 5 105 (.ld none) [oT 8],yS 6 106 (.ixS 1) [oT 104,oT 105],yS 7 107 (.ld none) [oT 106],yS 9 109 .mov [oT 2],yS 10 110 .mov [oT 7],yS 11 111 (.ixS 1) [oT 109,oT 110],⟨none,(.ld none),[oT 111],some 112,12,true,[]⟩,⟨none,.call,[oF 96,oT 103,oT 107],some 108,8,false,[12,0]⟩,yS 13 113 .call [oF 95,oT 100,oT 101,oT 108,oT 112]]) .skip)))) (.reg [yS 0 114 (.bin .add 0) [oT 92,oC (nv 1)],yS 1 92 .mov [oT 114]]))))))) (.reg [yS 0 115 .mov [oT 7],yS 1 116 (.bin .add 0) [oT 115,oC (nv 1)],yS 2 7 .mov [oT 116]])))))))) (.seq (.seq (.reg [yS 0 117 (.ld none) [oT 8]]) (.reg [yS 0 8 (.new [(nv 0)] 3) [],yN 1 (.st 1) [oT 8,oT 117]])) (.reg [yS 0 24 (.ld none) [oT 8],yS 1 25 (.bin .add 0) [oT 24,oC (nv 1)],yN 2 (.st 1) [oT 8,oT 25]]))))))) (.seq (.reg [yS 0 118 .mov [oT 2],yS 1 119 .mov [oT 7],yS 2 120 (.slS 1 false true) [oT 118,oT 119],yS 3 6 .mov [oT 120]]) .ret))))
theorem xd85_ok:compF Tryz.prog 85=some ⟨121,[(.tmp 6)],xd85.er⟩:=by kernel_rfl
def g85 (o0 n1 rows2:Value) (H:AH) (R:Value→AH→Prop):Prop:=
 @letH (H++[.cells (cellsL o0) 96 none false]) ⟨fun H1 =>
 @letH (H1++[.cells [(nv 0)] 3 none false]) ⟨fun H2 =>
 @bindP (xact (.st 1) H2 [(.pointer (some ⟨H1.length,0,none⟩)),(nv 0)]) ⟨fun _v H3 =>
 @loopV2 (nv 0) (.pointer (some ⟨H1.length,0,none⟩)) H3 ⟨fun r7 c8 H4 K1 =>
 @bindO (xload none H4 [c8]) ⟨fun v15 =>
 @bindO (xbin .lss 0 v15 n1) ⟨fun v17 =>
 @guardJ (asB v17) (fun J2=>J2 r7 H4) H4 ⟨fun v19 H5 =>
 @guardJ (asB v17) (fun J3=>J3 rows2 H5) H5 ⟨fun v20 H6 =>
 @guardJ (asB v17) (fun J4=>@bindO (xpure .lenS [v20]) ⟨fun v21 =>
 J4 v21 H6⟩) H6 ⟨fun v21a H7 =>
 @guardJ (asB v17) (fun J5=>@bindO (xbin .lss 0 v19 v21a) ⟨fun v22 =>
 J5 v22 H7⟩) H7 ⟨fun v22a H8 =>
 @pickK v17 v22a (.bool false) ⟨fun v23 =>
 @condK v23 ⟨fun q=>if q=true then @joinV1 (fun J6=>@bindO (xpure (.slS 1 true false) [rows2,r7]) ⟨fun v28 =>
 @bindO (xpure (.fn 141 0 1) [c8]) ⟨fun v29 =>
 @cG 140 [v28,v29] H8 ⟨fun v30 H9 =>
 @bindO (xbin .lss 0 v30 (nv 0)) ⟨fun v32 =>
 @condK v32 ⟨fun q=>if q=true then J6 r7 H9 else
 @bindO (xbin .add 0 r7 v30) ⟨fun v38 =>
 @bindO (xbin .add 0 r7 v30) ⟨fun v42 =>
 @bindO (xpure (.ixS 1) [rows2,v42]) ⟨fun v43 =>
 @bindO (xload none H9 [v43]) ⟨fun v44 =>
 @bindO (xpure (.ixS 1) [rows2,r7]) ⟨fun v47 =>
 @bindO (xload none H9 [v47]) ⟨fun v48 =>
 @bindO (xpure (.ixS 1) [rows2,r7]) ⟨fun v49 =>
 @bindP (xact (.st 1) H9 [v49,v44]) ⟨fun _v H10 =>
 @bindO (xpure (.ixS 1) [rows2,v38]) ⟨fun v50 =>
 @bindP (xact (.st 1) H10 [v50,v48]) ⟨fun _v H11 =>
 @bindO (xpure (.fld 0) [(.pointer (some ⟨H.length,0,none⟩))]) ⟨fun v52 =>
 @bindO (xload (some 3) H11 [v52]) ⟨fun v53 =>
 @bindO (xpure (.ixS 1) [rows2,r7]) ⟨fun v56 =>
 @bindO (xload none H11 [v56]) ⟨fun v57 =>
 @bindO (xload none H11 [c8]) ⟨fun v58 =>
 @bindO (xpure (.ixS 1) [v57,v58]) ⟨fun v59 =>
 @bindO (xload none H11 [v59]) ⟨fun v60 =>
 @cG 142 [v53,v60] H11 ⟨fun v61 H12 =>
 @bindO (xpure (.ext 0) [v61]) ⟨fun v62 =>
 @bindO (xpure (.ext 1) [v61]) ⟨fun v63 =>
 @bindO (xpure (.ixS 1) [rows2,r7]) ⟨fun v66 =>
 @bindO (xload none H12 [v66]) ⟨fun v67 =>
 @bindO (xpure .lenS [v67]) ⟨fun v68 =>
 @loopV1 (nv 0) H12 ⟨fun v69 H13 K7 =>
 @bindO (xbin .lss 0 v69 v68) ⟨fun v70 =>
 @condK v70 ⟨fun q=>if q=true then @bindO (xpure (.ixS 1) [rows2,r7]) ⟨fun v74 =>
 @bindO (xload none H13 [v74]) ⟨fun v75 =>
 @bindO (xpure (.fld 0) [(.pointer (some ⟨H.length,0,none⟩))]) ⟨fun v77 =>
 @bindO (xload (some 3) H13 [v77]) ⟨fun v78 =>
 @bindO (xpure (.ixS 1) [rows2,r7]) ⟨fun v82 =>
 @bindO (xload none H13 [v82]) ⟨fun v83 =>
 @bindO (xpure (.ixS 1) [v83,v69]) ⟨fun v85 =>
 @bindO (xload none H13 [v85]) ⟨fun v86 =>
 @cG 131 [v78,v62,v86] H13 ⟨fun v87 H14 =>
 (chkX [3] (⟨3,none,[v74],v75⟩ :: []) H14∧@bindO (xpure (.ixS 1) [v75,v69]) ⟨fun v88 =>
 @bindP (xact (.st 1) H14 [v88,v87]) ⟨fun _v H15 =>
 @bindO (xbin .add 0 v69 (nv 1)) ⟨fun v89 =>
 K7 v89 H15⟩⟩⟩)⟩⟩⟩⟩⟩⟩⟩⟩⟩ else
 @bindO (xpure .lenS [rows2]) ⟨fun v91 =>
 @loopV1 (nv 0) H13 ⟨fun v92 H16 K8 =>
 @bindO (xbin .lss 0 v92 v91) ⟨fun v93 =>
 @condK v93 ⟨fun q=>if q=true then @bindO (xpure (.ixS 1) [rows2,v92]) ⟨fun v95 =>
 @bindO (xload none H16 [v95]) ⟨fun v96 =>
 @bindO (xbin .neq 0 v92 r7) ⟨fun v99 =>
 @condK v99 ⟨fun q=>if q=true then @bindO (xload (some 3) H16 [(.pointer (some ⟨H.length,0,none⟩))]) ⟨fun v100 =>
 @bindO (xpure (.fld 0) [(.pointer (some ⟨H.length,0,none⟩))]) ⟨fun v102 =>
 @bindO (xload (some 3) H16 [v102]) ⟨fun v103 =>
 @bindO (xload none H16 [c8]) ⟨fun v105 =>
 @bindO (xpure (.ixS 1) [v96,v105]) ⟨fun v106 =>
 @bindO (xload none H16 [v106]) ⟨fun v107 =>
 @bindO (xpure (.ixS 1) [rows2,r7]) ⟨fun v111 =>
 @bindO (xload none H16 [v111]) ⟨fun v112 =>
 @cG 96 [v103,v107] H16 ⟨fun v108 H17 =>
 (chkX [12,0] (⟨12,none,[v111],v112⟩ :: (⟨0,(some 3),[(.pointer (some ⟨H.length,0,none⟩))],v100⟩ :: [])) H17∧@cG 95 [v100,v96,v108,v112] H17 ⟨fun v113 H18 =>
 @bindO (xbin .add 0 v92 (nv 1)) ⟨fun v114 =>
 K8 v114 H18⟩⟩)⟩⟩⟩⟩⟩⟩⟩⟩⟩ else
 @bindO (xbin .add 0 v92 (nv 1)) ⟨fun v114a =>
 K8 v114a H16⟩⟩⟩⟩⟩ else
 @bindO (xbin .add 0 r7 (nv 1)) ⟨fun v116 =>
 J6 v116 H16⟩⟩⟩⟩⟩⟩⟩⟩⟩⟩⟩⟩⟩⟩⟩⟩⟩⟩⟩⟩⟩⟩⟩⟩⟩⟩⟩⟩⟩⟩⟩⟩⟩⟩⟩⟩) ⟨fun r7a H19 =>
 @bindO (xload none H19 [c8]) ⟨fun v117 =>
 @letH (H19++[.cells [(nv 0)] 3 none false]) ⟨fun H20 =>
 @bindP (xact (.st 1) H20 [(.pointer (some ⟨H19.length,0,none⟩)),v117]) ⟨fun _v H21 =>
 @bindO (xload none H21 [(.pointer (some ⟨H19.length,0,none⟩))]) ⟨fun v24 =>
 @bindO (xbin .add 0 v24 (nv 1)) ⟨fun v25 =>
 @bindP (xact (.st 1) H21 [(.pointer (some ⟨H19.length,0,none⟩)),v25]) ⟨fun _v H22 =>
 K1 r7a (.pointer (some ⟨H19.length,0,none⟩)) H22⟩⟩⟩⟩⟩⟩⟩ else
 @bindO (xpure (.slS 1 false true) [rows2,r7]) ⟨fun v120 =>
 R v120 H8⟩⟩⟩⟩⟩⟩⟩⟩⟩⟩⟩⟩⟩
theorem g85_of {o0 n1 rows2:Value} {H:AH} {R:Value→AH→Prop} (h:g85 o0 n1 rows2 H R):FN Tryz.prog 85 [o0,n1,rows2] H R:=
  FN.of_XD mixed xd85_ok (by kernel_rfl) (Nat.le_of_ble_eq_true rfl) (cast (by kernel_rfl) h)
def xd86:XD:=(.seq (.reg [yS 0 2 .mov [oC (.slice none 0 0)]]) (.seq (.reg [yS 0 6 .mov [oT 0],yS 1 7 .lenS [oT 6],yS 2 8 (.make (.slice none 0 0) 1 24 31) [oT 7,oT 7],yS 3 3 .mov [oT 8]]) (.seq (.seq (.reg [yS 0 9 .mov [oT 0],yS 1 10 .lenS [oT 9],yS 2 11 .mov [oC (nv 0)]]) (.block 0 (.loop [11] 536868912 (.seq (.reg [yS 0 12 (.bin .lss 0) [oT 11,oT 10]]) (.seq (.cond (oT 12) .skip (.exit 0)) (.seq (.block 1 (.seq (.reg [yS 0 13 .mov [oT 11],yS 1 14 (.ixS 1) [oT 9,oT 11],yS 2 15 (.ld none) [oT 14],yS 3 4 .mov [oT 13],yS 4 5 .mov [oT 15]]) (.seq (.reg [yS 0 16 .mov [oT 3],yS 1 17 .mov [oT 4],yS 2 18 .mov [oT 5],yS 3 19 .lenS [oT 18],yS 4 20 (.make (nv 0) 1 8 3) [oT 19,oT 19],yS 5 21 (.ixS 1) [oT 16,oT 17],yN 6 (.st 1) [oT 21,oT 20]]) (.reg [yS 0 22 .mov [oT 3],yS 1 23 .mov [oT 4],yS 2 24 (.ixS 1) [oT 22,oT 23],yS 3 25 (.ld none) [oT 24],yS 4 26 .mov [oT 5],yS 5 27 (.cpy 1) [oT 25,oT 26]])))) (.reg [yS 0 28 (.bin .add 0) [oT 11,oC (nv 1)],yS 1 11 .mov [oT 28]]))))))) (.seq (.reg [yS 0 29 .mov [oT 3],yS 1 2 .mov [oT 29]]) .ret))))
theorem xd86_ok:compF Tryz.prog 86=some ⟨30,[(.tmp 2)],xd86.er⟩:=by kernel_rfl
def g86 (rows0:Value) (H:AH) (R:Value→AH→Prop):Prop:=
 @bindO (xpure .lenS [rows0]) ⟨fun v7 =>
 @bindN (xnew (.make (.slice none 0 0) 1 24 31) [v7,v7]) ⟨fun cv8 ev8 mkv8=>@letH (H++[.cells cv8 ev8 none false]) ⟨fun H1 =>
 @bindO (xpure .lenS [rows0]) ⟨fun v10 =>
 @loopV1 (nv 0) H1 ⟨fun v11 H2 K1 =>
 @bindO (xbin .lss 0 v11 v10) ⟨fun v12 =>
 @condK v12 ⟨fun q=>if q=true then @bindO (xpure (.ixS 1) [rows0,v11]) ⟨fun v14 =>
 @bindO (xload none H2 [v14]) ⟨fun v15 =>
 @bindO (xpure .lenS [v15]) ⟨fun v19 =>
 @bindN (xnew (.make (nv 0) 1 8 3) [v19,v19]) ⟨fun cv20 ev20 mkv20=>@letH (H2++[.cells cv20 ev20 none false]) ⟨fun H3 =>
 @bindO (xpure (.ixS 1) [(mkv8 H.length),v11]) ⟨fun v21 =>
 @bindP (xact (.st 1) H3 [v21,(mkv20 H2.length)]) ⟨fun _v H4 =>
 @bindO (xpure (.ixS 1) [(mkv8 H.length),v11]) ⟨fun v24 =>
 @bindO (xload none H4 [v24]) ⟨fun v25 =>
 @bindP (xact (.cpy 1) H4 [v25,v15]) ⟨fun v27 H5 =>
 @bindO (xbin .add 0 v11 (nv 1)) ⟨fun v28 =>
 K1 v28 H5⟩⟩⟩⟩⟩⟩⟩⟩⟩⟩⟩ else
 R (mkv8 H.length) H2⟩⟩⟩⟩⟩⟩⟩
theorem g86_of {rows0:Value} {H:AH} {R:Value→AH→Prop} (h:g86 rows0 H R):FN Tryz.prog 86 [rows0] H R:=
  FN.of_XD mixed xd86_ok (by kernel_rfl) (Nat.le_of_ble_eq_true rfl) (cast (by kernel_rfl) h)
def xd87:XD:=(.seq (.reg [yS 0 4 .mov [oC (.bool false)]]) (.seq (.seq (.reg [yS 0 6 .mov [oT 0],yS 1 7 .lenS [oT 6],yS 2 8 .mov [oT 1],yS 3 9 .lenS [oT 8],yS 4 10 (.bin .neq 0) [oT 7,oT 9]]) (.cond (oT 10) (.seq (.reg [yS 0 4 .mov [oC (.bool false)]]) .ret) .skip)) (.seq (.seq (.reg [yS 0 11 .mov [oT 0],yS 1 12 .lenS [oT 11],yS 2 13 .mov [oC (nv 0)]]) (.block 0 (.loop [13] 67100720 (.seq (.reg [yS 0 14 (.bin .lss 0) [oT 13,oT 12]]) (.seq (.cond (oT 14) .skip (.exit 0)) (.seq (.block 1 (.seq (.reg [yS 0 15 .mov [oT 13],yS 1 5 .mov [oT 15]]) (.seq (.reg [yS 0 16 .mov [oT 0],yS 1 17 .mov [oT 5],yS 2 18 (.ixS 1) [oT 16,oT 17],yS 3 19 (.ld none) [oT 18],yS 4 20 .mov [oT 1],yS 5 21 .mov [oT 5],yS 6 22 (.ixS 1) [oT 20,oT 21],yS 7 23 (.ld none) [oT 22],yS 8 24 (.bin .neq 0) [oT 19,oT 23]]) (.cond (oT 24) (.seq (.reg [yS 0 4 .mov [oC (.bool false)]]) .ret) .skip)))) (.reg [yS 0 25 (.bin .add 0) [oT 13,oC (nv 1)],yS 1 13 .mov [oT 25]]))))))) (.seq (.reg [yS 0 4 .mov [oC (.bool true)]]) .ret))))
theorem xd87_ok:compF Tryz.prog 87=some ⟨26,[(.tmp 4)],xd87.er⟩:=by kernel_rfl
def g87 (s10 s21:Value) (H:AH) (R:Value→AH→Prop):Prop:=
 @bindO (xpure .lenS [s10]) ⟨fun v7 =>
 @bindO (xpure .lenS [s21]) ⟨fun v9 =>
 @bindO (xbin .neq 0 v7 v9) ⟨fun v10 =>
 @condK v10 ⟨fun q=>if q=true then R (.bool false) H else
 @bindO (xpure .lenS [s10]) ⟨fun v12 =>
 @loopV1 (nv 0) H ⟨fun v13 H1 K1 =>
 @bindO (xbin .lss 0 v13 v12) ⟨fun v14 =>
 @condK v14 ⟨fun q=>if q=true then @bindO (xpure (.ixS 1) [s10,v13]) ⟨fun v18 =>
 @bindO (xload none H1 [v18]) ⟨fun v19 =>
 @bindO (xpure (.ixS 1) [s21,v13]) ⟨fun v22 =>
 @bindO (xload none H1 [v22]) ⟨fun v23 =>
 @bindO (xbin .neq 0 v19 v23) ⟨fun v24 =>
 @condK v24 ⟨fun q=>if q=true then R (.bool false) H1 else
 @bindO (xbin .add 0 v13 (nv 1)) ⟨fun v25 =>
 K1 v25 H1⟩⟩⟩⟩⟩⟩⟩ else
 R (.bool true) H1⟩⟩⟩⟩⟩⟩⟩⟩
theorem g87_of {s10 s21:Value} {H:AH} {R:Value→AH→Prop} (h:g87 s10 s21 H R):FN Tryz.prog 87 [s10,s21] H R:=
  FN.of_XD mixed xd87_ok (by kernel_rfl) (Nat.le_of_ble_eq_true rfl) (cast (by kernel_rfl) h)
def xd88:XD:=(.seq (.reg [yS 0 1 (.box 29) [oT 0],yS 1 2 .mov [oC (.slice none 0 0)],yS 2 3 .mov [oC (nv 0)]]) (.seq (.seq (.reg [yS 0 6 (.ld (some 3)) [oT 1],yS 1 7 .call [oF 42,oT 6],yS 2 8 (.bin .gtr 0) [oT 7,oC (nv 4096)]]) (.cond (oT 8) (.seq (.reg [yS 0 2 .mov [oC (.slice none 0 0)],yS 1 3 .mov [oC (nv 2)]]) .ret) .skip)) (.seq (.reg [yS 0 9 (.bsl [] 0 [] 31) [],yS 1 4 .mov [oT 9]]) (.seq (.seq (.reg [yS 0 5 .mov [oC (nv 0)]]) (.block 0 (.loop [4,5] 16776240 (.seq (.seq (.reg [yS 0 10 .mov [oT 5],yS 1 11 (.ld (some 3)) [oT 1],yS 2 12 .call [oF 42,oT 11],yS 3 13 (.bin .lss 0) [oT 10,oT 12]]) (.cond (oT 13) .skip (.exit 0))) (.seq (.block 1 (.reg [yS 0 16 .mov [oT 4],⟨none,(.ld (some 3)),[oT 1],some 17,1,true,[]⟩,yS 2 18 (.ld (some 3)) [oT 1],yS 3 19 .mov [oT 5],⟨none,.call,[oF 144,oT 18,oT 19],some 20,4,false,[1]⟩,yS 5 21 .call [oF 143,oT 17,oT 20],yS 6 22 (.bsl [(.slice none 0 0)] 1 [(0,1)] 31) [oT 21],yS 7 23 (.app 31 1 24) [oT 16,oT 22],yS 8 4 .mov [oT 23]])) (.reg [yS 0 14 .mov [oT 5],yS 1 15 (.bin .add 0) [oT 14,oC (nv 1)],yS 2 5 .mov [oT 15]])))))) (.seq (.reg [yS 0 24 .mov [oT 4],yS 1 2 .mov [oT 24],yS 2 3 .mov [oC (nv 0)]]) .ret)))))
theorem xd88_ok:compF Tryz.prog 88=some ⟨25,[(.tmp 2),(.tmp 3)],xd88.er⟩:=by kernel_rfl
def g88 (c0:Value) (H:AH) (R:Value→AH→Prop):Prop:=
 @letH (H++[.cells (cellsL c0) 29 none false]) ⟨fun H1 =>
 @bindO (xload (some 3) H1 [(.pointer (some ⟨H.length,0,none⟩))]) ⟨fun v6 =>
 @cG 42 [v6] H1 ⟨fun v7 H2 =>
 @bindO (xbin .gtr 0 v7 (nv 4096)) ⟨fun v8 =>
 @condK v8 ⟨fun q=>if q=true then R (.tuple [(.slice none 0 0),(nv 2)].toArray) H2 else
 @bindL (xfill [] [] []) ⟨fun cv9=>@letH (H2++[.cells cv9 31 none false]) ⟨fun H3 =>
 @loopV2 (.slice (some ⟨H2.length,0,none⟩) 0 0) (nv 0) H3 ⟨fun out4 i5 H4 K1 =>
 @bindO (xload (some 3) H4 [(.pointer (some ⟨H.length,0,none⟩))]) ⟨fun v11 =>
 @cG 42 [v11] H4 ⟨fun v12 H5 =>
 @bindO (xbin .lss 0 i5 v12) ⟨fun v13 =>
 @condK v13 ⟨fun q=>if q=true then @bindO (xload (some 3) H5 [(.pointer (some ⟨H.length,0,none⟩))]) ⟨fun v17 =>
 @bindO (xload (some 3) H5 [(.pointer (some ⟨H.length,0,none⟩))]) ⟨fun v18 =>
 @cG 144 [v18,i5] H5 ⟨fun v20 H6 =>
 (chkX [1] (⟨1,(some 3),[(.pointer (some ⟨H.length,0,none⟩))],v17⟩ :: []) H6∧@cG 143 [v17,v20] H6 ⟨fun v21 H7 =>
 @bindL (xfill [(.slice none 0 0)] [(0,1)] [v21]) ⟨fun cv22=>@letH (H7++[.cells cv22 31 none false]) ⟨fun H8 =>
 @bindP (xact (.app 31 1 24) H8 [out4,(.slice (some ⟨H7.length,0,none⟩) 1 1)]) ⟨fun v23 H9 =>
 @bindO (xbin .add 0 i5 (nv 1)) ⟨fun v15 =>
 K1 v23 v15 H9⟩⟩⟩⟩⟩)⟩⟩⟩ else
 R (.tuple [out4,(nv 0)].toArray) H5⟩⟩⟩⟩⟩⟩⟩⟩⟩⟩⟩⟩
theorem g88_of {c0:Value} {H:AH} {R:Value→AH→Prop} (h:g88 c0 H R):FN Tryz.prog 88 [c0] H R:=
  FN.of_XD mixed xd88_ok (by kernel_rfl) (Nat.le_of_ble_eq_true rfl) (cast (by kernel_rfl) h)
def xd89:XD:=(.seq (.reg [yS 0 2 .mov [oC (.bool false)]]) (.seq (.reg [yS 0 6 .mov [oT 0],yS 1 7 .call [oF 109,oT 6],yS 2 5 .mov [oT 7],yS 3 8 (.ext 0) [oT 5],yS 4 9 (.ext 1) [oT 5],yS 5 3 (.new [(nv 0),(nv 0),(.slice none 0 0)] 76) [],yN 6 (.st 3) [oT 3,oT 8],yS 7 4 .mov [oT 9]]) (.seq (.reg [yS 0 10 .mov [oT 4],yS 1 11 (.bin .eql 0) [oT 10,oC (nv 0)],yS 2 12 .mov [oT 11],yG (some (12,true)) 3 (some 13) .mov [oT 0],yG (some (12,true)) 4 (some 14) (.bin .leq 0) [oT 13,oC (nv 16)],yS 5 15 .pick [oT 12,oT 14,oC (.bool false)],yS 6 2 .mov [oT 15]]) .ret)))
theorem xd89_ok:compF Tryz.prog 89=some ⟨16,[(.tmp 2)],xd89.er⟩:=by kernel_rfl
def g89 (q0:Value) (H:AH) (R:Value→AH→Prop):Prop:=
 @cG 109 [q0] H ⟨fun v7 H1 =>
 @bindO (xpure (.ext 0) [v7]) ⟨fun v8 =>
 @bindO (xpure (.ext 1) [v7]) ⟨fun v9 =>
 @letH (H1++[.cells [(nv 0),(nv 0),(.slice none 0 0)] 76 none false]) ⟨fun H2 =>
 @bindP (xact (.st 3) H2 [(.pointer (some ⟨H1.length,0,none⟩)),v8]) ⟨fun _v H3 =>
 @bindO (xbin .eql 0 v9 (nv 0)) ⟨fun v11 =>
 @guardJ (asB v11) (fun J1=>J1 q0 H3) H3 ⟨fun v13 H4 =>
 @guardJ (asB v11) (fun J2=>@bindO (xbin .leq 0 v13 (nv 16)) ⟨fun v14 =>
 J2 v14 H4⟩) H4 ⟨fun v14a H5 =>
 @pickK v11 v14a (.bool false) ⟨fun v15 =>
 R v15 H5⟩⟩⟩⟩⟩⟩⟩⟩⟩
theorem g89_of {q0:Value} {H:AH} {R:Value→AH→Prop} (h:g89 q0 H R):FN Tryz.prog 89 [q0] H R:=
  FN.of_XD mixed xd89_ok (by kernel_rfl) (Nat.le_of_ble_eq_true rfl) (cast (by kernel_rfl) h)
def xd90:XD:=(.seq (.reg [yS 0 6 .mov [oC (.bool false)]]) (.seq (.seq (.reg [yS 0 8 .mov [oT 2],yS 1 9 .lenS [oT 8],yS 2 10 .mov [oT 1],yS 3 11 (.bin .neq 0) [oT 9,oT 10]]) (.cond (oT 11) (.seq (.reg [yS 0 6 .mov [oC (.bool false)]]) .ret) .skip)) (.seq (.seq (.reg [yS 0 7 .mov [oC (nv 0)]]) (.block 0 (.loop [7] 1073737920 (.seq (.seq (.reg [yS 0 12 .mov [oT 7],yS 1 13 .mov [oT 1],yS 2 14 (.bin .lss 0) [oT 12,oT 13]]) (.cond (oT 14) .skip (.exit 0))) (.seq (.block 1 (.seq (.reg [yS 0 17 .mov [oT 2],yS 1 18 .mov [oT 7],yS 2 19 (.ixS 1) [oT 17,oT 18],yS 3 20 (.ld none) [oT 19],yS 4 21 (.bin .lss 0) [oT 20,oC (nv 0)],yS 5 22 .mov [oT 21],yG (some (22,false)) 6 (some 23) .mov [oT 2],yG (some (22,false)) 7 (some 24) .mov [oT 7],yG (some (22,false)) 8 (some 25) (.ixS 1) [oT 23,oT 24],yG (some (22,false)) 9 (some 26) (.ld none) [oT 25],yG (some (22,false)) 10 (some 27) .mov [oT 0],yG (some (22,false)) 11 (some 28) (.bin .geq 0) [oT 26,oT 27],yS 12 29 .pick [oT 22,oC (.bool true),oT 28]]) (.cond (oT 29) (.seq (.reg [yS 0 6 .mov [oC (.bool false)]]) .ret) .skip))) (.reg [yS 0 15 .mov [oT 7],yS 1 16 (.bin .add 0) [oT 15,oC (nv 1)],yS 2 7 .mov [oT 16]])))))) (.seq (.reg [yS 0 6 .mov [oC (.bool true)]]) .ret))))
theorem xd90_ok:compF Tryz.prog 90=some ⟨30,[(.tmp 6)],xd90.er⟩:=by kernel_rfl
def g90 (q0 n1 l2:Value) (H:AH) (R:Value→AH→Prop):Prop:=
 @bindO (xpure .lenS [l2]) ⟨fun v9 =>
 @bindO (xbin .neq 0 v9 n1) ⟨fun v11 =>
 @condK v11 ⟨fun q=>if q=true then R (.bool false) H else
 @loopV1 (nv 0) H ⟨fun i7 H1 K1 =>
 @bindO (xbin .lss 0 i7 n1) ⟨fun v14 =>
 @condK v14 ⟨fun q=>if q=true then @bindO (xpure (.ixS 1) [l2,i7]) ⟨fun v19 =>
 @bindO (xload none H1 [v19]) ⟨fun v20 =>
 @bindO (xbin .lss 0 v20 (nv 0)) ⟨fun v21 =>
 @guardJ (asNB v21) (fun J2=>J2 l2 H1) H1 ⟨fun v23 H2 =>
 @guardJ (asNB v21) (fun J3=>J3 i7 H2) H2 ⟨fun v24 H3 =>
 @guardJ (asNB v21) (fun J4=>@bindO (xpure (.ixS 1) [v23,v24]) ⟨fun v25 =>
 J4 v25 H3⟩) H3 ⟨fun v25a H4 =>
 @guardJ (asNB v21) (fun J5=>@bindO (xload none H4 [v25a]) ⟨fun v26 =>
 J5 v26 H4⟩) H4 ⟨fun v26a H5 =>
 @guardJ (asNB v21) (fun J6=>J6 q0 H5) H5 ⟨fun v27 H6 =>
 @guardJ (asNB v21) (fun J7=>@bindO (xbin .geq 0 v26a v27) ⟨fun v28 =>
 J7 v28 H6⟩) H6 ⟨fun v28a H7 =>
 @pickK v21 (.bool true) v28a ⟨fun v29 =>
 @condK v29 ⟨fun q=>if q=true then R (.bool false) H7 else
 @bindO (xbin .add 0 i7 (nv 1)) ⟨fun v16 =>
 K1 v16 H7⟩⟩⟩⟩⟩⟩⟩⟩⟩⟩⟩⟩ else
 R (.bool true) H1⟩⟩⟩⟩⟩⟩
theorem g90_of {q0 n1 l2:Value} {H:AH} {R:Value→AH→Prop} (h:g90 q0 n1 l2 H R):FN Tryz.prog 90 [q0,n1,l2] H R:=
  FN.of_XD mixed xd90_ok (by kernel_rfl) (Nat.le_of_ble_eq_true rfl) (cast (by kernel_rfl) h)
def xd91:XD:=(.seq (.reg [yS 0 4 .mov [oC (.bool false)]]) (.seq (.seq (.reg [yS 0 6 .mov [oT 0],yS 1 7 .lenS [oT 6],yS 2 8 .mov [oT 1],yS 3 9 .lenS [oT 8],yS 4 10 (.bin .neq 0) [oT 7,oT 9]]) (.cond (oT 10) (.seq (.reg [yS 0 4 .mov [oC (.bool false)]]) .ret) .skip)) (.seq (.seq (.reg [yS 0 5 .mov [oC (nv 0)]]) (.block 0 (.loop [5] 134215728 (.seq (.seq (.reg [yS 0 11 .mov [oT 5],yS 1 12 .mov [oT 0],yS 2 13 .lenS [oT 12],yS 3 14 (.bin .lss 0) [oT 11,oT 13]]) (.cond (oT 14) .skip (.exit 0))) (.seq (.block 1 (.seq (.reg [yS 0 17 .mov [oT 0],yS 1 18 .mov [oT 5],yS 2 19 (.ixS 1) [oT 17,oT 18],yS 3 20 (.ld none) [oT 19],yS 4 21 .mov [oT 1],yS 5 22 .mov [oT 5],yS 6 23 (.ixS 1) [oT 21,oT 22],yS 7 24 (.ld none) [oT 23],yS 8 25 .call [oF 145,oT 20,oT 24],yS 9 26 (.un .not) [oT 25]]) (.cond (oT 26) (.seq (.reg [yS 0 4 .mov [oC (.bool false)]]) .ret) .skip))) (.reg [yS 0 15 .mov [oT 5],yS 1 16 (.bin .add 0) [oT 15,oC (nv 1)],yS 2 5 .mov [oT 16]])))))) (.seq (.reg [yS 0 4 .mov [oC (.bool true)]]) .ret))))
theorem xd91_ok:compF Tryz.prog 91=some ⟨27,[(.tmp 4)],xd91.er⟩:=by kernel_rfl
def g91 (a0 b1:Value) (H:AH) (R:Value→AH→Prop):Prop:=
 @bindO (xpure .lenS [a0]) ⟨fun v7 =>
 @bindO (xpure .lenS [b1]) ⟨fun v9 =>
 @bindO (xbin .neq 0 v7 v9) ⟨fun v10 =>
 @condK v10 ⟨fun q=>if q=true then R (.bool false) H else
 @loopV1 (nv 0) H ⟨fun i5 H1 K1 =>
 @bindO (xpure .lenS [a0]) ⟨fun v13 =>
 @bindO (xbin .lss 0 i5 v13) ⟨fun v14 =>
 @condK v14 ⟨fun q=>if q=true then @bindO (xpure (.ixS 1) [a0,i5]) ⟨fun v19 =>
 @bindO (xload none H1 [v19]) ⟨fun v20 =>
 @bindO (xpure (.ixS 1) [b1,i5]) ⟨fun v23 =>
 @bindO (xload none H1 [v23]) ⟨fun v24 =>
 @cG 145 [v20,v24] H1 ⟨fun v25 H2 =>
 @bindO (eun .not v25) ⟨fun v26 =>
 @condK v26 ⟨fun q=>if q=true then R (.bool false) H2 else
 @bindO (xbin .add 0 i5 (nv 1)) ⟨fun v16 =>
 K1 v16 H2⟩⟩⟩⟩⟩⟩⟩⟩ else
 R (.bool true) H1⟩⟩⟩⟩⟩⟩⟩⟩
theorem g91_of {a0 b1:Value} {H:AH} {R:Value→AH→Prop} (h:g91 a0 b1 H R):FN Tryz.prog 91 [a0,b1] H R:=
  FN.of_XD mixed xd91_ok (by kernel_rfl) (Nat.le_of_ble_eq_true rfl) (cast (by kernel_rfl) h)
def xd92:XD:=(.seq (.reg [yS 0 3 (.box 3) [oT 0],yS 1 6 .mov [oC (.bool false)]]) (.seq (.reg [yS 0 7 .mov [oT 2],yS 1 8 .lenS [oT 7],yS 2 9 .mov [oT 1],yS 3 10 (.bin .eql 0) [oT 8,oT 9],yS 4 11 .mov [oT 10],yG (some (11,true)) 5 (some 12) .mov [oT 2],yG (some (11,true)) 6 (some 13) (.fn 147 0 1) [oT 3],yG (some (11,true)) 7 (some 14) .call [oF 146,oT 12,oT 13],yG (some (11,true)) 8 (some 15) (.un .not) [oT 14],yS 9 16 .pick [oT 11,oT 15,oC (.bool false)],yS 10 6 .mov [oT 16]]) .ret))
theorem xd92_ok:compF Tryz.prog 92=some ⟨17,[(.tmp 6)],xd92.er⟩:=by kernel_rfl
def g92 (q0 n1 l2:Value) (H:AH) (R:Value→AH→Prop):Prop:=
 @letH (H++[.cells (cellsL q0) 3 none false]) ⟨fun H1 =>
 @bindO (xpure .lenS [l2]) ⟨fun v8 =>
 @bindO (xbin .eql 0 v8 n1) ⟨fun v10 =>
 @guardJ (asB v10) (fun J1=>J1 l2 H1) H1 ⟨fun v12 H2 =>
 @guardJ (asB v10) (fun J2=>@bindO (xpure (.fn 147 0 1) [(.pointer (some ⟨H.length,0,none⟩))]) ⟨fun v13 =>
 J2 v13 H2⟩) H2 ⟨fun v13a H3 =>
 @guardJ (asB v10) (fun J3=>@cG 146 [v12,v13a] H3 ⟨fun v14 H4 =>
 J3 v14 H4⟩) H3 ⟨fun v14a H5 =>
 @guardJ (asB v10) (fun J4=>@bindO (eun .not v14a) ⟨fun v15 =>
 J4 v15 H5⟩) H5 ⟨fun v15a H6 =>
 @pickK v10 v15a (.bool false) ⟨fun v16 =>
 R v16 H6⟩⟩⟩⟩⟩⟩⟩⟩
theorem g92_of {q0 n1 l2:Value} {H:AH} {R:Value→AH→Prop} (h:g92 q0 n1 l2 H R):FN Tryz.prog 92 [q0,n1,l2] H R:=
  FN.of_XD mixed xd92_ok (by kernel_rfl) (Nat.le_of_ble_eq_true rfl) (cast (by kernel_rfl) h)
def xd93:XD:=(.seq (.reg [yS 0 2 .mov [oC (nv 0)]]) (.seq (.reg [yS 0 3 .mov [oT 0],yS 1 4 .call [oF 148,oT 3,oF 149],yS 2 2 .mov [oT 4]]) .ret))
theorem xd93_ok:compF Tryz.prog 93=some ⟨5,[(.tmp 2)],xd93.er⟩:=by kernel_rfl
def g93 (row0:Value) (H:AH) (R:Value→AH→Prop):Prop:=
 @cG 148 [row0,(.func (.func 149) #[] #[])] H ⟨fun v4 H1 =>
 R v4 H1⟩
theorem g93_of {row0:Value} {H:AH} {R:Value→AH→Prop} (h:g93 row0 H R):FN Tryz.prog 93 [row0] H R:=
  FN.of_XD mixed xd93_ok (by kernel_rfl) (Nat.le_of_ble_eq_true rfl) (cast (by kernel_rfl) h)
def xd94:XD:=(.seq (.reg [yS 0 2 (.new [(nv 0),(nv 0),(.slice none 0 0)] 96) [],yS 1 3 .mov [oC (.bool false)]]) (.seq (.reg [yS 0 7 .mov [oT 0],yS 1 8 .call [oF 111,oT 7],yS 2 6 .mov [oT 8],yS 3 9 (.ext 0) [oT 6],yS 4 10 (.ext 1) [oT 6],yS 5 4 (.new [(nv 0),(nv 0),(.slice none 0 0)] 76) [],yN 6 (.st 3) [oT 4,oT 9],yS 7 5 .mov [oT 10]]) (.seq (.reg [yS 0 11 (.ld (some 3)) [oT 4],yS 1 12 (.bld [(nv 0),(nv 0),(.slice none 0 0)] [(0,3)]) [oT 11],yS 2 13 .mov [oT 5],yS 3 14 (.bin .eql 0) [oT 13,oC (nv 0)],yS 4 15 .mov [oT 14],yG (some (15,true)) 5 (some 16) .mov [oT 0],yG (some (15,true)) 6 (some 17) (.bin .leq 0) [oT 16,oC (nv 16)],yS 7 18 .pick [oT 15,oT 17,oC (.bool false)],yN 8 (.st 3) [oT 2,oT 12],yS 9 3 .mov [oT 18]]) .ret)))
theorem xd94_ok:compF Tryz.prog 94=some ⟨19,[(.cell 2 (some 3)),(.tmp 3)],xd94.er⟩:=by kernel_rfl
def g94 (q0:Value) (H:AH) (R:Value→AH→Prop):Prop:=
 @letH (H++[.cells [(nv 0),(nv 0),(.slice none 0 0)] 96 none false]) ⟨fun H1 =>
 @cG 111 [q0] H1 ⟨fun v8 H2 =>
 @bindO (xpure (.ext 0) [v8]) ⟨fun v9 =>
 @bindO (xpure (.ext 1) [v8]) ⟨fun v10 =>
 @letH (H2++[.cells [(nv 0),(nv 0),(.slice none 0 0)] 76 none false]) ⟨fun H3 =>
 @bindP (xact (.st 3) H3 [(.pointer (some ⟨H2.length,0,none⟩)),v9]) ⟨fun _v H4 =>
 @bindO (xload (some 3) H4 [(.pointer (some ⟨H2.length,0,none⟩))]) ⟨fun v11 =>
 @bindL (xfill [(nv 0),(nv 0),(.slice none 0 0)] [(0,3)] [v11]) ⟨fun v12 =>
 @bindO (xbin .eql 0 v10 (nv 0)) ⟨fun v14 =>
 @guardJ (asB v14) (fun J1=>J1 q0 H4) H4 ⟨fun v16 H5 =>
 @guardJ (asB v14) (fun J2=>@bindO (xbin .leq 0 v16 (nv 16)) ⟨fun v17 =>
 J2 v17 H5⟩) H5 ⟨fun v17a H6 =>
 @pickK v14 v17a (.bool false) ⟨fun v18 =>
 @bindP (xact (.st 3) H6 [(.pointer (some ⟨H.length,0,none⟩)),(.agg v12.toArray)]) ⟨fun _v H7 =>
 @bindO (xload (some 3) H7 [(.pointer (some ⟨H.length,0,none⟩))]) ⟨fun r0=>R (.tuple [r0,v18].toArray) H7⟩⟩⟩⟩⟩⟩⟩⟩⟩⟩⟩⟩⟩⟩
theorem g94_of {q0:Value} {H:AH} {R:Value→AH→Prop} (h:g94 q0 H R):FN Tryz.prog 94 [q0] H R:=
  FN.of_XD mixed xd94_ok (by kernel_rfl) (Nat.le_of_ble_eq_true rfl) (cast (by kernel_rfl) h)
def xd95:XD:=(.seq (.reg [yS 0 4 (.box 96) [oT 0]]) (.seq (.seq (.reg [yS 0 9 .mov [oT 2],yS 1 10 (.bin .eql 0) [oT 9,oC (nv 0)]]) (.cond (oT 10) .ret .skip)) (.seq (.reg [yS 0 11 .mov [oT 1],yS 1 12 .lenS [oT 11],yS 2 13 .mov [oC (nv 0)]]) (.block 0 (.loop [13] 34359730432 (.seq (.reg [yS 0 14 (.bin .lss 0) [oT 13,oT 12]]) (.seq (.cond (oT 14) .skip (.exit 0)) (.seq (.block 1 (.seq (.reg [yS 0 15 .mov [oT 13],yS 1 8 .mov [oT 15]]) (.reg [yS 0 16 .mov [oT 1],yS 1 17 .mov [oT 8],yS 2 18 (.fld 0) [oT 4],⟨none,(.ld (some 3)),[oT 18],some 19,3,true,[]⟩,yS 4 20 .mov [oT 1],yS 5 21 .mov [oT 8],yS 6 22 (.ixS 1) [oT 20,oT 21],⟨none,(.ld none),[oT 22],some 23,7,true,[]⟩,yS 8 24 (.fld 0) [oT 4],yS 9 25 (.ld (some 3)) [oT 24],yS 10 26 .mov [oT 2],yS 11 27 .mov [oT 3],yS 12 28 .mov [oT 8],yS 13 29 (.ixS 1) [oT 27,oT 28],yS 14 30 (.ld none) [oT 29],⟨none,.call,[oF 131,oT 25,oT 26,oT 30],some 31,15,false,[7,3]⟩,yS 16 32 .call [oF 150,oT 19,oT 23,oT 31],yS 17 33 (.ixS 1) [oT 16,oT 17],yN 18 (.st 1) [oT 33,oT 32]]))) (.reg [yS 0 34 (.bin .add 0) [oT 13,oC (nv 1)],yS 1 13 .mov [oT 34]])))))))))
theorem xd95_ok:compF Tryz.prog 95=some ⟨35,[],xd95.er⟩:=by kernel_rfl
def g95 (o0 y1 a2 x3:Value) (H:AH) (R:Value→AH→Prop):Prop:=
 @letH (H++[.cells (cellsL o0) 96 none false]) ⟨fun H1 =>
 @bindO (xbin .eql 0 a2 (nv 0)) ⟨fun v10 =>
 @condK v10 ⟨fun q=>if q=true then R (.tuple [].toArray) H1 else
 @bindO (xpure .lenS [y1]) ⟨fun v12 =>
 @loopV1 (nv 0) H1 ⟨fun v13 H2 K1 =>
 @bindO (xbin .lss 0 v13 v12) ⟨fun v14 =>
 @condK v14 ⟨fun q=>if q=true then @bindO (xpure (.fld 0) [(.pointer (some ⟨H.length,0,none⟩))]) ⟨fun v18 =>
 @bindO (xload (some 3) H2 [v18]) ⟨fun v19 =>
 @bindO (xpure (.ixS 1) [y1,v13]) ⟨fun v22 =>
 @bindO (xload none H2 [v22]) ⟨fun v23 =>
 @bindO (xpure (.fld 0) [(.pointer (some ⟨H.length,0,none⟩))]) ⟨fun v24 =>
 @bindO (xload (some 3) H2 [v24]) ⟨fun v25 =>
 @bindO (xpure (.ixS 1) [x3,v13]) ⟨fun v29 =>
 @bindO (xload none H2 [v29]) ⟨fun v30 =>
 @cG 131 [v25,a2,v30] H2 ⟨fun v31 H3 =>
 (chkX [7,3] (⟨7,none,[v22],v23⟩ :: (⟨3,(some 3),[v18],v19⟩ :: [])) H3∧@cG 150 [v19,v23,v31] H3 ⟨fun v32 H4 =>
 @bindO (xpure (.ixS 1) [y1,v13]) ⟨fun v33 =>
 @bindP (xact (.st 1) H4 [v33,v32]) ⟨fun _v H5 =>
 @bindO (xbin .add 0 v13 (nv 1)) ⟨fun v34 =>
 K1 v34 H5⟩⟩⟩⟩)⟩⟩⟩⟩⟩⟩⟩⟩⟩ else
 R (.tuple [].toArray) H2⟩⟩⟩⟩⟩⟩⟩
theorem g95_of {o0 y1 a2 x3:Value} {H:AH} {R:Value→AH→Prop} (h:g95 o0 y1 a2 x3 H R):FN Tryz.prog 95 [o0,y1,a2,x3] H R:=
  FN.of_XD mixed xd95_ok (by kernel_rfl) (Nat.le_of_ble_eq_true rfl) (cast (by kernel_rfl) h)
def xd102:XD:=(.seq (.reg [yS 0 2 .mov [oC (.slice none 0 0)]]) (.seq (.seq (.reg [yS 0 3 .mov [oT 0],yS 1 4 (.bin .eql 2) [oT 3,oC (.slice none 0 0)]]) (.cond (oT 4) (.seq (.reg [yS 0 2 .mov [oC (.slice none 0 0)]]) .ret) .skip)) (.seq (.reg [yS 0 5 (.bsl [] 0 [] 3) [],yS 1 6 .mov [oT 0],yS 2 7 (.app 3 1 8) [oT 5,oT 6],yS 3 2 .mov [oT 7]]) .ret)))
theorem xd102_ok:compF Tryz.prog 102=some ⟨8,[(.tmp 2)],xd102.er⟩:=by kernel_rfl
def xd108:XD:=(.seq (.reg [yS 0 3 (.box 76) [oT 0],yS 1 6 .mov [oC (.slice none 0 0)]]) (.seq (.reg [yS 0 9 (.bsl [] 0 [] 3) [],yS 1 7 .mov [oT 9]]) (.seq (.seq (.reg [yS 0 8 .mov [oC (nv 0)]]) (.block 0 (.loop [7,8] 536870272 (.seq (.seq (.reg [yS 0 10 .mov [oT 8],yS 1 11 .mov [oT 1],yS 2 12 .lenS [oT 11],yS 3 13 (.bin .lss 0) [oT 10,oT 12]]) (.cond (oT 13) .skip (.exit 0))) (.seq (.block 1 (.reg [yS 0 16 .mov [oT 7],yS 1 17 (.ld (some 3)) [oT 3],yS 2 18 .mov [oT 1],yS 3 19 .mov [oT 8],yS 4 20 (.ixS 1) [oT 18,oT 19],yS 5 21 (.ld none) [oT 20],yS 6 22 .mov [oT 2],yS 7 23 .mov [oT 8],yS 8 24 (.ixS 1) [oT 22,oT 23],yS 9 25 (.ld none) [oT 24],yS 10 26 .call [oF 167,oT 17,oT 21,oT 25],yS 11 27 (.bsl [(nv 0)] 1 [(0,1)] 3) [oT 26],yS 12 28 (.app 3 1 8) [oT 16,oT 27],yS 13 7 .mov [oT 28]])) (.reg [yS 0 14 .mov [oT 8],yS 1 15 (.bin .add 0) [oT 14,oC (nv 1)],yS 2 8 .mov [oT 15]])))))) (.seq (.reg [yS 0 29 .mov [oT 7],yS 1 6 .mov [oT 29]]) .ret))))
theorem xd108_ok:compF Tryz.prog 108=some ⟨30,[(.tmp 6)],xd108.er⟩:=by kernel_rfl
def g108 (f0 a1 b2:Value) (H:AH) (R:Value→AH→Prop):Prop:=
 @letH (H++[.cells (cellsL f0) 76 none false]) ⟨fun H1 =>
 @bindL (xfill [] [] []) ⟨fun cv9=>@letH (H1++[.cells cv9 3 none false]) ⟨fun H2 =>
 @loopV2 (.slice (some ⟨H1.length,0,none⟩) 0 0) (nv 0) H2 ⟨fun out7 i8 H3 K1 =>
 @bindO (xpure .lenS [a1]) ⟨fun v12 =>
 @bindO (xbin .lss 0 i8 v12) ⟨fun v13 =>
 @condK v13 ⟨fun q=>if q=true then @bindO (xload (some 3) H3 [(.pointer (some ⟨H.length,0,none⟩))]) ⟨fun v17 =>
 @bindO (xpure (.ixS 1) [a1,i8]) ⟨fun v20 =>
 @bindO (xload none H3 [v20]) ⟨fun v21 =>
 @bindO (xpure (.ixS 1) [b2,i8]) ⟨fun v24 =>
 @bindO (xload none H3 [v24]) ⟨fun v25 =>
 @cG 167 [v17,v21,v25] H3 ⟨fun v26 H4 =>
 @bindL (xfill [(nv 0)] [(0,1)] [v26]) ⟨fun cv27=>@letH (H4++[.cells cv27 3 none false]) ⟨fun H5 =>
 @bindP (xact (.app 3 1 8) H5 [out7,(.slice (some ⟨H4.length,0,none⟩) 1 1)]) ⟨fun v28 H6 =>
 @bindO (xbin .add 0 i8 (nv 1)) ⟨fun v15 =>
 K1 v28 v15 H6⟩⟩⟩⟩⟩⟩⟩⟩⟩⟩ else
 R out7 H3⟩⟩⟩⟩⟩⟩⟩
theorem g108_of {f0 a1 b2:Value} {H:AH} {R:Value→AH→Prop} (h:g108 f0 a1 b2 H R):FN Tryz.prog 108 [f0,a1,b2] H R:=
  FN.of_XD mixed xd108_ok (by kernel_rfl) (Nat.le_of_ble_eq_true rfl) (cast (by kernel_rfl) h)
def xd110:XD:=(.seq (.reg [yS 0 2 (.new [(nv 0),(nv 0),(.slice none 0 0)] 29) [],yS 1 3 .mov [oC (nv 0)]]) (.seq (.reg [yS 0 4 (.bld [(nv 0),(nv 0),(.slice none 0 0)] []) [],yS 1 5 .mov [oT 0],yN 2 (.st 3) [oT 2,oT 4],yS 3 3 .mov [oT 5]]) .ret))
theorem xd110_ok:compF Tryz.prog 110=some ⟨6,[(.cell 2 (some 3)),(.tmp 3)],xd110.er⟩:=by kernel_rfl
def xd112:XD:=(.seq (.reg [yS 0 6 (.new [(nv 0),(nv 0),(.slice none 0 0)] 29) [],yS 1 7 .mov [oC (nv 0)]]) (.seq (.reg [yS 0 11 .mov [oT 0],yS 1 12 .call [oF 111,oT 11],yS 2 10 .mov [oT 12],yS 3 13 (.ext 0) [oT 10],yS 4 14 (.ext 1) [oT 10],yS 5 8 (.new [(nv 0),(nv 0),(.slice none 0 0)] 76) [],yN 6 (.st 3) [oT 8,oT 13],yS 7 9 .mov [oT 14]]) (.seq (.reg [yS 0 15 .mov [oT 0],yS 1 16 .mov [oT 1],yS 2 17 (.ld (some 3)) [oT 8],yS 3 18 .mov [oT 2],yS 4 19 .call [oF 173,oT 17,oT 18],yS 5 20 (.bld [(nv 0),(nv 0),(.slice none 0 0)] [(0,1),(1,1),(2,1)]) [oT 15,oT 16,oT 19],yN 6 (.st 3) [oT 6,oT 20],yS 7 7 .mov [oC (nv 0)]]) .ret)))
theorem xd112_ok:compF Tryz.prog 112=some ⟨21,[(.cell 6 (some 3)),(.tmp 7)],xd112.er⟩:=by kernel_rfl
def g112 (q0 n1 rows2:Value) (H:AH) (R:Value→AH→Prop):Prop:=
 @letH (H++[.cells [(nv 0),(nv 0),(.slice none 0 0)] 29 none false]) ⟨fun H1 =>
 @cG 111 [q0] H1 ⟨fun v12 H2 =>
 @bindO (xpure (.ext 0) [v12]) ⟨fun v13 =>
 @bindO (xpure (.ext 1) [v12]) ⟨fun v14 =>
 @letH (H2++[.cells [(nv 0),(nv 0),(.slice none 0 0)] 76 none false]) ⟨fun H3 =>
 @bindP (xact (.st 3) H3 [(.pointer (some ⟨H2.length,0,none⟩)),v13]) ⟨fun _v H4 =>
 @bindO (xload (some 3) H4 [(.pointer (some ⟨H2.length,0,none⟩))]) ⟨fun v17 =>
 @cG 173 [v17,rows2] H4 ⟨fun v19 H5 =>
 @bindL (xfill [(nv 0),(nv 0),(.slice none 0 0)] [(0,1),(1,1),(2,1)] [q0,n1,v19]) ⟨fun v20 =>
 @bindP (xact (.st 3) H5 [(.pointer (some ⟨H.length,0,none⟩)),(.agg v20.toArray)]) ⟨fun _v H6 =>
 @bindO (xload (some 3) H6 [(.pointer (some ⟨H.length,0,none⟩))]) ⟨fun r0=>R (.tuple [r0,(nv 0)].toArray) H6⟩⟩⟩⟩⟩⟩⟩⟩⟩⟩⟩
theorem g112_of {q0 n1 rows2:Value} {H:AH} {R:Value→AH→Prop} (h:g112 q0 n1 rows2 H R):FN Tryz.prog 112 [q0,n1,rows2] H R:=
  FN.of_XD mixed xd112_ok (by kernel_rfl) (Nat.le_of_ble_eq_true rfl) (cast (by kernel_rfl) h)
def xd113:XD:=(.seq (.reg [yS 0 4 .mov [oC (.slice none 0 0)]]) (.seq (.reg [yS 0 5 .mov [oC (.slice none 0 0)]]) (.seq (.seq (.reg [yS 0 8 .mov [oT 0],yS 1 9 .lenS [oT 8],yS 2 10 .mov [oC (nv 0)]]) (.block 0 (.loop [5,10] 2096288 (.seq (.reg [yS 0 11 (.bin .lss 0) [oT 10,oT 9]]) (.seq (.cond (oT 11) .skip (.exit 0)) (.seq (.block 1 (.seq (.reg [yS 0 12 (.ixS 1) [oT 8,oT 10],yS 1 13 (.ld none) [oT 12],yS 2 7 .mov [oT 13]]) (.reg [yS 0 14 .mov [oT 5],yS 1 15 .mov [oT 1],yS 2 16 .mov [oT 7],yS 3 17 .call [oT 15,oT 16],yS 4 18 (.bsl [(.slice none 0 0)] 1 [(0,1)] 31) [oT 17],yS 5 19 (.app 31 1 24) [oT 14,oT 18],yS 6 5 .mov [oT 19]]))) (.reg [yS 0 20 (.bin .add 0) [oT 10,oC (nv 1)],yS 1 10 .mov [oT 20]]))))))) (.seq (.reg [yS 0 21 .mov [oT 5],yS 1 4 .mov [oT 21]]) .ret))))
theorem xd113_ok:compF Tryz.prog 113=some ⟨22,[(.tmp 4)],xd113.er⟩:=by kernel_rfl
def g113 (rows0 does1:Value) (H:AH) (R:Value→AH→Prop):Prop:=
 @bindO (xpure .lenS [rows0]) ⟨fun v9 =>
 @loopV2 (.slice none 0 0) (nv 0) H ⟨fun out5 v10 H1 K1 =>
 @bindO (xbin .lss 0 v10 v9) ⟨fun v11 =>
 @condK v11 ⟨fun q=>if q=true then @bindO (xpure (.ixS 1) [rows0,v10]) ⟨fun v12 =>
 @bindO (xload none H1 [v12]) ⟨fun v13 =>
 @callZ Tryz.prog [does1,v13] H1 ⟨fun v17 H2 =>
 @bindL (xfill [(.slice none 0 0)] [(0,1)] [v17]) ⟨fun cv18=>@letH (H2++[.cells cv18 31 none false]) ⟨fun H3 =>
 @bindP (xact (.app 31 1 24) H3 [out5,(.slice (some ⟨H2.length,0,none⟩) 1 1)]) ⟨fun v19 H4 =>
 @bindO (xbin .add 0 v10 (nv 1)) ⟨fun v20 =>
 K1 v19 v20 H4⟩⟩⟩⟩⟩⟩⟩ else
 R out5 H1⟩⟩⟩⟩
theorem g113_of {rows0 does1:Value} {H:AH} {R:Value→AH→Prop} (h:g113 rows0 does1 H R):FN Tryz.prog 113 [rows0,does1] H R:=
  FN.of_XD mixed xd113_ok (by kernel_rfl) (Nat.le_of_ble_eq_true rfl) (cast (by kernel_rfl) h)
def xd114:XD:=(.seq (.reg [yS 0 3 .mov [oC (.slice none 0 0)]]) (.seq (.reg [yS 0 4 .mov [oC (nv 0)]]) (.seq (.seq (.reg [yS 0 7 .mov [oT 0],yS 1 8 .lenS [oT 7],yS 2 9 .mov [oC (nv 0)]]) (.block 0 (.loop [4,9] 261712 (.seq (.reg [yS 0 10 (.bin .lss 0) [oT 9,oT 8]]) (.seq (.cond (oT 10) .skip (.exit 0)) (.seq (.block 1 (.seq (.reg [yS 0 11 (.ixS 1) [oT 7,oT 9],yS 1 12 (.ld none) [oT 11],yS 2 6 .mov [oT 12]]) (.reg [yS 0 13 (.ld (some 3)) [oT 1],yS 1 14 .mov [oT 4],yS 2 15 .mov [oT 6],yS 3 16 .call [oF 115,oT 13,oT 14,oT 15],yS 4 4 .mov [oT 16]]))) (.reg [yS 0 17 (.bin .add 0) [oT 9,oC (nv 1)],yS 1 9 .mov [oT 17]]))))))) (.seq (.reg [yS 0 18 .mov [oT 0],yS 1 19 .call [oF 102,oT 18],yS 2 20 .mov [oT 4],yS 3 21 (.bsl [(nv 0)] 1 [(0,1)] 3) [oT 20],yS 4 22 (.app 3 1 8) [oT 19,oT 21],yS 5 3 .mov [oT 22]]) .ret))))
theorem xd114_ok:compF Tryz.prog 114=some ⟨23,[(.tmp 3)],xd114.er⟩:=by kernel_rfl
def xd117:XD:=(.seq (.reg [yS 0 2 (.box 29) [oT 0],yS 1 4 .mov [oC (.bool false)]]) (.seq (.reg [yS 0 5 .mov [oT 1],yS 1 6 (.bin .geq 0) [oT 5,oC (nv 0)],yS 2 7 .mov [oT 6],yG (some (7,true)) 3 (some 8) .mov [oT 1],yG (some (7,true)) 4 (some 9) (.fld 1) [oT 2],yG (some (7,true)) 5 (some 10) (.ld none) [oT 9],yG (some (7,true)) 6 (some 11) (.bin .lss 0) [oT 8,oT 10],yS 7 12 .pick [oT 7,oT 11,oC (.bool false)],yS 8 13 .mov [oT 12],yG (some (13,true)) 9 (some 14) (.fld 1) [oT 2],yG (some (13,true)) 10 (some 15) (.ld none) [oT 14],yG (some (13,true)) 11 (some 16) (.bin .geq 0) [oT 15,oC (nv 2)],yS 12 17 .pick [oT 13,oT 16,oC (.bool false)],yS 13 4 .mov [oT 17]]) .ret))
theorem xd117_ok:compF Tryz.prog 117=some ⟨18,[(.tmp 4)],xd117.er⟩:=by kernel_rfl
def xd118:XD:=(.seq (.reg [yS 0 1 (.box 3) [oT 0],yS 1 2 .mov [oC .nilFunc]]) (.seq (.reg [yS 0 3 (.fn 177 0 1) [oT 1],yS 1 2 .mov [oT 3]]) .ret))
theorem xd118_ok:compF Tryz.prog 118=some ⟨4,[(.tmp 2)],xd118.er⟩:=by kernel_rfl
def xd119:XD:=(.seq (.reg [yS 0 5 (.box 50) [oT 2],yS 1 6 .mov [oC (.slice none 0 0)]]) (.seq (.reg [yS 0 14 .mov [oT 0],yS 1 15 .call [oF 111,oT 14],yS 2 13 .mov [oT 15],yS 3 16 (.ext 0) [oT 13],yS 4 17 (.ext 1) [oT 13],yS 5 7 (.new [(nv 0),(nv 0),(.slice none 0 0)] 76) [],yN 6 (.st 3) [oT 7,oT 16],yS 7 8 .mov [oT 17]]) (.seq (.reg [yS 0 18 .mov [oT 1],yS 1 19 (.fn 179 0 1) [oT 5],yS 2 20 .call [oF 140,oT 18,oT 19],yS 3 9 .mov [oT 20]]) (.seq (.seq (.reg [yS 0 21 .mov [oT 9],yS 1 22 (.bin .lss 0) [oT 21,oC (nv 0)]]) (.cond (oT 22) (.seq (.reg [yS 0 23 .mov [oT 1],yS 1 6 .mov [oT 23]]) .ret) .skip)) (.seq (.reg [yS 0 24 .mov [oT 1],yS 1 25 .mov [oT 9],yS 2 26 (.ixS 1) [oT 24,oT 25],yS 3 27 (.ld none) [oT 26],yS 4 10 (.new [(.slice none 0 0)] 31) [],yN 5 (.st 1) [oT 10,oT 27]]) (.seq (.reg [⟨none,(.ld (some 3)),[oT 7],some 29,0,true,[]⟩,yS 1 30 (.ld none) [oT 5],yS 2 31 (.ld none) [oT 10],yS 8 11 (.new [(nv 0)] 3) [],⟨none,.call,[oT 30,oT 31],some 32,3,false,[0]⟩,yS 4 33 .call [oF 142,oT 29,oT 32],yS 5 28 .mov [oT 33],yS 6 34 (.ext 0) [oT 28],yS 7 35 (.ext 1) [oT 28],yN 9 (.st 1) [oT 11,oT 34],yS 10 12 .mov [oT 35]]) (.seq (.reg [yS 0 36 .mov [oT 1],yS 1 37 .call [oF 181,oT 36],yS 2 38 .mov [oT 9],yS 3 39 .mov [oT 9],yS 4 40 (.bin .add 0) [oT 39,oC (nv 1)],yS 5 41 .call [oF 180,oT 37,oT 38,oT 40],yS 6 42 (.fn 182 0 4) [oT 7,oT 5,oT 11,oT 10],yS 7 43 .call [oF 113,oT 41,oT 42],yS 8 6 .mov [oT 43]]) .ret)))))))
theorem xd119_ok:compF Tryz.prog 119=some ⟨44,[(.tmp 6)],xd119.er⟩:=by kernel_rfl
def xd120:XD:=(.seq (.reg [yS 0 3 .mov [oC (nv 0)]]) (.seq (.reg [yS 0 4 .mov [oT 0],yS 1 5 (.ld none) [oT 1],yS 2 6 (.ixS 1) [oT 4,oT 5],yS 3 7 (.ld none) [oT 6],yS 4 3 .mov [oT 7]]) .ret))
theorem xd120_ok:compF Tryz.prog 120=some ⟨8,[(.tmp 3)],xd120.er⟩:=by kernel_rfl
def xd121:XD:=(.seq (.reg [yS 0 3 .mov [oC (.slice none 0 0)]]) (.seq (.reg [yS 0 4 .mov [oT 0],yS 1 5 (.fld 1) [oT 1],yS 2 6 (.ld none) [oT 5],yS 3 7 (.make (nv 0) 1 8 3) [oT 6,oT 6],yS 4 8 (.bsl [(.slice none 0 0),(.slice none 0 0)] 2 [(0,1),(1,1)] 31) [oT 4,oT 7],yS 5 9 .call [oF 122,oT 8],yS 6 3 .mov [oT 9]]) .ret))
theorem xd121_ok:compF Tryz.prog 121=some ⟨10,[(.tmp 3)],xd121.er⟩:=by kernel_rfl
def xd123:XD:=(.seq (.reg [yS 0 3 .mov [oC (.slice none 0 0)]]) (.seq (.reg [yS 0 4 (.fld 1) [oT 1],yS 1 5 (.ld none) [oT 4],yS 2 6 (.make (nv 0) 1 8 3) [oT 5,oT 5],yS 3 7 .mov [oT 0],yS 4 8 (.bsl [(.slice none 0 0),(.slice none 0 0)] 2 [(0,1),(1,1)] 31) [oT 6,oT 7],yS 5 9 .call [oF 122,oT 8],yS 6 3 .mov [oT 9]]) .ret))
theorem xd123_ok:compF Tryz.prog 123=some ⟨10,[(.tmp 3)],xd123.er⟩:=by kernel_rfl
def xd124:XD:=(.seq (.reg [yS 0 2 .mov [oC (.slice none 0 0)]]) (.seq (.reg [yS 0 3 .mov [oT 0],yS 1 4 .call [oF 184,oT 3],yS 2 2 .mov [oT 4]]) .ret))
theorem xd124_ok:compF Tryz.prog 124=some ⟨5,[(.tmp 2)],xd124.er⟩:=by kernel_rfl
def g124 (l0:Value) (H:AH) (R:Value→AH→Prop):Prop:=
 @cG 184 [l0] H ⟨fun v4 H1 =>
 R v4 H1⟩
theorem g124_of {l0:Value} {H:AH} {R:Value→AH→Prop} (h:g124 l0 H R):FN Tryz.prog 124 [l0] H R:=
  FN.of_XD mixed xd124_ok (by kernel_rfl) (Nat.le_of_ble_eq_true rfl) (cast (by kernel_rfl) h)
def xd125:XD:=(.seq (.reg [yS 0 2 .mov [oC (.slice none 0 0)]]) (.seq (.reg [yS 0 3 .mov [oT 0],yS 1 4 .mov [oT 0],yS 2 5 (.bsl [(.slice none 0 0),(.slice none 0 0)] 2 [(0,1),(1,1)] 31) [oT 3,oT 4],yS 3 6 .call [oF 122,oT 5],yS 4 2 .mov [oT 6]]) .ret))
theorem xd125_ok:compF Tryz.prog 125=some ⟨7,[(.tmp 2)],xd125.er⟩:=by kernel_rfl
def xd126:XD:=(.seq (.reg [yS 0 3 .mov [oC (.slice none 0 0)]]) (.seq (.reg [yS 0 4 (.fld 1) [oT 1],yS 1 5 (.ld none) [oT 4],yS 2 6 (.make (nv 0) 1 8 3) [oT 5,oT 5],yS 3 7 .mov [oT 0],yS 4 8 (.bsl [(.slice none 0 0),(.slice none 0 0)] 2 [(0,1),(1,1)] 31) [oT 6,oT 7],yS 5 9 .call [oF 122,oT 8],yS 6 3 .mov [oT 9]]) .ret))
theorem xd126_ok:compF Tryz.prog 126=some ⟨10,[(.tmp 3)],xd126.er⟩:=by kernel_rfl
def xd127:XD:=(.seq (.reg [yS 0 3 .mov [oC (.slice none 0 0)]]) (.seq (.reg [yS 0 4 .mov [oC (.slice none 0 0)]]) (.seq (.seq (.reg [yS 0 8 .mov [oT 0],yS 1 9 .lenS [oT 8],yS 2 10 .mov [oC (nv 0)]]) (.block 0 (.loop [4,10] 35184372088016 (.seq (.reg [yS 0 11 (.bin .lss 0) [oT 10,oT 9]]) (.seq (.cond (oT 11) .skip (.exit 0)) (.seq (.block 1 (.seq (.reg [yS 0 12 (.ixS 1) [oT 8,oT 10],yS 1 13 (.ld none) [oT 12],yS 2 6 .mov [oT 13]]) (.seq (.reg [yS 0 14 (.fld 1) [oT 1],yS 1 15 (.ld none) [oT 14],yS 2 16 .mov [oC (nv 0)]]) (.block 2 (.loop [4,16] 17592185979024 (.seq (.reg [yS 0 17 (.bin .lss 0) [oT 16,oT 15]]) (.seq (.cond (oT 17) .skip (.exit 2)) (.seq (.block 3 (.seq (.reg [yS 0 18 .mov [oT 16],yS 1 7 .mov [oT 18]]) (.reg [yS 0 19 .mov [oT 4],yS 1 20 .mov [oT 6],yS 2 21 (.bin .and 0) [oT 20,oC (nv 1)],yS 3 22 (.fld 2) [oT 1],yS 4 23 (.ld none) [oT 22],yS 5 24 (.ixS 1) [oT 23,oC (nv 0)],yS 6 25 (.ld none) [oT 24],yS 7 26 .mov [oT 7],yS 8 27 (.ixS 1) [oT 25,oT 26],yS 9 28 (.ld none) [oT 27],yS 10 29 (.bin .mul 0) [oT 21,oT 28],yS 11 30 .mov [oT 6],yS 12 31 (.bin .shr 0) [oT 30,oC (.int .u64 1)],yS 13 32 (.fld 2) [oT 1],yS 14 33 (.ld none) [oT 32],yS 15 34 (.ixS 1) [oT 33,oC (nv 1)],yS 16 35 (.ld none) [oT 34],yS 17 36 .mov [oT 7],yS 18 37 (.ixS 1) [oT 35,oT 36],yS 19 38 (.ld none) [oT 37],yS 20 39 (.bin .mul 0) [oT 31,oT 38],yS 21 40 (.bin .xor 0) [oT 29,oT 39],yS 22 41 (.bsl [(nv 0)] 1 [(0,1)] 3) [oT 40],yS 23 42 (.app 3 1 8) [oT 19,oT 41],yS 24 4 .mov [oT 42]]))) (.reg [yS 0 43 (.bin .add 0) [oT 16,oC (nv 1)],yS 1 16 .mov [oT 43]]))))))))) (.reg [yS 0 44 (.bin .add 0) [oT 10,oC (nv 1)],yS 1 10 .mov [oT 44]]))))))) (.seq (.reg [yS 0 45 .mov [oT 4],yS 1 3 .mov [oT 45]]) .ret))))
theorem xd127_ok:compF Tryz.prog 127=some ⟨46,[(.tmp 3)],xd127.er⟩:=by kernel_rfl
def g127 (r0 v1:Value) (H:AH) (R:Value→AH→Prop):Prop:=
 @bindO (xpure .lenS [r0]) ⟨fun v9 =>
 @loopV2 (.slice none 0 0) (nv 0) H ⟨fun out4 v10 H1 K1 =>
 @bindO (xbin .lss 0 v10 v9) ⟨fun v11 =>
 @condK v11 ⟨fun q=>if q=true then @bindO (xpure (.ixS 1) [r0,v10]) ⟨fun v12 =>
 @bindO (xload none H1 [v12]) ⟨fun v13 =>
 @bindO (xpure (.fld 1) [v1]) ⟨fun v14 =>
 @bindO (xload none H1 [v14]) ⟨fun v15 =>
 @loopV2 out4 (nv 0) H1 ⟨fun out4a v16 H2 K2 =>
 @bindO (xbin .lss 0 v16 v15) ⟨fun v17 =>
 @condK v17 ⟨fun q=>if q=true then @bindO (xbin .and 0 v13 (nv 1)) ⟨fun v21 =>
 @bindO (xpure (.fld 2) [v1]) ⟨fun v22 =>
 @bindO (xload none H2 [v22]) ⟨fun v23 =>
 @bindO (xpure (.ixS 1) [v23,(nv 0)]) ⟨fun v24 =>
 @bindO (xload none H2 [v24]) ⟨fun v25 =>
 @bindO (xpure (.ixS 1) [v25,v16]) ⟨fun v27 =>
 @bindO (xload none H2 [v27]) ⟨fun v28 =>
 @bindO (xbin .mul 0 v21 v28) ⟨fun v29 =>
 @bindO (xbin .shr 0 v13 (.int .u64 1)) ⟨fun v31 =>
 @bindO (xpure (.fld 2) [v1]) ⟨fun v32 =>
 @bindO (xload none H2 [v32]) ⟨fun v33 =>
 @bindO (xpure (.ixS 1) [v33,(nv 1)]) ⟨fun v34 =>
 @bindO (xload none H2 [v34]) ⟨fun v35 =>
 @bindO (xpure (.ixS 1) [v35,v16]) ⟨fun v37 =>
 @bindO (xload none H2 [v37]) ⟨fun v38 =>
 @bindO (xbin .mul 0 v31 v38) ⟨fun v39 =>
 @bindO (xbin .xor 0 v29 v39) ⟨fun v40 =>
 @bindL (xfill [(nv 0)] [(0,1)] [v40]) ⟨fun cv41=>@letH (H2++[.cells cv41 3 none false]) ⟨fun H3 =>
 @bindP (xact (.app 3 1 8) H3 [out4a,(.slice (some ⟨H2.length,0,none⟩) 1 1)]) ⟨fun v42 H4 =>
 @bindO (xbin .add 0 v16 (nv 1)) ⟨fun v43 =>
 K2 v42 v43 H4⟩⟩⟩⟩⟩⟩⟩⟩⟩⟩⟩⟩⟩⟩⟩⟩⟩⟩⟩⟩⟩ else
 @bindO (xbin .add 0 v10 (nv 1)) ⟨fun v44 =>
 K1 out4a v44 H2⟩⟩⟩⟩⟩⟩⟩⟩ else
 R out4 H1⟩⟩⟩⟩
theorem g127_of {r0 v1:Value} {H:AH} {R:Value→AH→Prop} (h:g127 r0 v1 H R):FN Tryz.prog 127 [r0,v1] H R:=
  FN.of_XD mixed xd127_ok (by kernel_rfl) (Nat.le_of_ble_eq_true rfl) (cast (by kernel_rfl) h)
def xd128:XD:=(.seq (.reg [yS 0 2 (.box 31) [oT 0],yS 1 3 .mov [oC (.slice none 0 0)]]) (.seq (.reg [yS 0 4 (.fn 130 0 2) [oT 2,oT 1],yS 1 5 .call [oF 129,oT 4],yS 2 3 .mov [oT 5]]) .ret))
theorem xd128_ok:compF Tryz.prog 128=some ⟨6,[(.tmp 3)],xd128.er⟩:=by kernel_rfl
def g128 (r0 v1:Value) (H:AH) (R:Value→AH→Prop):Prop:=
 @letH (H++[.cells (cellsL r0) 31 none false]) ⟨fun H1 =>
 @bindO (xpure (.fn 130 0 2) [(.pointer (some ⟨H.length,0,none⟩)),v1]) ⟨fun v4 =>
 @cG 129 [v4] H1 ⟨fun v5 H2 =>
 R v5 H2⟩⟩⟩
theorem g128_of {r0 v1:Value} {H:AH} {R:Value→AH→Prop} (h:g128 r0 v1 H R):FN Tryz.prog 128 [r0,v1] H R:=
  FN.of_XD mixed xd128_ok (by kernel_rfl) (Nat.le_of_ble_eq_true rfl) (cast (by kernel_rfl) h)
def xd129:XD:=(.seq (.reg [yS 0 2 .mov [oC (.slice none 0 0)]]) (.seq (.reg [yS 0 3 .mov [oT 0],yS 1 4 .call [oF 185,oC (.slice none 0 0),oT 3],yS 2 2 .mov [oT 4]]) .ret))
theorem xd129_ok:compF Tryz.prog 129=some ⟨5,[(.tmp 2)],xd129.er⟩:=by kernel_rfl
def g129 (seq0:Value) (H:AH) (R:Value→AH→Prop):Prop:=
 @cG 185 [(.slice none 0 0),seq0] H ⟨fun v4 H1 =>
 R v4 H1⟩
theorem g129_of {seq0:Value} {H:AH} {R:Value→AH→Prop} (h:g129 seq0 H R):FN Tryz.prog 129 [seq0] H R:=
  FN.of_XD mixed xd129_ok (by kernel_rfl) (Nat.le_of_ble_eq_true rfl) (cast (by kernel_rfl) h)
def xd130:XD:=(.seq (.reg [yS 0 6 (.ld none) [oT 1],yS 1 7 .lenS [oT 6],yS 2 8 .mov [oC (nv 0)]]) (.block 0 (.loop [8] 524064 (.seq (.reg [yS 0 9 (.bin .lss 0) [oT 8,oT 7]]) (.seq (.cond (oT 9) .skip (.exit 0)) (.seq (.block 1 (.seq (.reg [yS 0 10 (.ixS 1) [oT 6,oT 8],yS 1 11 (.ld none) [oT 10],yS 2 5 .mov [oT 11]]) (.seq (.reg [yS 0 12 .mov [oT 0],yS 1 13 (.ld (some 3)) [oT 2],yS 2 14 .mov [oT 5],yS 3 15 .call [oF 131,oT 13,oC (nv 2),oT 14],yS 4 16 .call [oT 12,oT 15],yS 5 17 (.un .not) [oT 16]]) (.cond (oT 17) .ret .skip)))) (.reg [yS 0 18 (.bin .add 0) [oT 8,oC (nv 1)],yS 1 8 .mov [oT 18]])))))))
theorem xd130_ok:compF Tryz.prog 130=some ⟨19,[],xd130.er⟩:=by kernel_rfl
def g130 (yield0 v1 v2:Value) (H:AH) (R:Value→AH→Prop):Prop:=
 @bindO (xload none H [v1]) ⟨fun v6 =>
 @bindO (xpure .lenS [v6]) ⟨fun v7 =>
 @loopV1 (nv 0) H ⟨fun v8 H1 K1 =>
 @bindO (xbin .lss 0 v8 v7) ⟨fun v9 =>
 @condK v9 ⟨fun q=>if q=true then @bindO (xpure (.ixS 1) [v6,v8]) ⟨fun v10 =>
 @bindO (xload none H1 [v10]) ⟨fun v11 =>
 @bindO (xload (some 3) H1 [v2]) ⟨fun v13 =>
 @cG 131 [v13,(nv 2),v11] H1 ⟨fun v15 H2 =>
 @callZ Tryz.prog [yield0,v15] H2 ⟨fun v16 H3 =>
 @bindO (eun .not v16) ⟨fun v17 =>
 @condK v17 ⟨fun q=>if q=true then R (.tuple [].toArray) H3 else
 @bindO (xbin .add 0 v8 (nv 1)) ⟨fun v18 =>
 K1 v18 H3⟩⟩⟩⟩⟩⟩⟩⟩ else
 R (.tuple [].toArray) H1⟩⟩⟩⟩⟩
theorem g130_of {yield0 v1 v2:Value} {H:AH} {R:Value→AH→Prop} (h:g130 yield0 v1 v2 H R):FN Tryz.prog 130 [yield0,v1,v2] H R:=
  FN.of_XD mixed xd130_ok (by kernel_rfl) (Nat.le_of_ble_eq_true rfl) (cast (by kernel_rfl) h)
def xd133:XD:=(.seq (.reg [yS 0 2 .mov [oC (nv 0)]]) (.seq (.reg [yS 0 3 .mov [oC (nv 0)]]) (.seq (.seq (.reg [yS 0 6 .mov [oT 0],yS 1 7 .lenS [oT 6],yS 2 8 .mov [oC (nv 0)]]) (.block 0 (.loop [3,8] 65320 (.seq (.reg [yS 0 9 (.bin .lss 0) [oT 8,oT 7]]) (.seq (.cond (oT 9) .skip (.exit 0)) (.seq (.block 1 (.seq (.reg [yS 0 10 (.ixS 1) [oT 6,oT 8],yS 1 11 (.ld none) [oT 10],yS 2 5 .mov [oT 11]]) (.reg [yS 0 12 .mov [oT 3],yS 1 13 .mov [oT 5],yS 2 14 (.bin .xor 0) [oT 12,oT 13],yS 3 3 .mov [oT 14]]))) (.reg [yS 0 15 (.bin .add 0) [oT 8,oC (nv 1)],yS 1 8 .mov [oT 15]]))))))) (.seq (.reg [yS 0 16 .mov [oT 3],yS 1 2 .mov [oT 16]]) .ret))))
theorem xd133_ok:compF Tryz.prog 133=some ⟨17,[(.tmp 2)],xd133.er⟩:=by kernel_rfl
def xd134:XD:=(.seq (.reg [yS 0 4 .mov [oC (.slice none 0 0)]]) (.seq (.reg [yS 0 8 (.fld 1) [oT 1],yS 1 9 (.ld none) [oT 8],yS 2 10 (.make (nv 0) 1 8 3) [oT 9,oT 9],yS 3 5 .mov [oT 10]]) (.seq (.seq (.reg [yS 0 11 .mov [oT 0],yS 1 12 .lenS [oT 11],yS 2 13 .mov [oC (nv 0)]]) (.block 0 (.loop [13] 67100864 (.seq (.reg [yS 0 14 (.bin .lss 0) [oT 13,oT 12]]) (.seq (.cond (oT 14) .skip (.exit 0)) (.seq (.block 1 (.seq (.reg [yS 0 15 .mov [oT 13],yS 1 16 (.ixS 1) [oT 11,oT 13],yS 2 17 (.ld none) [oT 16],yS 3 6 .mov [oT 15],yS 4 7 .mov [oT 17]]) (.reg [yS 0 18 .mov [oT 5],yS 1 19 (.ld none) [oT 2],yS 2 20 .mov [oT 6],yS 3 21 (.ixS 1) [oT 19,oT 20],yS 4 22 (.ld none) [oT 21],yS 5 23 .mov [oT 7],yS 6 24 (.ixS 1) [oT 18,oT 22],yN 7 (.st 1) [oT 24,oT 23]]))) (.reg [yS 0 25 (.bin .add 0) [oT 13,oC (nv 1)],yS 1 13 .mov [oT 25]]))))))) (.seq (.reg [yS 0 26 .mov [oT 5],yS 1 4 .mov [oT 26]]) .ret))))
theorem xd134_ok:compF Tryz.prog 134=some ⟨27,[(.tmp 4)],xd134.er⟩:=by kernel_rfl
def xd138:XD:=(.seq (.reg [yS 0 4 .mov [oC (.bool false)]]) (.seq (.reg [yS 0 5 .mov [oT 0],yS 1 6 .mov [oT 1],yS 2 7 .call [oF 140,oT 5,oT 6],yS 3 8 (.bin .geq 0) [oT 7,oC (nv 0)],yS 4 4 .mov [oT 8]]) .ret))
theorem xd138_ok:compF Tryz.prog 138=some ⟨9,[(.tmp 4)],xd138.er⟩:=by kernel_rfl
def g138 (s0 f1:Value) (H:AH) (R:Value→AH→Prop):Prop:=
 @cG 140 [s0,f1] H ⟨fun v7 H1 =>
 @bindO (xbin .geq 0 v7 (nv 0)) ⟨fun v8 =>
 R v8 H1⟩⟩
theorem g138_of {s0 f1:Value} {H:AH} {R:Value→AH→Prop} (h:g138 s0 f1 H R):FN Tryz.prog 138 [s0,f1] H R:=
  FN.of_XD mixed xd138_ok (by kernel_rfl) (Nat.le_of_ble_eq_true rfl) (cast (by kernel_rfl) h)
def xd139:XD:=(.seq (.reg [yS 0 4 .mov [oC (.bool false)]]) (.seq (.reg [yS 0 5 (.ld none) [oT 1],yS 1 6 (.ld none) [oT 2],yS 2 7 .mov [oT 0],yS 3 8 .call [oF 92,oT 5,oT 6,oT 7],yS 4 9 (.un .not) [oT 8],yS 5 4 .mov [oT 9]]) .ret))
theorem xd139_ok:compF Tryz.prog 139=some ⟨10,[(.tmp 4)],xd139.er⟩:=by kernel_rfl
def g139 (x0 v1 v2:Value) (H:AH) (R:Value→AH→Prop):Prop:=
 @bindO (xload none H [v1]) ⟨fun v5 =>
 @bindO (xload none H [v2]) ⟨fun v6 =>
 @cG 92 [v5,v6,x0] H ⟨fun v8 H1 =>
 @bindO (eun .not v8) ⟨fun v9 =>
 R v9 H1⟩⟩⟩⟩
theorem g139_of {x0 v1 v2:Value} {H:AH} {R:Value→AH→Prop} (h:g139 x0 v1 v2 H R):FN Tryz.prog 139 [x0,v1,v2] H R:=
  FN.of_XD mixed xd139_ok (by kernel_rfl) (Nat.le_of_ble_eq_true rfl) (cast (by kernel_rfl) h)
def xd140:XD:=(.seq (.reg [yS 0 4 .mov [oC (nv 0)]]) (.seq (.seq (.reg [yS 0 6 .mov [oT 0],yS 1 7 .lenS [oT 6],yS 2 8 .mov [oC (nv 0)]]) (.block 0 (.loop [8] 524080 (.seq (.reg [yS 0 9 (.bin .lss 0) [oT 8,oT 7]]) (.seq (.cond (oT 9) .skip (.exit 0)) (.seq (.block 1 (.seq (.reg [yS 0 10 .mov [oT 8],yS 1 5 .mov [oT 10]]) (.seq (.reg [yS 0 11 .mov [oT 1],yS 1 12 .mov [oT 0],yS 2 13 .mov [oT 5],yS 3 14 (.ixS 1) [oT 12,oT 13],yS 4 15 (.ld none) [oT 14],yS 5 16 .call [oT 11,oT 15]]) (.cond (oT 16) (.seq (.reg [yS 0 17 .mov [oT 5],yS 1 4 .mov [oT 17]]) .ret) .skip)))) (.reg [yS 0 18 (.bin .add 0) [oT 8,oC (nv 1)],yS 1 8 .mov [oT 18]]))))))) (.seq (.reg [yS 0 4 .mov [oC (.int .i64 (-1))]]) .ret)))
theorem xd140_ok:compF Tryz.prog 140=some ⟨19,[(.tmp 4)],xd140.er⟩:=by kernel_rfl
def g140 (s0 f1:Value) (H:AH) (R:Value→AH→Prop):Prop:=
 @bindO (xpure .lenS [s0]) ⟨fun v7 =>
 @loopV1 (nv 0) H ⟨fun v8 H1 K1 =>
 @bindO (xbin .lss 0 v8 v7) ⟨fun v9 =>
 @condK v9 ⟨fun q=>if q=true then @bindO (xpure (.ixS 1) [s0,v8]) ⟨fun v14 =>
 @bindO (xload none H1 [v14]) ⟨fun v15 =>
 @callZ Tryz.prog [f1,v15] H1 ⟨fun v16 H2 =>
 @condK v16 ⟨fun q=>if q=true then R v8 H2 else
 @bindO (xbin .add 0 v8 (nv 1)) ⟨fun v18 =>
 K1 v18 H2⟩⟩⟩⟩⟩ else
 R (.int .i64 (-1)) H1⟩⟩⟩⟩
theorem g140_of {s0 f1:Value} {H:AH} {R:Value→AH→Prop} (h:g140 s0 f1 H R):FN Tryz.prog 140 [s0,f1] H R:=
  FN.of_XD mixed xd140_ok (by kernel_rfl) (Nat.le_of_ble_eq_true rfl) (cast (by kernel_rfl) h)
def xd141:XD:=(.seq (.reg [yS 0 3 .mov [oC (.bool false)]]) (.seq (.reg [yS 0 4 .mov [oT 0],yS 1 5 (.ld none) [oT 1],yS 2 6 (.ixS 1) [oT 4,oT 5],yS 3 7 (.ld none) [oT 6],yS 4 8 (.bin .neq 0) [oT 7,oC (nv 0)],yS 5 3 .mov [oT 8]]) .ret))
theorem xd141_ok:compF Tryz.prog 141=some ⟨9,[(.tmp 3)],xd141.er⟩:=by kernel_rfl
def g141 (x0 v1:Value) (H:AH) (R:Value→AH→Prop):Prop:=
 @bindO (xload none H [v1]) ⟨fun v5 =>
 @bindO (xpure (.ixS 1) [x0,v5]) ⟨fun v6 =>
 @bindO (xload none H [v6]) ⟨fun v7 =>
 @bindO (xbin .neq 0 v7 (nv 0)) ⟨fun v8 =>
 R v8 H⟩⟩⟩⟩
theorem g141_of {x0 v1:Value} {H:AH} {R:Value→AH→Prop} (h:g141 x0 v1 H R):FN Tryz.prog 141 [x0,v1] H R:=
  FN.of_XD mixed xd141_ok (by kernel_rfl) (Nat.le_of_ble_eq_true rfl) (cast (by kernel_rfl) h)
def xd143:XD:=(.seq (.reg [yS 0 2 (.box 29) [oT 0],yS 1 4 .mov [oC (.slice none 0 0)]]) (.seq (.reg [yS 0 8 (.fld 0) [oT 2],yS 1 9 (.ld none) [oT 8],yS 3 11 (.fld 1) [oT 2],⟨none,(.ld none),[oT 11],some 12,4,true,[]⟩,yS 6 5 (.new [(nv 0),(nv 0),(.slice none 0 0)] 76) [],⟨none,.call,[oF 62,oT 9],some 10,2,false,[4]⟩,yS 5 13 .call [oF 60,oT 12],yN 7 (.st 3) [oT 5,oT 10],yS 8 6 .mov [oT 13]]) (.seq (.seq (.reg [yS 0 7 .mov [oC (nv 0)]]) (.block 0 (.loop [6,7] 17179852992 (.seq (.seq (.reg [yS 0 14 .mov [oT 7],yS 1 15 .mov [oT 1],yS 2 16 .lenS [oT 15],yS 3 17 (.bin .lss 0) [oT 14,oT 16]]) (.cond (oT 17) .skip (.exit 0))) (.seq (.block 1 (.reg [⟨none,(.ld (some 3)),[oT 5],some 20,0,true,[]⟩,yS 1 21 .mov [oT 6],yS 2 22 (.ld (some 3)) [oT 5],yS 3 23 .mov [oT 1],yS 4 24 .mov [oT 7],yS 5 25 (.ixS 1) [oT 23,oT 24],yS 6 26 (.ld none) [oT 25],yS 7 27 (.fld 2) [oT 2],yS 8 28 (.ld none) [oT 27],yS 9 29 .mov [oT 7],yS 10 30 (.ixS 1) [oT 28,oT 29],yS 11 31 (.ld none) [oT 30],⟨none,.call,[oF 74,oT 22,oT 26,oT 31],some 32,12,false,[0]⟩,yS 13 33 .call [oF 108,oT 20,oT 21,oT 32],yS 14 6 .mov [oT 33]])) (.reg [yS 0 18 .mov [oT 7],yS 1 19 (.bin .add 0) [oT 18,oC (nv 1)],yS 2 7 .mov [oT 19]])))))) (.seq (.reg [yS 0 34 .mov [oT 6],yS 1 4 .mov [oT 34]]) .ret))))
theorem xd143_ok:compF Tryz.prog 143=some ⟨35,[(.tmp 4)],xd143.er⟩:=by kernel_rfl
def g143 (c0 msg1:Value) (H:AH) (R:Value→AH→Prop):Prop:=
 @letH (H++[.cells (cellsL c0) 29 none false]) ⟨fun H1 =>
 @bindO (xpure (.fld 0) [(.pointer (some ⟨H.length,0,none⟩))]) ⟨fun v8 =>
 @bindO (xload none H1 [v8]) ⟨fun v9 =>
 @bindO (xpure (.fld 1) [(.pointer (some ⟨H.length,0,none⟩))]) ⟨fun v11 =>
 @bindO (xload none H1 [v11]) ⟨fun v12 =>
 @letH (H1++[.cells [(nv 0),(nv 0),(.slice none 0 0)] 76 none false]) ⟨fun H2 =>
 @cG 62 [v9] H2 ⟨fun v10 H3 =>
 (chkX [4] (⟨4,none,[v11],v12⟩ :: []) H3∧@cG 60 [v12] H3 ⟨fun v13 H4 =>
 @bindP (xact (.st 3) H4 [(.pointer (some ⟨H1.length,0,none⟩)),v10]) ⟨fun _v H5 =>
 @loopV2 v13 (nv 0) H5 ⟨fun w6 i7 H6 K1 =>
 @bindO (xpure .lenS [msg1]) ⟨fun v16 =>
 @bindO (xbin .lss 0 i7 v16) ⟨fun v17 =>
 @condK v17 ⟨fun q=>if q=true then @bindO (xload (some 3) H6 [(.pointer (some ⟨H1.length,0,none⟩))]) ⟨fun v20 =>
 @bindO (xload (some 3) H6 [(.pointer (some ⟨H1.length,0,none⟩))]) ⟨fun v22 =>
 @bindO (xpure (.ixS 1) [msg1,i7]) ⟨fun v25 =>
 @bindO (xload none H6 [v25]) ⟨fun v26 =>
 @bindO (xpure (.fld 2) [(.pointer (some ⟨H.length,0,none⟩))]) ⟨fun v27 =>
 @bindO (xload none H6 [v27]) ⟨fun v28 =>
 @bindO (xpure (.ixS 1) [v28,i7]) ⟨fun v30 =>
 @bindO (xload none H6 [v30]) ⟨fun v31 =>
 @cG 74 [v22,v26,v31] H6 ⟨fun v32 H7 =>
 (chkX [0] (⟨0,(some 3),[(.pointer (some ⟨H1.length,0,none⟩))],v20⟩ :: []) H7∧@cG 108 [v20,w6,v32] H7 ⟨fun v33 H8 =>
 @bindO (xbin .add 0 i7 (nv 1)) ⟨fun v19 =>
 K1 v33 v19 H8⟩⟩)⟩⟩⟩⟩⟩⟩⟩⟩⟩ else
 R w6 H6⟩⟩⟩⟩⟩⟩)⟩⟩⟩⟩⟩⟩⟩
theorem g143_of {c0 msg1:Value} {H:AH} {R:Value→AH→Prop} (h:g143 c0 msg1 H R):FN Tryz.prog 143 [c0,msg1] H R:=
  FN.of_XD mixed xd143_ok (by kernel_rfl) (Nat.le_of_ble_eq_true rfl) (cast (by kernel_rfl) h)
def xd144:XD:=(.seq (.reg [yS 0 2 (.box 29) [oT 0],yS 1 4 .mov [oC (.slice none 0 0)]]) (.seq (.reg [yS 0 7 (.fld 2) [oT 2],yS 1 8 (.ld none) [oT 7],yS 2 9 .lenS [oT 8],yS 3 10 (.make (nv 0) 1 8 3) [oT 9,oT 9],yS 4 5 .mov [oT 10]]) (.seq (.seq (.reg [yS 0 11 .mov [oT 5],yS 1 12 .lenS [oT 11],yS 2 13 (.bin .sub 0) [oT 12,oC (nv 1)],yS 3 6 .mov [oT 13]]) (.block 0 (.loop [1,6] 536854594 (.seq (.seq (.reg [yS 0 14 .mov [oT 6],yS 1 15 (.bin .geq 0) [oT 14,oC (nv 0)]]) (.cond (oT 15) .skip (.exit 0))) (.seq (.block 1 (.seq (.reg [yS 0 18 .mov [oT 5],yS 1 19 .mov [oT 6],yS 2 20 .mov [oT 1],yS 3 21 (.fld 0) [oT 2],yS 4 22 (.ld none) [oT 21],yS 5 23 (.bin .rem 0) [oT 20,oT 22],yS 6 24 (.ixS 1) [oT 18,oT 19],yN 7 (.st 1) [oT 24,oT 23]]) (.reg [yS 0 25 .mov [oT 1],yS 1 26 (.fld 0) [oT 2],yS 2 27 (.ld none) [oT 26],yS 3 28 (.bin .quo 0) [oT 25,oT 27],yS 4 1 .mov [oT 28]]))) (.reg [yS 0 16 .mov [oT 6],yS 1 17 (.bin .sub 0) [oT 16,oC (nv 1)],yS 2 6 .mov [oT 17]])))))) (.seq (.reg [yS 0 29 .mov [oT 5],yS 1 4 .mov [oT 29]]) .ret))))
theorem xd144_ok:compF Tryz.prog 144=some ⟨30,[(.tmp 4)],xd144.er⟩:=by kernel_rfl
def g144 (c0 n1:Value) (H:AH) (R:Value→AH→Prop):Prop:=
 @letH (H++[.cells (cellsL c0) 29 none false]) ⟨fun H1 =>
 @bindO (xpure (.fld 2) [(.pointer (some ⟨H.length,0,none⟩))]) ⟨fun v7 =>
 @bindO (xload none H1 [v7]) ⟨fun v8 =>
 @bindO (xpure .lenS [v8]) ⟨fun v9 =>
 @bindN (xnew (.make (nv 0) 1 8 3) [v9,v9]) ⟨fun cv10 ev10 mkv10=>@letH (H1++[.cells cv10 ev10 none false]) ⟨fun H2 =>
 @bindO (xpure .lenS [(mkv10 H1.length)]) ⟨fun v12 =>
 @bindO (xbin .sub 0 v12 (nv 1)) ⟨fun v13 =>
 @loopV2 n1 v13 H2 ⟨fun n1a i6 H3 K1 =>
 @bindO (xbin .geq 0 i6 (nv 0)) ⟨fun v15 =>
 @condK v15 ⟨fun q=>if q=true then @bindO (xpure (.fld 0) [(.pointer (some ⟨H.length,0,none⟩))]) ⟨fun v21 =>
 @bindO (xload none H3 [v21]) ⟨fun v22 =>
 @bindO (xbin .rem 0 n1a v22) ⟨fun v23 =>
 @bindO (xpure (.ixS 1) [(mkv10 H1.length),i6]) ⟨fun v24 =>
 @bindP (xact (.st 1) H3 [v24,v23]) ⟨fun _v H4 =>
 @bindO (xpure (.fld 0) [(.pointer (some ⟨H.length,0,none⟩))]) ⟨fun v26 =>
 @bindO (xload none H4 [v26]) ⟨fun v27 =>
 @bindO (xbin .quo 0 n1a v27) ⟨fun v28 =>
 @bindO (xbin .sub 0 i6 (nv 1)) ⟨fun v17 =>
 K1 v28 v17 H4⟩⟩⟩⟩⟩⟩⟩⟩⟩ else
 R (mkv10 H1.length) H3⟩⟩⟩⟩⟩⟩⟩⟩⟩⟩⟩
theorem g144_of {c0 n1:Value} {H:AH} {R:Value→AH→Prop} (h:g144 c0 n1 H R):FN Tryz.prog 144 [c0,n1] H R:=
  FN.of_XD mixed xd144_ok (by kernel_rfl) (Nat.le_of_ble_eq_true rfl) (cast (by kernel_rfl) h)
def xd145:XD:=(.seq (.reg [yS 0 4 .mov [oC (.bool false)]]) (.seq (.seq (.reg [yS 0 6 .mov [oT 0],yS 1 7 .lenS [oT 6],yS 2 8 .mov [oT 1],yS 3 9 .lenS [oT 8],yS 4 10 (.bin .neq 0) [oT 7,oT 9]]) (.cond (oT 10) (.seq (.reg [yS 0 4 .mov [oC (.bool false)]]) .ret) .skip)) (.seq (.seq (.reg [yS 0 5 .mov [oC (nv 0)]]) (.block 0 (.loop [5] 67106864 (.seq (.seq (.reg [yS 0 11 .mov [oT 5],yS 1 12 .mov [oT 0],yS 2 13 .lenS [oT 12],yS 3 14 (.bin .lss 0) [oT 11,oT 13]]) (.cond (oT 14) .skip (.exit 0))) (.seq (.block 1 (.seq (.reg [yS 0 17 .mov [oT 0],yS 1 18 .mov [oT 5],yS 2 19 (.ixS 1) [oT 17,oT 18],yS 3 20 (.ld none) [oT 19],yS 4 21 .mov [oT 1],yS 5 22 .mov [oT 5],yS 6 23 (.ixS 1) [oT 21,oT 22],yS 7 24 (.ld none) [oT 23],yS 8 25 (.bin .neq 0) [oT 20,oT 24]]) (.cond (oT 25) (.seq (.reg [yS 0 4 .mov [oC (.bool false)]]) .ret) .skip))) (.reg [yS 0 15 .mov [oT 5],yS 1 16 (.bin .add 0) [oT 15,oC (nv 1)],yS 2 5 .mov [oT 16]])))))) (.seq (.reg [yS 0 4 .mov [oC (.bool true)]]) .ret))))
theorem xd145_ok:compF Tryz.prog 145=some ⟨26,[(.tmp 4)],xd145.er⟩:=by kernel_rfl
def g145 (a0 b1:Value) (H:AH) (R:Value→AH→Prop):Prop:=
 @bindO (xpure .lenS [a0]) ⟨fun v7 =>
 @bindO (xpure .lenS [b1]) ⟨fun v9 =>
 @bindO (xbin .neq 0 v7 v9) ⟨fun v10 =>
 @condK v10 ⟨fun q=>if q=true then R (.bool false) H else
 @loopV1 (nv 0) H ⟨fun i5 H1 K1 =>
 @bindO (xpure .lenS [a0]) ⟨fun v13 =>
 @bindO (xbin .lss 0 i5 v13) ⟨fun v14 =>
 @condK v14 ⟨fun q=>if q=true then @bindO (xpure (.ixS 1) [a0,i5]) ⟨fun v19 =>
 @bindO (xload none H1 [v19]) ⟨fun v20 =>
 @bindO (xpure (.ixS 1) [b1,i5]) ⟨fun v23 =>
 @bindO (xload none H1 [v23]) ⟨fun v24 =>
 @bindO (xbin .neq 0 v20 v24) ⟨fun v25 =>
 @condK v25 ⟨fun q=>if q=true then R (.bool false) H1 else
 @bindO (xbin .add 0 i5 (nv 1)) ⟨fun v16 =>
 K1 v16 H1⟩⟩⟩⟩⟩⟩⟩ else
 R (.bool true) H1⟩⟩⟩⟩⟩⟩⟩⟩
theorem g145_of {a0 b1:Value} {H:AH} {R:Value→AH→Prop} (h:g145 a0 b1 H R):FN Tryz.prog 145 [a0,b1] H R:=
  FN.of_XD mixed xd145_ok (by kernel_rfl) (Nat.le_of_ble_eq_true rfl) (cast (by kernel_rfl) h)
def xd147:XD:=(.seq (.reg [yS 0 3 .mov [oC (.bool false)]]) (.seq (.reg [yS 0 4 .mov [oT 0],yS 1 5 (.bin .lss 0) [oT 4,oC (nv 0)],yS 2 6 .mov [oT 5],yG (some (6,false)) 3 (some 7) .mov [oT 0],yG (some (6,false)) 4 (some 8) (.ld none) [oT 1],yG (some (6,false)) 5 (some 9) (.bin .geq 0) [oT 7,oT 8],yS 6 10 .pick [oT 6,oC (.bool true),oT 9],yS 7 3 .mov [oT 10]]) .ret))
theorem xd147_ok:compF Tryz.prog 147=some ⟨11,[(.tmp 3)],xd147.er⟩:=by kernel_rfl
def g147 (a0 v1:Value) (H:AH) (R:Value→AH→Prop):Prop:=
 @bindO (xbin .lss 0 a0 (nv 0)) ⟨fun v5 =>
 @guardJ (asNB v5) (fun J1=>J1 a0 H) H ⟨fun v7 H1 =>
 @guardJ (asNB v5) (fun J2=>@bindO (xload none H1 [v1]) ⟨fun v8 =>
 J2 v8 H1⟩) H1 ⟨fun v8a H2 =>
 @guardJ (asNB v5) (fun J3=>@bindO (xbin .geq 0 v7 v8a) ⟨fun v9 =>
 J3 v9 H2⟩) H2 ⟨fun v9a H3 =>
 @pickK v5 (.bool true) v9a ⟨fun v10 =>
 R v10 H3⟩⟩⟩⟩⟩
theorem g147_of {a0 v1:Value} {H:AH} {R:Value→AH→Prop} (h:g147 a0 v1 H R):FN Tryz.prog 147 [a0,v1] H R:=
  FN.of_XD mixed xd147_ok (by kernel_rfl) (Nat.le_of_ble_eq_true rfl) (cast (by kernel_rfl) h)
def xd149:XD:=(.seq (.reg [yS 0 2 .mov [oC (.bool false)]]) (.seq (.reg [yS 0 3 .mov [oT 0],yS 1 4 (.bin .neq 0) [oT 3,oC (nv 0)],yS 2 2 .mov [oT 4]]) .ret))
theorem xd149_ok:compF Tryz.prog 149=some ⟨5,[(.tmp 2)],xd149.er⟩:=by kernel_rfl
def g149 (a0:Value) (H:AH) (R:Value→AH→Prop):Prop:=
 @bindO (xbin .neq 0 a0 (nv 0)) ⟨fun v4 =>
 R v4 H⟩
theorem g149_of {a0:Value} {H:AH} {R:Value→AH→Prop} (h:g149 a0 H R):FN Tryz.prog 149 [a0] H R:=
  FN.of_XD mixed xd149_ok (by kernel_rfl) (Nat.le_of_ble_eq_true rfl) (cast (by kernel_rfl) h)
def xd177:XD:=(.seq (.reg [yS 0 3 .mov [oC (.slice none 0 0)]]) (.seq (.reg [yS 0 4 .mov [oT 0],⟨none,(.ld none),[oT 1],some 6,2,true,[]⟩,⟨none,(.ld none),[oT 1],some 7,3,true,[]⟩,yS 4 8 (.bin .add 0) [oT 7,oC (nv 1)],⟨none,.call,[oF 102,oT 4],some 5,1,false,[3,2]⟩,yS 5 9 .call [oF 178,oT 5,oT 6,oT 8],yS 6 3 .mov [oT 9]]) .ret))
theorem xd177_ok:compF Tryz.prog 177=some ⟨10,[(.tmp 3)],xd177.er⟩:=by kernel_rfl
def xd179:XD:=(.seq (.reg [yS 0 3 .mov [oC (.bool false)]]) (.seq (.reg [yS 0 4 (.ld none) [oT 1],yS 1 5 .mov [oT 0],yS 2 6 .call [oT 4,oT 5],yS 3 7 (.bin .neq 0) [oT 6,oC (nv 0)],yS 4 3 .mov [oT 7]]) .ret))
theorem xd179_ok:compF Tryz.prog 179=some ⟨8,[(.tmp 3)],xd179.er⟩:=by kernel_rfl
def xd182:XD:=(.seq (.reg [yS 0 6 .mov [oC (.slice none 0 0)]]) (.seq (.reg [⟨none,(.ld (some 3)),[oT 1],some 11,0,true,[]⟩,yS 1 12 (.ld none) [oT 2],yS 2 13 .mov [oT 0],⟨none,(.ld none),[oT 3],some 15,4,true,[]⟩,⟨none,.call,[oT 12,oT 13],some 14,3,false,[4,0]⟩,yS 5 16 .call [oF 131,oT 11,oT 14,oT 15],yS 6 7 .mov [oT 16]]) (.seq (.reg [yS 0 17 .mov [oT 0],yS 1 18 .call [oF 102,oT 17],yS 2 8 .mov [oT 18]]) (.seq (.seq (.reg [yS 0 19 (.ld none) [oT 4],yS 1 20 .lenS [oT 19],yS 2 21 .mov [oC (nv 0)]]) (.block 0 (.loop [21] 1099509532160 (.seq (.reg [yS 0 22 (.bin .lss 0) [oT 21,oT 20]]) (.seq (.cond (oT 22) .skip (.exit 0)) (.seq (.block 1 (.seq (.reg [yS 0 23 .mov [oT 21],yS 1 24 (.ixS 1) [oT 19,oT 21],yS 2 25 (.ld none) [oT 24],yS 3 9 .mov [oT 23],yS 4 10 .mov [oT 25]]) (.reg [yS 0 26 .mov [oT 8],yS 1 27 .mov [oT 9],⟨none,(.ld (some 3)),[oT 1],some 28,2,true,[]⟩,yS 3 29 .mov [oT 8],yS 4 30 .mov [oT 9],yS 5 31 (.ixS 1) [oT 29,oT 30],⟨none,(.ld none),[oT 31],some 32,6,true,[]⟩,yS 7 33 (.ld (some 3)) [oT 1],yS 8 34 .mov [oT 7],yS 9 35 .mov [oT 10],⟨none,.call,[oF 131,oT 33,oT 34,oT 35],some 36,10,false,[6,2]⟩,yS 11 37 .call [oF 115,oT 28,oT 32,oT 36],yS 12 38 (.ixS 1) [oT 26,oT 27],yN 13 (.st 1) [oT 38,oT 37]]))) (.reg [yS 0 39 (.bin .add 0) [oT 21,oC (nv 1)],yS 1 21 .mov [oT 39]]))))))) (.seq (.reg [yS 0 40 .mov [oT 8],yS 1 6 .mov [oT 40]]) .ret)))))
theorem xd182_ok:compF Tryz.prog 182=some ⟨41,[(.tmp 6)],xd182.er⟩:=by kernel_rfl
end Go.Sim
