/- Part of the proof: SpG2, SpL9, SpL11, SpL7. -/
import Derived.Test.YtgcoidbhikfdkaaMShSToShF
import Derived.Test.YtgcoidbhikfdkaaMShMix
import Derived.KernelRfl
import Derived.Test.YtgcoidbhikfdkaaMSpW4ToSpY9
import Derived.Test.YtgcoidbhikfdkaaMSpUToSpW3
set_option linter.all false
set_option maxRecDepth 100000
namespace Go.Sim
open Go Go.Proofs
def xd7 : XD := (.seq (.reg [yS 0 3 (.box 58) [oT 0], yS 1 5 (.box 59) [oT 2], yS 2 6 .mov [oC (.bool false)]]) (.seq (.reg [yS 0 20 .call [oF 29], yS 1 7 .mov [oT 20]]) (.seq (.seq (.reg [yS 0 21 .mov [oT 7], yS 1 22 (.un .not) [oT 21]]) (.cond (oT 22) (.seq (.reg [yS 0 6 .mov [oC (.bool false)]]) .ret) .skip)) (.seq (.reg [yS 0 23 (.ld (some 4)) [oT 3], yS 1 24 .call [oF 30, oT 23], yS 2 8 (.new [(nv 0), (nv 0), (.slice none 0 0), (nv 0), (.slice none 0 0)] 63) [], yN 3 (.st 5) [oT 8, oT 24]]) (.seq (.reg [yS 0 25 (.fld 0) [oT 8], yS 1 26 (.ld (some 3)) [oT 25], yS 2 9 (.new [(nv 0), (nv 0), (.slice none 0 0)] 61) [], yN 3 (.st 3) [oT 9, oT 26]]) (.seq (.reg [yS 0 27 (.fld 3) [oT 8], yS 1 28 (.ld none) [oT 27], yS 2 10 .mov [oT 28]]) (.seq (.reg [yS 0 29 (.ld (some 3)) [oT 9], yS 1 30 .mov [oT 10], yS 2 31 (.ixA 5 1) [oT 5, oC (nv 0)], yS 3 32 (.ld none) [oT 31], yS 4 33 (.conv .i64) [oT 32], yS 5 34 (.bin .rem 0) [oT 33, oC (nv 7)], yS 6 35 .mov [oT 1], yS 7 36 .call [oF 31, oT 29, oT 30, oT 34, oT 35], yS 8 11 .mov [oT 36]]) (.seq (.reg [yS 0 37 (.ld (some 3)) [oT 9], yS 1 38 .mov [oT 10], yS 2 39 .mov [oT 1], yS 3 40 .call [oF 32, oT 37, oT 38, oT 39], yS 4 12 .mov [oT 40]]) (.seq (.reg [yS 0 41 (.ld (some 3)) [oT 9], yS 1 42 (.fld 4) [oT 8], yS 2 43 (.ld none) [oT 42], yS 3 44 .lenS [oT 43], yS 4 45 .mov [oT 1], yS 5 46 .call [oF 32, oT 41, oT 44, oT 45], yS 6 13 .mov [oT 46]]) (.seq (.seq (.reg [yS 0 47 (.ld (some 3)) [oT 9], yS 1 48 .mov [oT 10], yS 2 49 (.fld 4) [oT 8], yS 3 50 (.ld none) [oT 49], yS 4 51 .call [oF 33, oT 47, oT 48, oT 50], yS 5 52 (.un .not) [oT 51], yS 6 53 .mov [oT 52], yG (some (53, false)) 7 (some 54) (.ld (some 3)) [oT 9], yG (some (53, false)) 8 (some 55) (.fld 4) [oT 8], yG (some (53, false)) 9 (some 56) (.ld none) [oT 55], ⟨(some (53, false)), (.ld (some 3)), [oT 9], some 58, 11, true, []⟩, yG (some (53, false)) 12 (some 59) (.fld 4) [oT 8], ⟨(some (53, false)), (.ld none), [oT 59], some 60, 13, true, []⟩, ⟨(some (53, false)), .call, [oF 35, oT 54, oT 56], some 57, 10, false, [13, 11]⟩, yG (some (53, false)) 14 (some 61) .call [oF 36, oT 58, oT 60], yG (some (53, false)) 15 (some 62) .call [oF 34, oT 57, oT 61], yG (some (53, false)) 16 (some 63) (.un .not) [oT 62], yS 17 64 .pick [oT 53, oC (.bool true), oT 63], yS 18 65 .mov [oT 64], yG (some (65, false)) 19 (some 66) (.ld (some 3)) [oT 9], yG (some (65, false)) 20 (some 67) (.fld 4) [oT 8], yG (some (65, false)) 21 (some 68) (.ld none) [oT 67], ⟨(some (65, false)), (.ld (some 3)), [oT 9], some 70, 23, true, []⟩, yG (some (65, false)) 24 (some 71) (.fld 4) [oT 8], ⟨(some (65, false)), (.ld none), [oT 71], some 72, 25, true, []⟩, ⟨(some (65, false)), .call, [oF 37, oT 66, oT 68], some 69, 22, false, [25, 23]⟩, yG (some (65, false)) 26 (some 73) .call [oF 36, oT 70, oT 72], yG (some (65, false)) 27 (some 74) .lenS [oT 73], yG (some (65, false)) 28 (some 75) (.bin .neq 0) [oT 69, oT 74], yS 29 76 .pick [oT 65, oC (.bool true), oT 75], yS 30 77 .mov [oT 76], yG (some (77, false)) 31 (some 78) (.ld (some 3)) [oT 9], yG (some (77, false)) 32 (some 79) .mov [oT 10], yG (some (77, false)) 33 (some 80) (.fld 4) [oT 8], yG (some (77, false)) 34 (some 81) (.ld none) [oT 80], ⟨(some (77, false)), (.ld (some 3)), [oT 9], some 83, 36, true, []⟩, yG (some (77, false)) 37 (some 84) .mov [oT 10], yG (some (77, false)) 38 (some 85) (.fld 4) [oT 8], ⟨(some (77, false)), (.ld none), [oT 85], some 86, 39, true, []⟩, ⟨(some (77, false)), .call, [oF 38, oT 78, oT 79, oT 81], some 82, 35, false, [39, 36]⟩, yG (some (77, false)) 40 (some 87) .call [oF 39, oT 83, oT 84, oT 86], yG (some (77, false)) 41 (some 88) .call [oF 34, oT 82, oT 87], yG (some (77, false)) 42 (some 89) (.un .not) [oT 88], yS 43 90 .pick [oT 77, oC (.bool true), oT 89], yS 44 91 .mov [oT 90], yG (some (91, false)) 45 (some 92) (.ld (some 3)) [oT 9], yG (some (91, false)) 46 (some 93) (.fld 4) [oT 8], yG (some (91, false)) 47 (some 94) (.ld none) [oT 93], yG (some (91, false)) 48 (some 95) .mov [oT 12], ⟨(some (91, false)), (.ld (some 3)), [oT 9], some 97, 50, true, []⟩, yG (some (91, false)) 51 (some 98) (.fld 4) [oT 8], ⟨(some (91, false)), (.ld none), [oT 98], some 99, 52, true, []⟩, yG (some (91, false)) 53 (some 100) .mov [oT 12], ⟨(some (91, false)), .call, [oF 41, oT 92, oT 94, oT 95], some 96, 49, false, [52, 50]⟩, yG (some (91, false)) 54 (some 101) .call [oF 42, oT 97, oT 99, oT 100], yG (some (91, false)) 55 (some 102) .call [oF 40, oT 96, oT 101], yG (some (91, false)) 56 (some 103) (.un .not) [oT 102], yS 57 104 .pick [oT 91, oC (.bool true), oT 103]]) (.cond (oT 104) (.seq (.reg [yS 0 6 .mov [oC (.bool false)]]) .ret) .skip)) (.seq (.seq (.reg [yS 0 105 (.ld (some 5)) [oT 8], yS 1 106 .mov [oT 13], ⟨none, (.ld (some 5)), [oT 8], some 108, 3, true, []⟩, yS 4 109 .mov [oT 13], ⟨none, .call, [oF 44, oT 105, oT 106], some 107, 2, false, [3]⟩, yS 5 110 .call [oF 45, oT 108, oT 109], yS 6 111 .call [oF 43, oT 107, oT 110], yS 7 112 (.un .not) [oT 111], yS 8 113 .mov [oT 112], ⟨(some (113, false)), (.ld (some 5)), [oT 8], some 114, 9, true, []⟩, yG (some (113, false)) 10 (some 115) (.ld (some 3)) [oT 9], yG (some (113, false)) 11 (some 116) (.fld 4) [oT 8], yG (some (113, false)) 12 (some 117) (.ld none) [oT 116], yG (some (113, false)) 13 (some 118) .mov [oT 12], ⟨(some (113, false)), (.ld (some 5)), [oT 8], some 121, 16, true, []⟩, ⟨(some (113, false)), (.ld (some 3)), [oT 9], some 122, 17, true, []⟩, yG (some (113, false)) 18 (some 123) (.fld 4) [oT 8], ⟨(some (113, false)), (.ld none), [oT 123], some 124, 19, true, []⟩, yG (some (113, false)) 20 (some 125) .mov [oT 12], ⟨(some (113, false)), .call, [oF 42, oT 115, oT 117, oT 118], some 119, 14, false, [19, 17, 16, 9]⟩, ⟨(some (113, false)), .call, [oF 44, oT 114, oT 119], some 120, 15, false, [19, 17, 16]⟩, ⟨(some (113, false)), .call, [oF 42, oT 122, oT 124, oT 125], some 126, 21, false, [16]⟩, yG (some (113, false)) 22 (some 127) .call [oF 45, oT 121, oT 126], yG (some (113, false)) 23 (some 128) .call [oF 43, oT 120, oT 127], yG (some (113, false)) 24 (some 129) (.un .not) [oT 128], yS 25 130 .pick [oT 113, oC (.bool true), oT 129], yS 26 131 .mov [oT 130], yG (some (131, false)) 27 (some 132) (.ld (some 3)) [oT 9], yG (some (131, false)) 28 (some 133) (.fld 4) [oT 8], yG (some (131, false)) 29 (some 134) (.ld none) [oT 133], yG (some (131, false)) 30 (some 135) .mov [oT 12], ⟨(some (131, false)), (.ld (some 3)), [oT 9], some 137, 32, true, []⟩, yG (some (131, false)) 33 (some 138) (.fld 4) [oT 8], ⟨(some (131, false)), (.ld none), [oT 138], some 139, 34, true, []⟩, yG (some (131, false)) 35 (some 140) .mov [oT 12], ⟨(some (131, false)), .call, [oF 46, oT 132, oT 134, oT 135], some 136, 31, false, [34, 32]⟩, yG (some (131, false)) 36 (some 141) .call [oF 47, oT 137, oT 139, oT 140], yG (some (131, false)) 37 (some 142) (.bin .neq 1) [oT 136, oT 141], yS 38 143 .pick [oT 131, oC (.bool true), oT 142], yS 39 144 .mov [oT 143], yG (some (144, false)) 40 (some 145) (.ld (some 3)) [oT 9], yG (some (144, false)) 41 (some 146) (.fld 4) [oT 8], yG (some (144, false)) 42 (some 147) (.ld none) [oT 146], yG (some (144, false)) 43 (some 148) .mov [oT 11], ⟨(some (144, false)), (.ld (some 3)), [oT 9], some 150, 45, true, []⟩, yG (some (144, false)) 46 (some 151) (.fld 4) [oT 8], ⟨(some (144, false)), (.ld none), [oT 151], some 152, 47, true, []⟩, yG (some (144, false)) 48 (some 153) .mov [oT 11], ⟨(some (144, false)), .call, [oF 48, oT 145, oT 147, oT 148], some 149, 44, false, [47, 45]⟩, yG (some (144, false)) 49 (some 154) .call [oF 49, oT 150, oT 152, oT 153], yG (some (144, false)) 50 (some 155) .call [oF 34, oT 149, oT 154], yG (some (144, false)) 51 (some 156) (.un .not) [oT 155], yS 52 157 .pick [oT 144, oC (.bool true), oT 156], yS 53 158 .mov [oT 157], yG (some (158, false)) 54 (some 159) (.ld (some 3)) [oT 9], yG (some (158, false)) 55 (some 160) .mov [oT 10], yG (some (158, false)) 56 (some 161) (.fld 4) [oT 8], yG (some (158, false)) 57 (some 162) (.ld none) [oT 161], yG (some (158, false)) 58 (some 163) .mov [oT 11], ⟨(some (158, false)), (.ld (some 3)), [oT 9], some 165, 60, true, []⟩, yG (some (158, false)) 61 (some 166) .mov [oT 10], yG (some (158, false)) 62 (some 167) (.fld 4) [oT 8], ⟨(some (158, false)), (.ld none), [oT 167], some 168, 63, true, []⟩, yG (some (158, false)) 64 (some 169) .mov [oT 11], ⟨(some (158, false)), .call, [oF 50, oT 159, oT 160, oT 162, oT 163], some 164, 59, false, [63, 60]⟩, yG (some (158, false)) 65 (some 170) .call [oF 51, oT 165, oT 166, oT 168, oT 169], yG (some (158, false)) 66 (some 171) .call [oF 34, oT 164, oT 170], yG (some (158, false)) 67 (some 172) (.un .not) [oT 171], yS 68 173 .pick [oT 158, oC (.bool true), oT 172]]) (.cond (oT 173) (.seq (.reg [yS 0 6 .mov [oC (.bool false)]]) .ret) .skip)) (.seq (.reg [yS 0 174 (.ld (some 3)) [oT 9], yS 1 175 (.ixA 5 1) [oT 5, oC (nv 1)], yS 2 176 (.ld none) [oT 175], yS 3 177 (.conv .i64) [oT 176], yS 4 178 (.bin .rem 0) [oT 177, oC (nv 5)], yS 5 179 (.bin .add 0) [oC (nv 1), oT 178], yS 6 180 .mov [oT 1], yS 7 181 .call [oF 52, oT 174, oT 179, oT 180], yS 8 14 .mov [oT 181]]) (.seq (.reg [yS 0 182 (.ld (some 3)) [oT 9], yS 1 183 .mov [oT 14], yS 2 184 .call [oF 53, oT 182, oT 183], yS 3 15 (.new [(.slice none 0 0), (nv 0)] 83) [], yN 4 (.st 2) [oT 15, oT 184]]) (.seq (.reg [yS 0 185 (.ld (some 3)) [oT 9], yS 1 186 .mov [oT 14], yS 2 187 .call [oF 54, oT 185, oT 186], yS 3 16 (.new [(.slice none 0 0), (nv 0)] 83) [], yN 4 (.st 2) [oT 16, oT 187]]) (.seq (.seq (.reg [yS 0 188 (.fld 1) [oT 15], yS 1 189 (.ld none) [oT 188], yS 2 190 (.fld 1) [oT 16], yS 3 191 (.ld none) [oT 190], yS 4 192 (.bin .neq 0) [oT 189, oT 191], yS 5 193 .mov [oT 192], yG (some (193, false)) 6 (some 194) (.fld 0) [oT 15], yG (some (193, false)) 7 (some 195) (.ld none) [oT 194], yG (some (193, false)) 8 (some 196) (.fld 0) [oT 16], yG (some (193, false)) 9 (some 197) (.ld none) [oT 196], yG (some (193, false)) 10 (some 198) .call [oF 34, oT 195, oT 197], yG (some (193, false)) 11 (some 199) (.un .not) [oT 198], yS 12 200 .pick [oT 193, oC (.bool true), oT 199]]) (.cond (oT 200) (.seq (.reg [yS 0 6 .mov [oC (.bool false)]]) .ret) .skip)) (.seq (.reg [yS 0 201 (.bsl [] 0 [] 26) [], yS 1 202 (.fld 4) [oT 8], yS 2 203 (.ld none) [oT 202], yS 3 204 (.app 26 1 24) [oT 201, oT 203], yS 4 17 .mov [oT 204]]) (.seq (.reg [yS 0 205 (.bsl [] 0 [] 3) [], yS 1 206 .mov [oT 12], yS 2 207 (.app 3 1 8) [oT 205, oT 206], yS 3 18 .mov [oT 207]]) (.seq (.reg [yS 0 208 .mov [oT 18], yS 1 209 (.ixA 5 1) [oT 5, oC (nv 2)], yS 2 210 (.ld none) [oT 209], yS 3 211 (.conv .i64) [oT 210], yS 4 212 .mov [oT 10], yS 5 213 (.bin .rem 0) [oT 211, oT 212], yS 6 214 (.ixA 5 1) [oT 5, oC (nv 3)], yS 7 215 (.ld none) [oT 214], yS 8 216 (.conv .i64) [oT 215], yS 9 217 (.bin .sub 0) [oT 216, oC (nv 100)], yS 10 218 (.ixS 1) [oT 208, oT 213], yN 11 (.st 1) [oT 218, oT 217]]) (.seq (.reg [yS 0 219 .mov [oT 17], yS 1 220 .mov [oT 18], yS 2 221 (.bsl [(.slice none 0 0)] 1 [(0, 1)] 26) [oT 220], yS 3 222 (.app 26 1 24) [oT 219, oT 221], yS 4 17 .mov [oT 222]]) (.seq (.reg [yS 0 223 (.ld (some 3)) [oT 9], yS 1 19 (.new [(nv 0), (nv 0), (.slice none 0 0)] 61) [], yN 2 (.st 3) [oT 19, oT 223]]) (.seq (.reg [yS 0 224 (.ixA 5 1) [oT 5, oC (nv 4)], yS 1 225 (.ld none) [oT 224], yS 2 226 (.conv .i64) [oT 225], yS 3 227 (.bin .rem 0) [oT 226, oC (nv 4)], yS 4 228 (.fld 1) [oT 19], yN 5 (.st 1) [oT 228, oT 227]]) (.seq (.reg [yS 0 229 .mov [oT 7], yS 1 230 .mov [oT 229], yG (some (230, true)) 2 (some 231) (.ld (some 3)) [oT 9], yG (some (230, true)) 3 (some 232) .mov [oT 10], yG (some (230, true)) 4 (some 233) .mov [oT 17], ⟨(some (230, true)), (.ld (some 3)), [oT 9], some 235, 6, true, []⟩, yG (some (230, true)) 7 (some 236) .mov [oT 10], yG (some (230, true)) 8 (some 237) .mov [oT 17], ⟨(some (230, true)), .call, [oF 33, oT 231, oT 232, oT 233], some 234, 5, false, [6]⟩, yG (some (230, true)) 9 (some 238) .call [oF 55, oT 235, oT 236, oT 237], yG (some (230, true)) 10 (some 239) (.bin .eql 1) [oT 234, oT 238], yS 11 240 .pick [oT 230, oT 239, oC (.bool false)], yS 12 241 .mov [oT 240], yG (some (241, true)) 13 (some 242) (.ld (some 3)) [oT 9], yG (some (241, true)) 14 (some 243) (.ixA 5 1) [oT 5, oC (nv 4)], yG (some (241, true)) 15 (some 244) (.ld none) [oT 243], yG (some (241, true)) 16 (some 245) (.conv .i64) [oT 244], yG (some (241, true)) 17 (some 246) (.bin .rem 0) [oT 245, oC (nv 30)], yG (some (241, true)) 18 (some 247) (.fld 4) [oT 8], yG (some (241, true)) 19 (some 248) (.ld none) [oT 247], ⟨(some (241, true)), (.ld (some 3)), [oT 9], some 250, 21, true, []⟩, yG (some (241, true)) 22 (some 251) (.ixA 5 1) [oT 5, oC (nv 4)], ⟨(some (241, true)), (.ld none), [oT 251], some 252, 23, true, []⟩, yG (some (241, true)) 24 (some 253) (.conv .i64) [oT 252], yG (some (241, true)) 25 (some 254) (.bin .rem 0) [oT 253, oC (nv 30)], yG (some (241, true)) 26 (some 255) (.fld 4) [oT 8], ⟨(some (241, true)), (.ld none), [oT 255], some 256, 27, true, []⟩, ⟨(some (241, true)), .call, [oF 33, oT 242, oT 246, oT 248], some 249, 20, false, [27, 23, 21]⟩, yG (some (241, true)) 28 (some 257) .call [oF 55, oT 250, oT 254, oT 256], yG (some (241, true)) 29 (some 258) (.bin .eql 1) [oT 249, oT 257], yS 30 259 .pick [oT 241, oT 258, oC (.bool false)], yS 31 260 .mov [oT 259], yG (some (260, true)) 32 (some 261) (.ld (some 3)) [oT 19], yG (some (260, true)) 33 (some 262) .mov [oT 10], yG (some (260, true)) 34 (some 263) (.fld 4) [oT 8], yG (some (260, true)) 35 (some 264) (.ld none) [oT 263], ⟨(some (260, true)), (.ld (some 3)), [oT 19], some 266, 37, true, []⟩, yG (some (260, true)) 38 (some 267) .mov [oT 10], yG (some (260, true)) 39 (some 268) (.fld 4) [oT 8], ⟨(some (260, true)), (.ld none), [oT 268], some 269, 40, true, []⟩, ⟨(some (260, true)), .call, [oF 33, oT 261, oT 262, oT 264], some 265, 36, false, [40, 37]⟩, yG (some (260, true)) 41 (some 270) .call [oF 55, oT 266, oT 267, oT 269], yG (some (260, true)) 42 (some 271) (.bin .eql 1) [oT 265, oT 270], yS 43 272 .pick [oT 260, oT 271, oC (.bool false)], yS 44 6 .mov [oT 272]]) .ret))))))))))))))))))))))
theorem xd7_ok : compF Try.prog 7 = some ⟨273, [(.tmp 6)], xd7.er⟩ := by kernel_rfl
def g7 (x0 y1 z2 : Value) (H : AH) (R : Value → AH → Prop) : Prop :=
 @letH (H ++ [.cells (cellsL x0) 58 none false]) ⟨fun H1 =>
 @letH (H1 ++ [.cells (cellsL z2) 59 none false]) ⟨fun H2 =>
 @cG 29 [] H2 ⟨fun v20 H3 =>
 @bindO (eun .not v20) ⟨fun v22 =>
 @condK v22 ⟨fun q => if q = true then R (.bool false) H3 else
 @bindO (xload (some 4) H3 [(.pointer (some ⟨H.length, 0, none⟩))]) ⟨fun v23 =>
 @cG 30 [v23] H3 ⟨fun v24 H4 =>
 @letH (H4 ++ [.cells [(nv 0), (nv 0), (.slice none 0 0), (nv 0), (.slice none 0 0)] 63 none false]) ⟨fun H5 =>
 @bindP (xact (.st 5) H5 [(.pointer (some ⟨H4.length, 0, none⟩)), v24]) ⟨fun _v H6 =>
 @bindO (xpure (.fld 0) [(.pointer (some ⟨H4.length, 0, none⟩))]) ⟨fun v25 =>
 @bindO (xload (some 3) H6 [v25]) ⟨fun v26 =>
 @letH (H6 ++ [.cells [(nv 0), (nv 0), (.slice none 0 0)] 61 none false]) ⟨fun H7 =>
 @bindP (xact (.st 3) H7 [(.pointer (some ⟨H6.length, 0, none⟩)), v26]) ⟨fun _v H8 =>
 @bindO (xpure (.fld 3) [(.pointer (some ⟨H4.length, 0, none⟩))]) ⟨fun v27 =>
 @bindO (xload none H8 [v27]) ⟨fun v28 =>
 @bindO (xload (some 3) H8 [(.pointer (some ⟨H6.length, 0, none⟩))]) ⟨fun v29 =>
 @bindO (xpure (.ixA 5 1) [(.pointer (some ⟨H1.length, 0, none⟩)), (nv 0)]) ⟨fun v31 =>
 @bindO (xload none H8 [v31]) ⟨fun v32 =>
 @bindO (xpure (.conv .i64) [v32]) ⟨fun v33 =>
 @bindO (xbin .rem 0 v33 (nv 7)) ⟨fun v34 =>
 @cG 31 [v29, v28, v34, y1] H8 ⟨fun v36 H9 =>
 @bindO (xload (some 3) H9 [(.pointer (some ⟨H6.length, 0, none⟩))]) ⟨fun v37 =>
 @cG 32 [v37, v28, y1] H9 ⟨fun v40 H10 =>
 @bindO (xload (some 3) H10 [(.pointer (some ⟨H6.length, 0, none⟩))]) ⟨fun v41 =>
 @bindO (xpure (.fld 4) [(.pointer (some ⟨H4.length, 0, none⟩))]) ⟨fun v42 =>
 @bindO (xload none H10 [v42]) ⟨fun v43 =>
 @bindO (xpure .lenS [v43]) ⟨fun v44 =>
 @cG 32 [v41, v44, y1] H10 ⟨fun v46 H11 =>
 @bindO (xload (some 3) H11 [(.pointer (some ⟨H6.length, 0, none⟩))]) ⟨fun v47 =>
 @bindO (xpure (.fld 4) [(.pointer (some ⟨H4.length, 0, none⟩))]) ⟨fun v49 =>
 @bindO (xload none H11 [v49]) ⟨fun v50 =>
 @cG 33 [v47, v28, v50] H11 ⟨fun v51 H12 =>
 @bindO (eun .not v51) ⟨fun v52 =>
 @guardJ (asNB v52) (fun J1 => @bindO (xload (some 3) H12 [(.pointer (some ⟨H6.length, 0, none⟩))]) ⟨fun v54 =>
 J1 v54 H12⟩) H12 ⟨fun v54a H13 =>
 @guardJ (asNB v52) (fun J2 => @bindO (xpure (.fld 4) [(.pointer (some ⟨H4.length, 0, none⟩))]) ⟨fun v55 =>
 J2 v55 H13⟩) H13 ⟨fun v55a H14 =>
 @guardJ (asNB v52) (fun J3 => @bindO (xload none H14 [v55a]) ⟨fun v56 =>
 J3 v56 H14⟩) H14 ⟨fun v56a H15 =>
 @guardJ (asNB v52) (fun J4 => @bindO (xload (some 3) H15 [(.pointer (some ⟨H6.length, 0, none⟩))]) ⟨fun v58 =>
 J4 v58 H15⟩) H15 ⟨fun v58a H16 => @letD (bif (asNB v52) then ⟨11, (some 3), [(.pointer (some ⟨H6.length, 0, none⟩))], v58a⟩ :: [] else []) ⟨fun D1 =>
 @guardJ (asNB v52) (fun J5 => @bindO (xpure (.fld 4) [(.pointer (some ⟨H4.length, 0, none⟩))]) ⟨fun v59 =>
 J5 v59 H16⟩) H16 ⟨fun v59a H17 =>
 @guardJ (asNB v52) (fun J6 => @bindO (xload none H17 [v59a]) ⟨fun v60 =>
 J6 v60 H17⟩) H17 ⟨fun v60a H18 => @letD (bif (asNB v52) then ⟨13, none, [v59a], v60a⟩ :: D1 else D1) ⟨fun D2 =>
 @guardJ (asNB v52) (fun J7 => @cG 35 [v54a, v56a] H18 ⟨fun v57 H19 =>
 (chkX [13, 11] D2 H19 ∧ J7 v57 H19)⟩) H18 ⟨fun v57a H20 =>
 @guardJ (asNB v52) (fun J8 => @cG 36 [v58a, v60a] H20 ⟨fun v61 H21 =>
 J8 v61 H21⟩) H20 ⟨fun v61a H22 =>
 @guardJ (asNB v52) (fun J9 => @cG 34 [v57a, v61a] H22 ⟨fun v62 H23 =>
 J9 v62 H23⟩) H22 ⟨fun v62a H24 =>
 @guardJ (asNB v52) (fun J10 => @bindO (eun .not v62a) ⟨fun v63 =>
 J10 v63 H24⟩) H24 ⟨fun v63a H25 =>
 @pickK v52 (.bool true) v63a ⟨fun v64 =>
 @guardJ (asNB v64) (fun J11 => @bindO (xload (some 3) H25 [(.pointer (some ⟨H6.length, 0, none⟩))]) ⟨fun v66 =>
 J11 v66 H25⟩) H25 ⟨fun v66a H26 =>
 @guardJ (asNB v64) (fun J12 => @bindO (xpure (.fld 4) [(.pointer (some ⟨H4.length, 0, none⟩))]) ⟨fun v67 =>
 J12 v67 H26⟩) H26 ⟨fun v67a H27 =>
 @guardJ (asNB v64) (fun J13 => @bindO (xload none H27 [v67a]) ⟨fun v68 =>
 J13 v68 H27⟩) H27 ⟨fun v68a H28 =>
 @guardJ (asNB v64) (fun J14 => @bindO (xload (some 3) H28 [(.pointer (some ⟨H6.length, 0, none⟩))]) ⟨fun v70 =>
 J14 v70 H28⟩) H28 ⟨fun v70a H29 => @letD (bif (asNB v64) then ⟨23, (some 3), [(.pointer (some ⟨H6.length, 0, none⟩))], v70a⟩ :: D2 else D2) ⟨fun D3 =>
 @guardJ (asNB v64) (fun J15 => @bindO (xpure (.fld 4) [(.pointer (some ⟨H4.length, 0, none⟩))]) ⟨fun v71 =>
 J15 v71 H29⟩) H29 ⟨fun v71a H30 =>
 @guardJ (asNB v64) (fun J16 => @bindO (xload none H30 [v71a]) ⟨fun v72 =>
 J16 v72 H30⟩) H30 ⟨fun v72a H31 => @letD (bif (asNB v64) then ⟨25, none, [v71a], v72a⟩ :: D3 else D3) ⟨fun D4 =>
 @guardJ (asNB v64) (fun J17 => @cG 37 [v66a, v68a] H31 ⟨fun v69 H32 =>
 (chkX [25, 23] D4 H32 ∧ J17 v69 H32)⟩) H31 ⟨fun v69a H33 =>
 @guardJ (asNB v64) (fun J18 => @cG 36 [v70a, v72a] H33 ⟨fun v73 H34 =>
 J18 v73 H34⟩) H33 ⟨fun v73a H35 =>
 @guardJ (asNB v64) (fun J19 => @bindO (xpure .lenS [v73a]) ⟨fun v74 =>
 J19 v74 H35⟩) H35 ⟨fun v74a H36 =>
 @guardJ (asNB v64) (fun J20 => @bindO (xbin .neq 0 v69a v74a) ⟨fun v75 =>
 J20 v75 H36⟩) H36 ⟨fun v75a H37 =>
 @pickK v64 (.bool true) v75a ⟨fun v76 =>
 @guardJ (asNB v76) (fun J21 => @bindO (xload (some 3) H37 [(.pointer (some ⟨H6.length, 0, none⟩))]) ⟨fun v78 =>
 J21 v78 H37⟩) H37 ⟨fun v78a H38 =>
 @guardJ (asNB v76) (fun J22 => J22 v28 H38) H38 ⟨fun v79 H39 =>
 @guardJ (asNB v76) (fun J23 => @bindO (xpure (.fld 4) [(.pointer (some ⟨H4.length, 0, none⟩))]) ⟨fun v80 =>
 J23 v80 H39⟩) H39 ⟨fun v80a H40 =>
 @guardJ (asNB v76) (fun J24 => @bindO (xload none H40 [v80a]) ⟨fun v81 =>
 J24 v81 H40⟩) H40 ⟨fun v81a H41 =>
 @guardJ (asNB v76) (fun J25 => @bindO (xload (some 3) H41 [(.pointer (some ⟨H6.length, 0, none⟩))]) ⟨fun v83 =>
 J25 v83 H41⟩) H41 ⟨fun v83a H42 => @letD (bif (asNB v76) then ⟨36, (some 3), [(.pointer (some ⟨H6.length, 0, none⟩))], v83a⟩ :: D4 else D4) ⟨fun D5 =>
 @guardJ (asNB v76) (fun J26 => J26 v28 H42) H42 ⟨fun v84 H43 =>
 @guardJ (asNB v76) (fun J27 => @bindO (xpure (.fld 4) [(.pointer (some ⟨H4.length, 0, none⟩))]) ⟨fun v85 =>
 J27 v85 H43⟩) H43 ⟨fun v85a H44 =>
 @guardJ (asNB v76) (fun J28 => @bindO (xload none H44 [v85a]) ⟨fun v86 =>
 J28 v86 H44⟩) H44 ⟨fun v86a H45 => @letD (bif (asNB v76) then ⟨39, none, [v85a], v86a⟩ :: D5 else D5) ⟨fun D6 =>
 @guardJ (asNB v76) (fun J29 => @cG 38 [v78a, v79, v81a] H45 ⟨fun v82 H46 =>
 (chkX [39, 36] D6 H46 ∧ J29 v82 H46)⟩) H45 ⟨fun v82a H47 =>
 @guardJ (asNB v76) (fun J30 => @cG 39 [v83a, v84, v86a] H47 ⟨fun v87 H48 =>
 J30 v87 H48⟩) H47 ⟨fun v87a H49 =>
 @guardJ (asNB v76) (fun J31 => @cG 34 [v82a, v87a] H49 ⟨fun v88 H50 =>
 J31 v88 H50⟩) H49 ⟨fun v88a H51 =>
 @guardJ (asNB v76) (fun J32 => @bindO (eun .not v88a) ⟨fun v89 =>
 J32 v89 H51⟩) H51 ⟨fun v89a H52 =>
 @pickK v76 (.bool true) v89a ⟨fun v90 =>
 @guardJ (asNB v90) (fun J33 => @bindO (xload (some 3) H52 [(.pointer (some ⟨H6.length, 0, none⟩))]) ⟨fun v92 =>
 J33 v92 H52⟩) H52 ⟨fun v92a H53 =>
 @guardJ (asNB v90) (fun J34 => @bindO (xpure (.fld 4) [(.pointer (some ⟨H4.length, 0, none⟩))]) ⟨fun v93 =>
 J34 v93 H53⟩) H53 ⟨fun v93a H54 =>
 @guardJ (asNB v90) (fun J35 => @bindO (xload none H54 [v93a]) ⟨fun v94 =>
 J35 v94 H54⟩) H54 ⟨fun v94a H55 =>
 @guardJ (asNB v90) (fun J36 => J36 v40 H55) H55 ⟨fun v95 H56 =>
 @guardJ (asNB v90) (fun J37 => @bindO (xload (some 3) H56 [(.pointer (some ⟨H6.length, 0, none⟩))]) ⟨fun v97 =>
 J37 v97 H56⟩) H56 ⟨fun v97a H57 => @letD (bif (asNB v90) then ⟨50, (some 3), [(.pointer (some ⟨H6.length, 0, none⟩))], v97a⟩ :: D6 else D6) ⟨fun D7 =>
 @guardJ (asNB v90) (fun J38 => @bindO (xpure (.fld 4) [(.pointer (some ⟨H4.length, 0, none⟩))]) ⟨fun v98 =>
 J38 v98 H57⟩) H57 ⟨fun v98a H58 =>
 @guardJ (asNB v90) (fun J39 => @bindO (xload none H58 [v98a]) ⟨fun v99 =>
 J39 v99 H58⟩) H58 ⟨fun v99a H59 => @letD (bif (asNB v90) then ⟨52, none, [v98a], v99a⟩ :: D7 else D7) ⟨fun D8 =>
 @guardJ (asNB v90) (fun J40 => J40 v40 H59) H59 ⟨fun v100 H60 =>
 @guardJ (asNB v90) (fun J41 => @cG 41 [v92a, v94a, v95] H60 ⟨fun v96 H61 =>
 (chkX [52, 50] D8 H61 ∧ J41 v96 H61)⟩) H60 ⟨fun v96a H62 =>
 @guardJ (asNB v90) (fun J42 => @cG 42 [v97a, v99a, v100] H62 ⟨fun v101 H63 =>
 J42 v101 H63⟩) H62 ⟨fun v101a H64 =>
 @guardJ (asNB v90) (fun J43 => @cG 40 [v96a, v101a] H64 ⟨fun v102 H65 =>
 J43 v102 H65⟩) H64 ⟨fun v102a H66 =>
 @guardJ (asNB v90) (fun J44 => @bindO (eun .not v102a) ⟨fun v103 =>
 J44 v103 H66⟩) H66 ⟨fun v103a H67 =>
 @pickK v90 (.bool true) v103a ⟨fun v104 =>
 @condK v104 ⟨fun q => if q = true then R (.bool false) H67 else
 @bindO (xload (some 5) H67 [(.pointer (some ⟨H4.length, 0, none⟩))]) ⟨fun v105 =>
 @bindO (xload (some 5) H67 [(.pointer (some ⟨H4.length, 0, none⟩))]) ⟨fun v108 =>
 @cG 44 [v105, v46] H67 ⟨fun v107 H68 =>
 (chkX [3] (⟨3, (some 5), [(.pointer (some ⟨H4.length, 0, none⟩))], v108⟩ :: []) H68 ∧ @cG 45 [v108, v46] H68 ⟨fun v110 H69 =>
 @cG 43 [v107, v110] H69 ⟨fun v111 H70 =>
 @bindO (eun .not v111) ⟨fun v112 =>
 @guardJ (asNB v112) (fun J45 => @bindO (xload (some 5) H70 [(.pointer (some ⟨H4.length, 0, none⟩))]) ⟨fun v114 =>
 J45 v114 H70⟩) H70 ⟨fun v114a H71 => @letD (bif (asNB v112) then ⟨9, (some 5), [(.pointer (some ⟨H4.length, 0, none⟩))], v114a⟩ :: (⟨3, (some 5), [(.pointer (some ⟨H4.length, 0, none⟩))], v108⟩ :: []) else (⟨3, (some 5), [(.pointer (some ⟨H4.length, 0, none⟩))], v108⟩ :: [])) ⟨fun D9 =>
 @guardJ (asNB v112) (fun J46 => @bindO (xload (some 3) H71 [(.pointer (some ⟨H6.length, 0, none⟩))]) ⟨fun v115 =>
 J46 v115 H71⟩) H71 ⟨fun v115a H72 =>
 @guardJ (asNB v112) (fun J47 => @bindO (xpure (.fld 4) [(.pointer (some ⟨H4.length, 0, none⟩))]) ⟨fun v116 =>
 J47 v116 H72⟩) H72 ⟨fun v116a H73 =>
 @guardJ (asNB v112) (fun J48 => @bindO (xload none H73 [v116a]) ⟨fun v117 =>
 J48 v117 H73⟩) H73 ⟨fun v117a H74 =>
 @guardJ (asNB v112) (fun J49 => J49 v40 H74) H74 ⟨fun v118 H75 =>
 @guardJ (asNB v112) (fun J50 => @bindO (xload (some 5) H75 [(.pointer (some ⟨H4.length, 0, none⟩))]) ⟨fun v121 =>
 J50 v121 H75⟩) H75 ⟨fun v121a H76 => @letD (bif (asNB v112) then ⟨16, (some 5), [(.pointer (some ⟨H4.length, 0, none⟩))], v121a⟩ :: D9 else D9) ⟨fun D10 =>
 @guardJ (asNB v112) (fun J51 => @bindO (xload (some 3) H76 [(.pointer (some ⟨H6.length, 0, none⟩))]) ⟨fun v122 =>
 J51 v122 H76⟩) H76 ⟨fun v122a H77 => @letD (bif (asNB v112) then ⟨17, (some 3), [(.pointer (some ⟨H6.length, 0, none⟩))], v122a⟩ :: D10 else D10) ⟨fun D11 =>
 @guardJ (asNB v112) (fun J52 => @bindO (xpure (.fld 4) [(.pointer (some ⟨H4.length, 0, none⟩))]) ⟨fun v123 =>
 J52 v123 H77⟩) H77 ⟨fun v123a H78 =>
 @guardJ (asNB v112) (fun J53 => @bindO (xload none H78 [v123a]) ⟨fun v124 =>
 J53 v124 H78⟩) H78 ⟨fun v124a H79 => @letD (bif (asNB v112) then ⟨19, none, [v123a], v124a⟩ :: D11 else D11) ⟨fun D12 =>
 @guardJ (asNB v112) (fun J54 => J54 v40 H79) H79 ⟨fun v125 H80 =>
 @guardJ (asNB v112) (fun J55 => @cG 42 [v115a, v117a, v118] H80 ⟨fun v119 H81 =>
 (chkX [19, 17, 16, 9] D12 H81 ∧ J55 v119 H81)⟩) H80 ⟨fun v119a H82 =>
 @guardJ (asNB v112) (fun J56 => @cG 44 [v114a, v119a] H82 ⟨fun v120 H83 =>
 (chkX [19, 17, 16] D12 H83 ∧ J56 v120 H83)⟩) H82 ⟨fun v120a H84 =>
 @guardJ (asNB v112) (fun J57 => @cG 42 [v122a, v124a, v125] H84 ⟨fun v126 H85 =>
 (chkX [16] D12 H85 ∧ J57 v126 H85)⟩) H84 ⟨fun v126a H86 =>
 @guardJ (asNB v112) (fun J58 => @cG 45 [v121a, v126a] H86 ⟨fun v127 H87 =>
 J58 v127 H87⟩) H86 ⟨fun v127a H88 =>
 @guardJ (asNB v112) (fun J59 => @cG 43 [v120a, v127a] H88 ⟨fun v128 H89 =>
 J59 v128 H89⟩) H88 ⟨fun v128a H90 =>
 @guardJ (asNB v112) (fun J60 => @bindO (eun .not v128a) ⟨fun v129 =>
 J60 v129 H90⟩) H90 ⟨fun v129a H91 =>
 @pickK v112 (.bool true) v129a ⟨fun v130 =>
 @guardJ (asNB v130) (fun J61 => @bindO (xload (some 3) H91 [(.pointer (some ⟨H6.length, 0, none⟩))]) ⟨fun v132 =>
 J61 v132 H91⟩) H91 ⟨fun v132a H92 =>
 @guardJ (asNB v130) (fun J62 => @bindO (xpure (.fld 4) [(.pointer (some ⟨H4.length, 0, none⟩))]) ⟨fun v133 =>
 J62 v133 H92⟩) H92 ⟨fun v133a H93 =>
 @guardJ (asNB v130) (fun J63 => @bindO (xload none H93 [v133a]) ⟨fun v134 =>
 J63 v134 H93⟩) H93 ⟨fun v134a H94 =>
 @guardJ (asNB v130) (fun J64 => J64 v40 H94) H94 ⟨fun v135 H95 =>
 @guardJ (asNB v130) (fun J65 => @bindO (xload (some 3) H95 [(.pointer (some ⟨H6.length, 0, none⟩))]) ⟨fun v137 =>
 J65 v137 H95⟩) H95 ⟨fun v137a H96 => @letD (bif (asNB v130) then ⟨32, (some 3), [(.pointer (some ⟨H6.length, 0, none⟩))], v137a⟩ :: D12 else D12) ⟨fun D13 =>
 @guardJ (asNB v130) (fun J66 => @bindO (xpure (.fld 4) [(.pointer (some ⟨H4.length, 0, none⟩))]) ⟨fun v138 =>
 J66 v138 H96⟩) H96 ⟨fun v138a H97 =>
 @guardJ (asNB v130) (fun J67 => @bindO (xload none H97 [v138a]) ⟨fun v139 =>
 J67 v139 H97⟩) H97 ⟨fun v139a H98 => @letD (bif (asNB v130) then ⟨34, none, [v138a], v139a⟩ :: D13 else D13) ⟨fun D14 =>
 @guardJ (asNB v130) (fun J68 => J68 v40 H98) H98 ⟨fun v140 H99 =>
 @guardJ (asNB v130) (fun J69 => @cG 46 [v132a, v134a, v135] H99 ⟨fun v136 H100 =>
 (chkX [34, 32] D14 H100 ∧ J69 v136 H100)⟩) H99 ⟨fun v136a H101 =>
 @guardJ (asNB v130) (fun J70 => @cG 47 [v137a, v139a, v140] H101 ⟨fun v141 H102 =>
 J70 v141 H102⟩) H101 ⟨fun v141a H103 =>
 @guardJ (asNB v130) (fun J71 => @bindO (xbin .neq 1 v136a v141a) ⟨fun v142 =>
 J71 v142 H103⟩) H103 ⟨fun v142a H104 =>
 @pickK v130 (.bool true) v142a ⟨fun v143 =>
 @guardJ (asNB v143) (fun J72 => @bindO (xload (some 3) H104 [(.pointer (some ⟨H6.length, 0, none⟩))]) ⟨fun v145 =>
 J72 v145 H104⟩) H104 ⟨fun v145a H105 =>
 @guardJ (asNB v143) (fun J73 => @bindO (xpure (.fld 4) [(.pointer (some ⟨H4.length, 0, none⟩))]) ⟨fun v146 =>
 J73 v146 H105⟩) H105 ⟨fun v146a H106 =>
 @guardJ (asNB v143) (fun J74 => @bindO (xload none H106 [v146a]) ⟨fun v147 =>
 J74 v147 H106⟩) H106 ⟨fun v147a H107 =>
 @guardJ (asNB v143) (fun J75 => J75 v36 H107) H107 ⟨fun v148 H108 =>
 @guardJ (asNB v143) (fun J76 => @bindO (xload (some 3) H108 [(.pointer (some ⟨H6.length, 0, none⟩))]) ⟨fun v150 =>
 J76 v150 H108⟩) H108 ⟨fun v150a H109 => @letD (bif (asNB v143) then ⟨45, (some 3), [(.pointer (some ⟨H6.length, 0, none⟩))], v150a⟩ :: D14 else D14) ⟨fun D15 =>
 @guardJ (asNB v143) (fun J77 => @bindO (xpure (.fld 4) [(.pointer (some ⟨H4.length, 0, none⟩))]) ⟨fun v151 =>
 J77 v151 H109⟩) H109 ⟨fun v151a H110 =>
 @guardJ (asNB v143) (fun J78 => @bindO (xload none H110 [v151a]) ⟨fun v152 =>
 J78 v152 H110⟩) H110 ⟨fun v152a H111 => @letD (bif (asNB v143) then ⟨47, none, [v151a], v152a⟩ :: D15 else D15) ⟨fun D16 =>
 @guardJ (asNB v143) (fun J79 => J79 v36 H111) H111 ⟨fun v153 H112 =>
 @guardJ (asNB v143) (fun J80 => @cG 48 [v145a, v147a, v148] H112 ⟨fun v149 H113 =>
 (chkX [47, 45] D16 H113 ∧ J80 v149 H113)⟩) H112 ⟨fun v149a H114 =>
 @guardJ (asNB v143) (fun J81 => @cG 49 [v150a, v152a, v153] H114 ⟨fun v154 H115 =>
 J81 v154 H115⟩) H114 ⟨fun v154a H116 =>
 @guardJ (asNB v143) (fun J82 => @cG 34 [v149a, v154a] H116 ⟨fun v155 H117 =>
 J82 v155 H117⟩) H116 ⟨fun v155a H118 =>
 @guardJ (asNB v143) (fun J83 => @bindO (eun .not v155a) ⟨fun v156 =>
 J83 v156 H118⟩) H118 ⟨fun v156a H119 =>
 @pickK v143 (.bool true) v156a ⟨fun v157 =>
 @guardJ (asNB v157) (fun J84 => @bindO (xload (some 3) H119 [(.pointer (some ⟨H6.length, 0, none⟩))]) ⟨fun v159 =>
 J84 v159 H119⟩) H119 ⟨fun v159a H120 =>
 @guardJ (asNB v157) (fun J85 => J85 v28 H120) H120 ⟨fun v160 H121 =>
 @guardJ (asNB v157) (fun J86 => @bindO (xpure (.fld 4) [(.pointer (some ⟨H4.length, 0, none⟩))]) ⟨fun v161 =>
 J86 v161 H121⟩) H121 ⟨fun v161a H122 =>
 @guardJ (asNB v157) (fun J87 => @bindO (xload none H122 [v161a]) ⟨fun v162 =>
 J87 v162 H122⟩) H122 ⟨fun v162a H123 =>
 @guardJ (asNB v157) (fun J88 => J88 v36 H123) H123 ⟨fun v163 H124 =>
 @guardJ (asNB v157) (fun J89 => @bindO (xload (some 3) H124 [(.pointer (some ⟨H6.length, 0, none⟩))]) ⟨fun v165 =>
 J89 v165 H124⟩) H124 ⟨fun v165a H125 => @letD (bif (asNB v157) then ⟨60, (some 3), [(.pointer (some ⟨H6.length, 0, none⟩))], v165a⟩ :: D16 else D16) ⟨fun D17 =>
 @guardJ (asNB v157) (fun J90 => J90 v28 H125) H125 ⟨fun v166 H126 =>
 @guardJ (asNB v157) (fun J91 => @bindO (xpure (.fld 4) [(.pointer (some ⟨H4.length, 0, none⟩))]) ⟨fun v167 =>
 J91 v167 H126⟩) H126 ⟨fun v167a H127 =>
 @guardJ (asNB v157) (fun J92 => @bindO (xload none H127 [v167a]) ⟨fun v168 =>
 J92 v168 H127⟩) H127 ⟨fun v168a H128 => @letD (bif (asNB v157) then ⟨63, none, [v167a], v168a⟩ :: D17 else D17) ⟨fun D18 =>
 @guardJ (asNB v157) (fun J93 => J93 v36 H128) H128 ⟨fun v169 H129 =>
 @guardJ (asNB v157) (fun J94 => @cG 50 [v159a, v160, v162a, v163] H129 ⟨fun v164 H130 =>
 (chkX [63, 60] D18 H130 ∧ J94 v164 H130)⟩) H129 ⟨fun v164a H131 =>
 @guardJ (asNB v157) (fun J95 => @cG 51 [v165a, v166, v168a, v169] H131 ⟨fun v170 H132 =>
 J95 v170 H132⟩) H131 ⟨fun v170a H133 =>
 @guardJ (asNB v157) (fun J96 => @cG 34 [v164a, v170a] H133 ⟨fun v171 H134 =>
 J96 v171 H134⟩) H133 ⟨fun v171a H135 =>
 @guardJ (asNB v157) (fun J97 => @bindO (eun .not v171a) ⟨fun v172 =>
 J97 v172 H135⟩) H135 ⟨fun v172a H136 =>
 @pickK v157 (.bool true) v172a ⟨fun v173 =>
 @condK v173 ⟨fun q => if q = true then R (.bool false) H136 else
 @bindO (xload (some 3) H136 [(.pointer (some ⟨H6.length, 0, none⟩))]) ⟨fun v174 =>
 @bindO (xpure (.ixA 5 1) [(.pointer (some ⟨H1.length, 0, none⟩)), (nv 1)]) ⟨fun v175 =>
 @bindO (xload none H136 [v175]) ⟨fun v176 =>
 @bindO (xpure (.conv .i64) [v176]) ⟨fun v177 =>
 @bindO (xbin .rem 0 v177 (nv 5)) ⟨fun v178 =>
 @bindO (xbin .add 0 (nv 1) v178) ⟨fun v179 =>
 @cG 52 [v174, v179, y1] H136 ⟨fun v181 H137 =>
 @bindO (xload (some 3) H137 [(.pointer (some ⟨H6.length, 0, none⟩))]) ⟨fun v182 =>
 @cG 53 [v182, v181] H137 ⟨fun v184 H138 =>
 @letH (H138 ++ [.cells [(.slice none 0 0), (nv 0)] 83 none false]) ⟨fun H139 =>
 @bindP (xact (.st 2) H139 [(.pointer (some ⟨H138.length, 0, none⟩)), v184]) ⟨fun _v H140 =>
 @bindO (xload (some 3) H140 [(.pointer (some ⟨H6.length, 0, none⟩))]) ⟨fun v185 =>
 @cG 54 [v185, v181] H140 ⟨fun v187 H141 =>
 @letH (H141 ++ [.cells [(.slice none 0 0), (nv 0)] 83 none false]) ⟨fun H142 =>
 @bindP (xact (.st 2) H142 [(.pointer (some ⟨H141.length, 0, none⟩)), v187]) ⟨fun _v H143 =>
 @bindO (xpure (.fld 1) [(.pointer (some ⟨H138.length, 0, none⟩))]) ⟨fun v188 =>
 @bindO (xload none H143 [v188]) ⟨fun v189 =>
 @bindO (xpure (.fld 1) [(.pointer (some ⟨H141.length, 0, none⟩))]) ⟨fun v190 =>
 @bindO (xload none H143 [v190]) ⟨fun v191 =>
 @bindO (xbin .neq 0 v189 v191) ⟨fun v192 =>
 @guardJ (asNB v192) (fun J98 => @bindO (xpure (.fld 0) [(.pointer (some ⟨H138.length, 0, none⟩))]) ⟨fun v194 =>
 J98 v194 H143⟩) H143 ⟨fun v194a H144 =>
 @guardJ (asNB v192) (fun J99 => @bindO (xload none H144 [v194a]) ⟨fun v195 =>
 J99 v195 H144⟩) H144 ⟨fun v195a H145 =>
 @guardJ (asNB v192) (fun J100 => @bindO (xpure (.fld 0) [(.pointer (some ⟨H141.length, 0, none⟩))]) ⟨fun v196 =>
 J100 v196 H145⟩) H145 ⟨fun v196a H146 =>
 @guardJ (asNB v192) (fun J101 => @bindO (xload none H146 [v196a]) ⟨fun v197 =>
 J101 v197 H146⟩) H146 ⟨fun v197a H147 =>
 @guardJ (asNB v192) (fun J102 => @cG 34 [v195a, v197a] H147 ⟨fun v198 H148 =>
 J102 v198 H148⟩) H147 ⟨fun v198a H149 =>
 @guardJ (asNB v192) (fun J103 => @bindO (eun .not v198a) ⟨fun v199 =>
 J103 v199 H149⟩) H149 ⟨fun v199a H150 =>
 @pickK v192 (.bool true) v199a ⟨fun v200 =>
 @condK v200 ⟨fun q => if q = true then R (.bool false) H150 else
 @bindL (xfill [] [] []) ⟨fun cv201 => @letH (H150 ++ [.cells cv201 26 none false]) ⟨fun H151 =>
 @bindO (xpure (.fld 4) [(.pointer (some ⟨H4.length, 0, none⟩))]) ⟨fun v202 =>
 @bindO (xload none H151 [v202]) ⟨fun v203 =>
 @bindP (xact (.app 26 1 24) H151 [(.slice (some ⟨H150.length, 0, none⟩) 0 0), v203]) ⟨fun v204 H152 =>
 @bindL (xfill [] [] []) ⟨fun cv205 => @letH (H152 ++ [.cells cv205 3 none false]) ⟨fun H153 =>
 @bindP (xact (.app 3 1 8) H153 [(.slice (some ⟨H152.length, 0, none⟩) 0 0), v40]) ⟨fun v207 H154 =>
 @bindO (xpure (.ixA 5 1) [(.pointer (some ⟨H1.length, 0, none⟩)), (nv 2)]) ⟨fun v209 =>
 @bindO (xload none H154 [v209]) ⟨fun v210 =>
 @bindO (xpure (.conv .i64) [v210]) ⟨fun v211 =>
 @bindO (xbin .rem 0 v211 v28) ⟨fun v213 =>
 @bindO (xpure (.ixA 5 1) [(.pointer (some ⟨H1.length, 0, none⟩)), (nv 3)]) ⟨fun v214 =>
 @bindO (xload none H154 [v214]) ⟨fun v215 =>
 @bindO (xpure (.conv .i64) [v215]) ⟨fun v216 =>
 @bindO (xbin .sub 0 v216 (nv 100)) ⟨fun v217 =>
 @bindO (xpure (.ixS 1) [v207, v213]) ⟨fun v218 =>
 @bindP (xact (.st 1) H154 [v218, v217]) ⟨fun _v H155 =>
 @bindL (xfill [(.slice none 0 0)] [(0, 1)] [v207]) ⟨fun cv221 => @letH (H155 ++ [.cells cv221 26 none false]) ⟨fun H156 =>
 @bindP (xact (.app 26 1 24) H156 [v204, (.slice (some ⟨H155.length, 0, none⟩) 1 1)]) ⟨fun v222 H157 =>
 @bindO (xload (some 3) H157 [(.pointer (some ⟨H6.length, 0, none⟩))]) ⟨fun v223 =>
 @letH (H157 ++ [.cells [(nv 0), (nv 0), (.slice none 0 0)] 61 none false]) ⟨fun H158 =>
 @bindP (xact (.st 3) H158 [(.pointer (some ⟨H157.length, 0, none⟩)), v223]) ⟨fun _v H159 =>
 @bindO (xpure (.ixA 5 1) [(.pointer (some ⟨H1.length, 0, none⟩)), (nv 4)]) ⟨fun v224 =>
 @bindO (xload none H159 [v224]) ⟨fun v225 =>
 @bindO (xpure (.conv .i64) [v225]) ⟨fun v226 =>
 @bindO (xbin .rem 0 v226 (nv 4)) ⟨fun v227 =>
 @bindO (xpure (.fld 1) [(.pointer (some ⟨H157.length, 0, none⟩))]) ⟨fun v228 =>
 @bindP (xact (.st 1) H159 [v228, v227]) ⟨fun _v H160 =>
 @guardJ (asB v20) (fun J104 => @bindO (xload (some 3) H160 [(.pointer (some ⟨H6.length, 0, none⟩))]) ⟨fun v231 =>
 J104 v231 H160⟩) H160 ⟨fun v231a H161 =>
 @guardJ (asB v20) (fun J105 => J105 v28 H161) H161 ⟨fun v232 H162 =>
 @guardJ (asB v20) (fun J106 => J106 v222 H162) H162 ⟨fun v233 H163 =>
 @guardJ (asB v20) (fun J107 => @bindO (xload (some 3) H163 [(.pointer (some ⟨H6.length, 0, none⟩))]) ⟨fun v235 =>
 J107 v235 H163⟩) H163 ⟨fun v235a H164 => @letD (bif (asB v20) then ⟨6, (some 3), [(.pointer (some ⟨H6.length, 0, none⟩))], v235a⟩ :: [] else []) ⟨fun D19 =>
 @guardJ (asB v20) (fun J108 => J108 v28 H164) H164 ⟨fun v236 H165 =>
 @guardJ (asB v20) (fun J109 => J109 v222 H165) H165 ⟨fun v237 H166 =>
 @guardJ (asB v20) (fun J110 => @cG 33 [v231a, v232, v233] H166 ⟨fun v234 H167 =>
 (chkX [6] D19 H167 ∧ J110 v234 H167)⟩) H166 ⟨fun v234a H168 =>
 @guardJ (asB v20) (fun J111 => @cG 55 [v235a, v236, v237] H168 ⟨fun v238 H169 =>
 J111 v238 H169⟩) H168 ⟨fun v238a H170 =>
 @guardJ (asB v20) (fun J112 => @bindO (xbin .eql 1 v234a v238a) ⟨fun v239 =>
 J112 v239 H170⟩) H170 ⟨fun v239a H171 =>
 @pickK v20 v239a (.bool false) ⟨fun v240 =>
 @guardJ (asB v240) (fun J113 => @bindO (xload (some 3) H171 [(.pointer (some ⟨H6.length, 0, none⟩))]) ⟨fun v242 =>
 J113 v242 H171⟩) H171 ⟨fun v242a H172 =>
 @guardJ (asB v240) (fun J114 => @bindO (xpure (.ixA 5 1) [(.pointer (some ⟨H1.length, 0, none⟩)), (nv 4)]) ⟨fun v243 =>
 J114 v243 H172⟩) H172 ⟨fun v243a H173 =>
 @guardJ (asB v240) (fun J115 => @bindO (xload none H173 [v243a]) ⟨fun v244 =>
 J115 v244 H173⟩) H173 ⟨fun v244a H174 =>
 @guardJ (asB v240) (fun J116 => @bindO (xpure (.conv .i64) [v244a]) ⟨fun v245 =>
 J116 v245 H174⟩) H174 ⟨fun v245a H175 =>
 @guardJ (asB v240) (fun J117 => @bindO (xbin .rem 0 v245a (nv 30)) ⟨fun v246 =>
 J117 v246 H175⟩) H175 ⟨fun v246a H176 =>
 @guardJ (asB v240) (fun J118 => @bindO (xpure (.fld 4) [(.pointer (some ⟨H4.length, 0, none⟩))]) ⟨fun v247 =>
 J118 v247 H176⟩) H176 ⟨fun v247a H177 =>
 @guardJ (asB v240) (fun J119 => @bindO (xload none H177 [v247a]) ⟨fun v248 =>
 J119 v248 H177⟩) H177 ⟨fun v248a H178 =>
 @guardJ (asB v240) (fun J120 => @bindO (xload (some 3) H178 [(.pointer (some ⟨H6.length, 0, none⟩))]) ⟨fun v250 =>
 J120 v250 H178⟩) H178 ⟨fun v250a H179 => @letD (bif (asB v240) then ⟨21, (some 3), [(.pointer (some ⟨H6.length, 0, none⟩))], v250a⟩ :: D19 else D19) ⟨fun D20 =>
 @guardJ (asB v240) (fun J121 => @bindO (xpure (.ixA 5 1) [(.pointer (some ⟨H1.length, 0, none⟩)), (nv 4)]) ⟨fun v251 =>
 J121 v251 H179⟩) H179 ⟨fun v251a H180 =>
 @guardJ (asB v240) (fun J122 => @bindO (xload none H180 [v251a]) ⟨fun v252 =>
 J122 v252 H180⟩) H180 ⟨fun v252a H181 => @letD (bif (asB v240) then ⟨23, none, [v251a], v252a⟩ :: D20 else D20) ⟨fun D21 =>
 @guardJ (asB v240) (fun J123 => @bindO (xpure (.conv .i64) [v252a]) ⟨fun v253 =>
 J123 v253 H181⟩) H181 ⟨fun v253a H182 =>
 @guardJ (asB v240) (fun J124 => @bindO (xbin .rem 0 v253a (nv 30)) ⟨fun v254 =>
 J124 v254 H182⟩) H182 ⟨fun v254a H183 =>
 @guardJ (asB v240) (fun J125 => @bindO (xpure (.fld 4) [(.pointer (some ⟨H4.length, 0, none⟩))]) ⟨fun v255 =>
 J125 v255 H183⟩) H183 ⟨fun v255a H184 =>
 @guardJ (asB v240) (fun J126 => @bindO (xload none H184 [v255a]) ⟨fun v256 =>
 J126 v256 H184⟩) H184 ⟨fun v256a H185 => @letD (bif (asB v240) then ⟨27, none, [v255a], v256a⟩ :: D21 else D21) ⟨fun D22 =>
 @guardJ (asB v240) (fun J127 => @cG 33 [v242a, v246a, v248a] H185 ⟨fun v249 H186 =>
 (chkX [27, 23, 21] D22 H186 ∧ J127 v249 H186)⟩) H185 ⟨fun v249a H187 =>
 @guardJ (asB v240) (fun J128 => @cG 55 [v250a, v254a, v256a] H187 ⟨fun v257 H188 =>
 J128 v257 H188⟩) H187 ⟨fun v257a H189 =>
 @guardJ (asB v240) (fun J129 => @bindO (xbin .eql 1 v249a v257a) ⟨fun v258 =>
 J129 v258 H189⟩) H189 ⟨fun v258a H190 =>
 @pickK v240 v258a (.bool false) ⟨fun v259 =>
 @guardJ (asB v259) (fun J130 => @bindO (xload (some 3) H190 [(.pointer (some ⟨H157.length, 0, none⟩))]) ⟨fun v261 =>
 J130 v261 H190⟩) H190 ⟨fun v261a H191 =>
 @guardJ (asB v259) (fun J131 => J131 v28 H191) H191 ⟨fun v262 H192 =>
 @guardJ (asB v259) (fun J132 => @bindO (xpure (.fld 4) [(.pointer (some ⟨H4.length, 0, none⟩))]) ⟨fun v263 =>
 J132 v263 H192⟩) H192 ⟨fun v263a H193 =>
 @guardJ (asB v259) (fun J133 => @bindO (xload none H193 [v263a]) ⟨fun v264 =>
 J133 v264 H193⟩) H193 ⟨fun v264a H194 =>
 @guardJ (asB v259) (fun J134 => @bindO (xload (some 3) H194 [(.pointer (some ⟨H157.length, 0, none⟩))]) ⟨fun v266 =>
 J134 v266 H194⟩) H194 ⟨fun v266a H195 => @letD (bif (asB v259) then ⟨37, (some 3), [(.pointer (some ⟨H157.length, 0, none⟩))], v266a⟩ :: D22 else D22) ⟨fun D23 =>
 @guardJ (asB v259) (fun J135 => J135 v28 H195) H195 ⟨fun v267 H196 =>
 @guardJ (asB v259) (fun J136 => @bindO (xpure (.fld 4) [(.pointer (some ⟨H4.length, 0, none⟩))]) ⟨fun v268 =>
 J136 v268 H196⟩) H196 ⟨fun v268a H197 =>
 @guardJ (asB v259) (fun J137 => @bindO (xload none H197 [v268a]) ⟨fun v269 =>
 J137 v269 H197⟩) H197 ⟨fun v269a H198 => @letD (bif (asB v259) then ⟨40, none, [v268a], v269a⟩ :: D23 else D23) ⟨fun D24 =>
 @guardJ (asB v259) (fun J138 => @cG 33 [v261a, v262, v264a] H198 ⟨fun v265 H199 =>
 (chkX [40, 37] D24 H199 ∧ J138 v265 H199)⟩) H198 ⟨fun v265a H200 =>
 @guardJ (asB v259) (fun J139 => @cG 55 [v266a, v267, v269a] H200 ⟨fun v270 H201 =>
 J139 v270 H201⟩) H200 ⟨fun v270a H202 =>
 @guardJ (asB v259) (fun J140 => @bindO (xbin .eql 1 v265a v270a) ⟨fun v271 =>
 J140 v271 H202⟩) H202 ⟨fun v271a H203 =>
 @pickK v259 v271a (.bool false) ⟨fun v272 =>
 R v272 H203⟩⟩⟩⟩⟩⟩⟩⟩⟩⟩⟩⟩⟩⟩⟩⟩⟩⟩⟩⟩⟩⟩⟩⟩⟩⟩⟩⟩⟩⟩⟩⟩⟩⟩⟩⟩⟩⟩⟩⟩⟩⟩⟩⟩⟩⟩⟩⟩⟩⟩⟩⟩⟩⟩⟩⟩⟩⟩⟩⟩⟩⟩⟩⟩⟩⟩⟩⟩⟩⟩⟩⟩⟩⟩⟩⟩⟩⟩⟩⟩⟩⟩⟩⟩⟩⟩⟩⟩⟩⟩⟩⟩⟩⟩⟩⟩⟩⟩⟩⟩⟩⟩⟩⟩⟩⟩⟩⟩⟩⟩⟩⟩⟩⟩⟩⟩⟩⟩⟩⟩⟩⟩⟩⟩⟩⟩⟩⟩⟩⟩⟩⟩⟩⟩⟩⟩⟩⟩⟩⟩⟩⟩⟩⟩⟩⟩⟩⟩⟩⟩⟩⟩⟩⟩⟩⟩⟩⟩⟩⟩⟩⟩⟩⟩⟩⟩⟩⟩⟩⟩⟩⟩⟩⟩⟩)⟩⟩⟩⟩⟩⟩⟩⟩⟩⟩⟩⟩⟩⟩⟩⟩⟩⟩⟩⟩⟩⟩⟩⟩⟩⟩⟩⟩⟩⟩⟩⟩⟩⟩⟩⟩⟩⟩⟩⟩⟩⟩⟩⟩⟩⟩⟩⟩⟩⟩⟩⟩⟩⟩⟩⟩⟩⟩⟩⟩⟩⟩⟩⟩⟩⟩⟩⟩⟩⟩⟩⟩⟩⟩⟩⟩⟩⟩⟩⟩⟩⟩⟩⟩⟩⟩⟩⟩⟩⟩⟩⟩⟩
theorem g7_of {x0 y1 z2 : Value} {H : AH} {R : Value → AH → Prop} (h : g7 x0 y1 z2 H R) : FN Try.prog 7 [x0, y1, z2] H R :=
  FN.of_XD mixed xd7_ok (by kernel_rfl) (Nat.le_of_ble_eq_true rfl) (cast (by kernel_rfl) h)
end Go.Sim

namespace Go.Sim
open Go Go.Proofs
section
variable {α : Type} [Fl α] [DecidableEq α] {cd : α → Nat} {p e b c q : Nat} {blk : AB} {H : AH}
theorem evs_nv (xs : List α) : evs cd xs = (xs.map cd).map nv := by simp [evs, Function.comp_def]
theorem evr_nv (xss : List (List α)) : evr cd xss = (xss.map fun l => l.map cd).map fun l => l.map nv := by simp [evs, Function.comp_def]
theorem map_inj' (F : FOK α cd p e b c q blk) : ∀ {xs ys : List α}, xs.map cd = ys.map cd → xs = ys
  | [], [], _ => rfl
  | [], _ :: _, h => by simp at h
  | _ :: _, [], h => by simp at h
  | x :: xs, y :: ys, h => by
    simp only [List.map_cons, List.cons.injEq] at h
    rw [F.inj _ _ h.1, map_inj' F h.2]
theorem same_e (F : FOK α cd p e b c q blk) {v w : Value} {xs ys : List α} (hv : Row H v (evs cd xs)) (hw : Row H w (evs cd ys)) (hx : xs.length ≤ 1000) : FN Try.prog 40 [v, w] H (fun r H' => r = .bool (decide (xs = ys)) ∧ H' = H) := by
  rw [evs_nv] at hv hw
  refine (same_c hv hw (by rw [List.length_map]; omega)).mono ?_
  rintro r H' ⟨rfl, rfl⟩
  refine ⟨?_, rfl⟩
  congr 1
  rw [decide_eq_decide]
  exact ⟨map_inj' F, fun h => by rw [h]⟩
theorem alike_e {v w : Value} {A B : List (List α)} (hv : RowR H v (evr cd A)) (hw : RowR H w (evr cd B)) (hA : A.length ≤ 1000) (hA2 : ∀ x ∈ A, x.length ≤ 1000) (he : A = B) : FN Try.prog 34 [v, w] H (fun r H' => r = .bool true ∧ H' = H) := by
  subst he
  rw [evr_nv] at hv hw
  refine (alike_c hv hw (by rw [List.length_map]; omega) (fun l hl => by obtain ⟨x, hx, rfl⟩ := List.mem_map.1 hl; rw [List.length_map]; have := hA2 x hx; omega)).mono ?_
  rintro r H' ⟨rfl, rfl⟩
  exact ⟨by simp, rfl⟩
end
section
variable {α : Type} [Fl α] [DecidableEq α]
end
abbrev rawv (k n m : Nat) (x : Value) : Value := .agg [.int .u8 (k : Int), .int .u8 (n : Int), .int .u8 (m : Int), x].toArray
end Go.Sim

namespace Go.Sim
open Go Go.Proofs
section
variable {α : Type} [Fl α] [DecidableEq α] {cd : α → Nat} {p e b c q : Nat} {blk : AB} {H : AH}
theorem ljoin_len {n : Nat} {A B : List (List α)} (hA : ∀ x ∈ A, x.length = n) (hB : ∀ x ∈ B, x.length = n) : (∀ x ∈ ljoin A B, x.length = n) ∧ (ljoin A B).length ≤ A.length + B.length := by
  obtain ⟨h1, _, h3⟩ := lreduce_red (app_len hA hB)
  exact ⟨h1.piv.1, by rw [List.length_append] at h3; exact h3⟩
theorem lmeet_len {n : Nat} {A B : List (List α)} (hA : ∀ x ∈ A, x.length = n) (hB : ∀ x ∈ B, x.length = n) : (∀ x ∈ lmeet n A B, x.length = n) ∧ (lmeet n A B).length ≤ n :=
  ⟨(lmeet_red hA hB).1.piv.1, lkernel_length n _⟩
end
end Go.Sim

namespace Go.Sim
open Go Go.Proofs
section
variable {α : Type} [Fl α] [DecidableEq α] {cd : α → Nat} {p e b c q : Nat} {blk : AB} {H : AH}
theorem meet_r (F : FOK α cd p e b c q blk) {v w : Value} {n : Nat} {A B : List (List α)} (hb : H[b]? = some blk) (hv : RowR H v (evr cd A)) (hw : RowR H w (evr cd B)) (hA : ∀ x ∈ A, x.length = n) (hB : ∀ x ∈ B, x.length = n) (hlA : A.length ≤ 100) (hlB : B.length ≤ 100) (hn : n ≤ 100) (hn0 : 0 < n) :
    FN Try.prog 51 [fldv p e b e c, nv n, v, w] H (fun r H' => Pre H H' ∧ RowR H' r (evr cd (lmeet n A B))) := by
  refine g51_of ?_
  unfold g51
  have hp1 := Pre.new H [fbx p e b c]
  have hf1 : (H ++ [fbx p e b c])[H.length]? = some (fbx p e b c) := by simp
  obtain ⟨a1, _⟩ := lkernel_red hA
  obtain ⟨b1, _⟩ := lkernel_red hB
  have al := lkernel_length n A
  have bl := lkernel_length n B
  simp (disch := omega) only [zA, zB, zC, zD, zF, zG, zH, ↓reduceIte]
  refine FZ.mono (kernel_r F (hp1.get hb) (hv.pre hp1) hA (by omega) (by omega) hn0) ?_
  rintro v15 H2 ⟨hp2, hk2⟩
  have hf2 := hp2.get hf1
  have hp02 := hp1.trans hp2
  simp (disch := omega) only [zA, zB, zC, zD, zF, zG, zH, ↓reduceIte, hf2]
  refine FZ.mono (kernel_r F (hp02.get hb) (hw.pre hp02) hB (by omega) (by omega) hn0) ?_
  rintro v19 H3 ⟨hp3, hk3⟩
  have hf3 := hp3.get hf2
  have hp03 := hp02.trans hp3
  simp (disch := omega) only [zA, zB, zC, zD, zF, zG, zH, Nat.reduceEqDiff, Nat.reduceLT, Nat.reduceLeDiff, ↓reduceIte, hf3]
  refine FZ.mono (join_r F (hp03.get hb) (hk2.pre hp3) hk3 a1.piv.1 b1.piv.1 (by omega) (by omega) (by omega)) ?_
  rintro v20 H4 ⟨hp4, hj⟩
  have hf4 := hp4.get hf3
  have hp04 := hp03.trans hp4
  change RowR H4 v20 (evr cd (ljoin (lkernel n A) (lkernel n B))) at hj
  obtain ⟨jw, jl⟩ := ljoin_len a1.piv.1 b1.piv.1
  simp (disch := omega) only [zA, zB, zC, zD, zF, zG, zH, Nat.reduceEqDiff, Nat.reduceLT, Nat.reduceLeDiff, ↓reduceIte, hf4]
  refine FZ.mono (kernel_r F (hp04.get hb) hj jw (by omega) (by omega) hn0) ?_
  rintro v21 H5 ⟨hp5, hk5⟩
  exact ⟨hp04.trans hp5, hk5⟩
def SolV (cd : α → Nat) (H : AH) (r : Value) : Option (List α) → Prop
  | none => r = .agg [.slice none 0 0, nv 4].toArray
  | some x => ∃ s, r = .agg [s, nv 0].toArray ∧ Row H s (evs cd x)
theorem SolV.pre {H' : AH} {r : Value} {o : Option (List α)} (h : SolV cd H r o) (hp : Pre H H') : SolV cd H' r o := by
  cases o with
  | none => exact h
  | some x => obtain ⟨s, h1, h2⟩ := h; exact ⟨s, h1, h2.pre hp⟩
theorem sol_same {r1 r2 : Value} {o : Option (List α)} (h1 : SolV cd H r1 o) (h2 : SolV cd H r2 o) (hl : ∀ x, o = some x → x.length ≤ 1000) : FN Try.prog 43 [r1, r2] H (fun r H' => r = .bool true ∧ H' = H) := by
  cases o with
  | none =>
    rw [show r1 = _ from h1, show r2 = _ from h2]
    have := same_p (H := H) (s := .slice none 0 0) (t := .slice none 0 0) (ea := 4) (eb := 4) (xs := []) (ys := []) Row.nil Row.nil (by simp)
    simpa using this
  | some x =>
    obtain ⟨s, rfl, hs⟩ := h1
    obtain ⟨t, rfl, ht⟩ := h2
    rw [evs_nv] at hs ht
    have := same_p (ea := 0) (eb := 0) hs ht (by rw [List.length_map]; have := hl x rfl; omega)
    simpa using this
theorem SolR.v {H0 : AH} {r : Value} {o : Option (List α)} (h : SolR cd H0 H r o) : SolV cd H r o := by
  cases o with
  | none => exact h
  | some x => obtain ⟨s, h1, h2⟩ := h; exact ⟨s, h1, h2.row⟩
theorem solved_v (F : FOK α cd p e b c q blk) {v w : Value} {n : Nat} {rows : List (List α)} {bs : List α} (hb : H[b]? = some blk) (hv : RowR H v (evr cd rows)) (hw : Row H w (evs cd bs)) (hl : ∀ x ∈ rows, x.length = n) (hbl : rows.length = bs.length) (hR : rows.length ≤ 400) (hn : n ≤ 500) (hn0 : 0 < n) :
    FN Try.prog 44 [matv p e b c n v, w] H (fun r H' => Pre H H' ∧ SolV cd H' r (lsolve n rows bs)) := by
  refine (solved_c F hb hv hw hl hbl hR hn hn0).mono ?_
  rintro r H' ⟨hp, hr⟩
  refine ⟨hp, ?_⟩
  cases ho : lsolve n rows bs with
  | none => rw [ho] at hr; exact hr
  | some x => rw [ho] at hr; obtain ⟨s, h1, h2, _⟩ := hr; exact ⟨s, h1, h2⟩
end
set_option maxRecDepth 100000 in
theorem law7 (hF : FldOK) (hE : ExOK) {H : AH} {x y : Value} {us ws : List Nat} {k n m z0 z1 z2 z3 z4 : Nat} (hk : k < 256) (hn : n < 256) (hm : m < 256) (hz0 : z0 < 256) (hz1 : z1 < 256) (hz2 : z2 < 256) (hz3 : z3 < 256) (hz4 : z4 < 256) (hus : ∀ u ∈ us, u < 65536) (hx : Row H x (us.map uv)) (hws : ∀ u ∈ ws, u < 65536) (hy : Row H y (ws.map uv)) :
    FN Try.prog 7 [rawv k n m x, y, .agg [.int .u8 (z0 : Int), .int .u8 (z1 : Int), .int .u8 (z2 : Int), .int .u8 (z3 : Int), .int .u8 (z4 : Int)].toArray] H (fun r H' => r = .bool true ∧ H' = H) := by
  refine FN.pre0 (g7_of ?_) rfl
  unfold g7
  have hp1 := Pre.new H [.cells [.int .u8 (k : Int), .int .u8 (n : Int), .int .u8 (m : Int), x] 58 none false, .cells [.int .u8 (z0 : Int), .int .u8 (z1 : Int), .int .u8 (z2 : Int), .int .u8 (z3 : Int), .int .u8 (z4 : Int)] 59 none false]
  have w0 : IntKind.i64.wrap (z0 : Int) = (z0 : Int) := wrap64 (by omega) (by omega)
  have w1 : IntKind.i64.wrap (z1 : Int) = (z1 : Int) := wrap64 (by omega) (by omega)
  have w2 : IntKind.i64.wrap (z2 : Int) = (z2 : Int) := wrap64 (by omega) (by omega)
  have w3 : IntKind.i64.wrap (z3 : Int) = (z3 : Int) := wrap64 (by omega) (by omega)
  have w4 : IntKind.i64.wrap (z4 : Int) = (z4 : Int) := wrap64 (by omega) (by omega)
  simp (disch := omega) only [zA, zB, zC, zD, zF, zG, zH, ↓reduceIte]
  refine FZ.use (hE _) ?_
  simp (disch := omega) only [zA, zB, zC, zD, zF, zG, zH, ↓reduceIte]
  refine FZ.mono (made_c hF hk hn hm hus (hx.pre hp1)) ?_
  rintro r H3 ⟨hp3, α, i1, i2, cd, p, e, b, c, q, blk, hb, F, hq, rfl_⟩
  obtain ⟨v, n', A, rfl, hn0, hn8, hA6, hAn, hv⟩ := rfl_
  have hp03 := hp1.trans hp3
  have hz3' := hp3.get (b := H.length + 1) (x := .cells [.int .u8 (z0 : Int), .int .u8 (z1 : Int), .int .u8 (z2 : Int), .int .u8 (z3 : Int), .int .u8 (z4 : Int)] 59 none false) (by simp)
  have hone : one v = true := by obtain ⟨_, h, _⟩ := hv; exact h.1.one
  have s5 := stB_five (H := H3 ++ [.cells [nv 0, nv 0, .slice none 0 0, nv 0, .slice none 0 0] 63 none false]) (bl := H3.length) (x := nv p) (y := nv e) (z := .slice (some ⟨b, 0, none⟩) e c) (u := nv n') (v := v) (c0 := nv 0) (c1 := nv 0) (c2 := .slice none 0 0) (c3 := nv 0) (c4 := .slice none 0 0) (e := 63) (op := none) rfl rfl rfl rfl hone
  rw [set_last] at s5
  have s3 := stB_three (H := H3 ++ [mbx p e b c n' v, .cells [nv 0, nv 0, .slice none 0 0] 61 none false]) (bl := H3.length + 1) (x := nv p) (y := nv e) (z := .slice (some ⟨b, 0, none⟩) e c) (c0 := nv 0) (c1 := nv 0) (c2 := .slice none 0 0) (e := 61) (op := none) rfl rfl rfl
  rw [set_new] at s3
  simp only [List.set_cons_succ, List.set_cons_zero] at s3
  have hpM := Pre.new H3 [mbx p e b c n' v, fbx p e b c]
  have hmM : (H3 ++ [mbx p e b c n' v, fbx p e b c])[H3.length]? = some (mbx p e b c n' v) := by simp
  have hfM : (H3 ++ [mbx p e b c n' v, fbx p e b c])[H3.length + 1]? = some (fbx p e b c) := by simp
  have hm7 : z0 % 7 < 7 := Nat.mod_lt _ (by omega)
  have hzM := hpM.get hz3'
  simp (disch := omega) only [zA, zB, zC, zD, zF, zG, zH, ↓reduceIte, s5, s3, hzM, w0]
  have hpM0 := hp03.trans hpM
  generalize hHM : H3 ++ [mbx p e b c n' v, fbx p e b c] = HM at *
  have hbM := hpM.get hb
  have hvM := hv.pre hpM
  refine FZ.mono (rows_c F hws hbM (hy.pre hpM0) (n := n') (m := z0 % 7) (by omega) (by omega) hn0) ?_
  rintro v36 H9 ⟨hp9, B, hBl, hBn, hB⟩
  have hm9 := hp9.get hmM
  have hf9 := hp9.get hfM
  have hb9 := hp9.get hbM
  have hz9 := hp9.get hzM
  have hA9 := hvM.pre hp9
  have hB9 := hB.acc.rowR
  have hy9 := (hy.pre hpM0).pre hp9
  simp (disch := omega) only [zA, zB, zC, zD, zF, zG, zH, ↓reduceIte, hf9]
  refine FZ.mono (list_c F hws hb9 hy9 (n := n') (by omega)) ?_
  rintro v40 H10 ⟨hp10, xs, hxl, hxa⟩
  have hm10 := hp10.get hm9
  have hf10 := hp10.get hf9
  have hb10 := hp10.get hb9
  have hz10 := hp10.get hz9
  have hA10 := hA9.pre hp10
  have hB10 := hB9.pre hp10
  have hy10 := hy9.pre hp10
  have hxr10 := hxa.row
  obtain ⟨as0, has0, hasl0, har0⟩ := hA10.open
  obtain ⟨al10, _, _, _⟩ := has0.allV
  simp (disch := omega) only [zA, zB, zC, zD, zF, zG, zH, ↓reduceIte, hf10, hm10, al10, hasl0]
  refine FZ.mono (list_c F hws hb10 hy10 (n := A.length) (by omega)) ?_
  rintro v46 H11 ⟨hp11, ks, hkl, hka⟩
  have hm11 := hp11.get hm10
  have hf11 := hp11.get hf10
  have hb11 := hp11.get hb10
  have hz11 := hp11.get hz10
  have hA11 := hA10.pre hp11
  have hB11 := hB10.pre hp11
  have hy11 := hy10.pre hp11
  have hx11 := hxr10.pre hp11
  have hk11 := hka.row
  have hp011 := ((hpM0.trans hp9).trans hp10).trans hp11
  obtain ⟨r1, r2, r3⟩ := lreduce_red hAn
  have rw1 := r1.piv.1
  obtain ⟨k1, _⟩ := lkernel_red hAn
  have kw := k1.piv.1
  have kln := lkernel_length n' A
  simp (disch := omega) only [zA, zB, zC, zD, zF, zG, zH, ↓reduceIte, hf11, hm11]
  refine FZ.use (valid_p_ok F hb11 hA11 hAn hn0 (by omega) (by omega)) ?_
  simp (disch := omega) only [zA, zB, zC, zD, zF, zG, zH, ↓reduceIte, hf11, hm11]
  refine FZ.mono (reduce_p F hb11 hA11 hAn (by omega) (by omega) hn0) ?_
  rintro v57 H12 ⟨hp12, hR12⟩
  have hm12 := hp12.get hm11
  have hf12 := hp12.get hf11
  have hb12 := hp12.get hb11
  have hA12 := hA11.pre hp12
  simp (disch := omega) only [zA, zB, zC, zD, zF, zG, zH, ↓reduceIte, hf12, hm12]
  refine FZ.mono (reduce_r F hb12 hA12 hAn (by omega) (by omega)) ?_
  rintro v61 H13 ⟨hp13, hR13⟩
  simp (disch := omega) only [zA, zB, zC, zD, zF, zG, zH, ↓reduceIte]
  refine FZ.use (alike_e (hR12.pre hp13) hR13 (by omega) (fun x hx => by rw [rw1 x hx]; omega) rfl) ?_
  have hm13 := hp13.get hm12
  have hf13 := hp13.get hf12
  have hb13 := hp13.get hb12
  have hA13 := hA12.pre hp13
  simp (disch := omega) only [zA, zB, zC, zD, zF, zG, zH, ↓reduceIte, hf13, hm13]
  refine FZ.use (rank_p F hb13 hA13 hAn (by omega) (by omega) hn0) ?_
  simp (disch := omega) only [zA, zB, zC, zD, zF, zG, zH, Nat.reduceEqDiff, Nat.reduceLT, Nat.reduceLeDiff, ↓reduceIte, hf13, hm13]
  refine FZ.mono (reduce_r F hb13 hA13 hAn (by omega) (by omega)) ?_
  rintro v73 H14 ⟨hp14, hR14⟩
  obtain ⟨rs, hrs, hrsl, _⟩ := hR14.open
  obtain ⟨rl, _, _, _⟩ := hrs.allV
  have hm14 := hp14.get hm13
  have hf14 := hp14.get hf13
  have hb14 := hp14.get hb13
  have hA14 := hA13.pre hp14
  simp (disch := omega) only [zA, zB, zC, zD, zF, zG, zH, ↓reduceIte, rl, hrsl, hf14, hm14]
  refine FZ.mono (kernel_p F hb14 hA14 hAn (by omega) (by omega) hn0) ?_
  rintro v82 H15 ⟨hp15, hK15⟩
  have hm15 := hp15.get hm14
  have hf15 := hp15.get hf14
  have hb15 := hp15.get hb14
  have hA15 := hA14.pre hp15
  simp (disch := omega) only [zA, zB, zC, zD, zF, zG, zH, Nat.reduceEqDiff, Nat.reduceLT, Nat.reduceLeDiff, ↓reduceIte, hf15, hm15]
  refine FZ.mono (kernel_r F hb15 hA15 hAn (by omega) (by omega) hn0) ?_
  rintro v87 H16 ⟨hp16, hK16⟩
  simp (disch := omega) only [zA, zB, zC, zD, zF, zG, zH, ↓reduceIte]
  refine FZ.use (alike_e (hK15.pre hp16) hK16 (by omega) (fun x hx => by rw [kw x hx]; omega) rfl) ?_
  have hm16 := hp16.get hm15
  have hf16 := hp16.get hf15
  have hb16 := hp16.get hb15
  have hA16 := hA15.pre hp16
  have hp1116 := (((hp12.trans hp13).trans hp14).trans hp15).trans hp16
  have hx16 := hx11.pre hp1116
  simp (disch := omega) only [zA, zB, zC, zD, zF, zG, zH, ↓reduceIte, hf16, hm16]
  refine FZ.mono (apply_p F hb16 hA16 hx16 (fun z hz => by rw [hAn z hz, hxl]) (by omega) (by omega)) ?_
  rintro v96 H17 ⟨hp17, ha17⟩
  have hm17 := hp17.get hm16
  have hf17 := hp17.get hf16
  have hb17 := hp17.get hb16
  have hA17 := hA16.pre hp17
  have hx17 := hx16.pre hp17
  simp (disch := omega) only [zA, zB, zC, zD, zF, zG, zH, Nat.reduceEqDiff, Nat.reduceLT, Nat.reduceLeDiff, ↓reduceIte, hf17, hm17]
  refine FZ.mono (apply_c F hb17 hA17 hx17 (fun z hz => by rw [hAn z hz, hxl]) (by omega) (by omega)) ?_
  rintro v101 H18 ⟨hp18, ha18⟩
  simp (disch := omega) only [zA, zB, zC, zD, zF, zG, zH, ↓reduceIte]
  refine FZ.use (same_e F (ha17.row.pre hp18) ha18.row (by rw [List.length_map]; omega)) ?_
  have hm18 := hp18.get hm17
  have hf18 := hp18.get hf17
  have hb18 := hp18.get hb17
  have hA18 := hA17.pre hp18
  have hp1118 := (hp1116.trans hp17).trans hp18
  have hk18 := hk11.pre hp1118
  have hz18 := (((hp1118).get hz11))
  have hB18 := hB11.pre hp1118
  have hx18 := hx11.pre hp1118
  have hy18 := hy11.pre hp1118
  have hq18 := hp011.trans hp1118
  have hbl' : A.length = (A.map fun z => ldot z xs).length := by rw [List.length_map]
  simp (disch := omega) only [zA, zB, zC, zD, zF, zG, zH, ↓reduceIte, hf18, hm18]
  refine FZ.mono (solved_v F hb18 hA18 hk18 hAn hkl.symm (by omega) (by omega) hn0) ?_
  rintro v107 H19 ⟨hp19, hs19⟩
  have hm19 := hp19.get hm18
  have hf19 := hp19.get hf18
  have hb19 := hp19.get hb18
  have hz19 := hp19.get hz18
  have hA19 := hA18.pre hp19
  have hB19 := hB18.pre hp19
  have hx19 := hx18.pre hp19
  have hk19 := hk18.pre hp19
  have hy19 := hy18.pre hp19
  have hq19 := hq18.trans hp19
  simp (disch := omega) only [zA, zB, zC, zD, zF, zG, zH, ↓reduceIte, hm19]
  refine FZ.mono (solve_r F hb19 hA19 hk19 hAn hkl.symm (by omega) (by omega) hn0) ?_
  rintro v110 H20 ⟨hp20, hs20⟩
  have hm20 := hp20.get hm19
  have hf20 := hp20.get hf19
  have hb20 := hp20.get hb19
  have hz20 := hp20.get hz19
  have hA20 := hA19.pre hp20
  have hB20 := hB19.pre hp20
  have hx20 := hx19.pre hp20
  have hk20 := hk19.pre hp20
  have hy20 := hy19.pre hp20
  have hq20 := hq19.trans hp20
  simp (disch := omega) only [zA, zB, zC, zD, zF, zG, zH, ↓reduceIte]
  refine FZ.use (sol_same (hs19.pre hp20) hs20.v (fun z hz => by rw [(lsolve_some hAn hkl.symm hz).1]; omega)) ?_
  simp (disch := omega) only [zA, zB, zC, zD, zF, zG, zH, ↓reduceIte, hm20, hf20]
  refine FZ.mono (apply_c F hb20 hA20 hx20 (fun z hz => by rw [hAn z hz, hxl]) (by omega) (by omega)) ?_
  rintro v119 H21 ⟨hp21, ha21⟩
  have hm21 := hp21.get hm20
  have hf21 := hp21.get hf20
  have hb21 := hp21.get hb20
  have hz21 := hp21.get hz20
  have hA21 := hA20.pre hp21
  have hB21 := hB20.pre hp21
  have hx21 := hx20.pre hp21
  have hk21 := hk20.pre hp21
  have hy21 := hy20.pre hp21
  have hq21 := hq20.trans hp21
  simp (disch := omega) only [zA, zB, zC, zD, zF, zG, zH, Nat.reduceEqDiff, Nat.reduceLT, Nat.reduceLeDiff, ↓reduceIte, hm21, hf21]
  refine FZ.mono (solved_v F hb21 hA21 ha21.row hAn hbl' (by omega) (by omega) hn0) ?_
  rintro v120 H22 ⟨hp22, hs22⟩
  have hm22 := hp22.get hm21
  have hf22 := hp22.get hf21
  have hb22 := hp22.get hb21
  have hz22 := hp22.get hz21
  have hA22 := hA21.pre hp22
  have hB22 := hB21.pre hp22
  have hx22 := hx21.pre hp22
  have hk22 := hk21.pre hp22
  have hy22 := hy21.pre hp22
  have hq22 := hq21.trans hp22
  simp (disch := omega) only [zA, zB, zC, zD, zF, zG, zH, Nat.reduceEqDiff, Nat.reduceLT, Nat.reduceLeDiff, ↓reduceIte, hm22, hf22]
  refine FZ.mono (apply_c F hb22 hA22 hx22 (fun z hz => by rw [hAn z hz, hxl]) (by omega) (by omega)) ?_
  rintro v126 H23 ⟨hp23, ha23⟩
  have hm23 := hp23.get hm22
  have hf23 := hp23.get hf22
  have hb23 := hp23.get hb22
  have hz23 := hp23.get hz22
  have hA23 := hA22.pre hp23
  have hB23 := hB22.pre hp23
  have hx23 := hx22.pre hp23
  have hk23 := hk22.pre hp23
  have hy23 := hy22.pre hp23
  have hq23 := hq22.trans hp23
  simp (disch := omega) only [zA, zB, zC, zD, zF, zG, zH, Nat.reduceEqDiff, Nat.reduceLT, Nat.reduceLeDiff, ↓reduceIte, hm23, hf23]
  refine FZ.mono (solve_r F hb23 hA23 ha23.row hAn hbl' (by omega) (by omega) hn0) ?_
  rintro v127 H24 ⟨hp24, hs24⟩
  have hm24 := hp24.get hm23
  have hf24 := hp24.get hf23
  have hb24 := hp24.get hb23
  have hz24 := hp24.get hz23
  have hA24 := hA23.pre hp24
  have hB24 := hB23.pre hp24
  have hx24 := hx23.pre hp24
  have hk24 := hk23.pre hp24
  have hy24 := hy23.pre hp24
  have hq24 := hq23.trans hp24
  simp (disch := omega) only [zA, zB, zC, zD, zF, zG, zH, ↓reduceIte]
  refine FZ.use (sol_same ((hs22.pre hp23).pre hp24) hs24.v (fun z hz => by rw [(lsolve_some hAn hbl' hz).1]; omega)) ?_
  simp (disch := omega) only [zA, zB, zC, zD, zF, zG, zH, ↓reduceIte, hm24, hf24]
  refine FZ.use (has_p F hb24 hA24 hx24 hAn hxl (by omega) (by omega) hn0) ?_
  rw [has_count hAn hxl]
  simp (disch := omega) only [zA, zB, zC, zD, zF, zG, zH, Nat.reduceEqDiff, Nat.reduceLT, Nat.reduceLeDiff, ↓reduceIte, hm24, hf24]
  refine FZ.mono (has_r F hb24 hA24 hx24 hAn hxl (by omega) (by omega)) ?_
  rintro _ H25 ⟨hp25, rfl⟩
  have hm25 := hp25.get hm24
  have hf25 := hp25.get hf24
  have hb25 := hp25.get hb24
  have hz25 := hp25.get hz24
  have hA25 := hA24.pre hp25
  have hB25 := hB24.pre hp25
  have hx25 := hx24.pre hp25
  have hk25 := hk24.pre hp25
  have hy25 := hy24.pre hp25
  have hq25 := hq24.trans hp25
  obtain ⟨j1, j2⟩ := ljoin_red hAn hBn
  obtain ⟨m1, m2⟩ := lmeet_red hAn hBn
  obtain ⟨jw, jl⟩ := ljoin_len hAn hBn
  obtain ⟨mw, ml⟩ := lmeet_len hAn hBn
  simp (disch := omega) only [zA, zB, zC, zD, zF, zG, zH, ↓reduceIte, hm25, hf25, beq_self_eq_true]
  refine FZ.mono (join_p F hb25 hA25 hB25 hAn hBn (by omega) (by omega) (by omega) hn0) ?_
  rintro v149 H26 ⟨hp26, hj26⟩
  have hm26 := hp26.get hm25
  have hf26 := hp26.get hf25
  have hb26 := hp26.get hb25
  have hz26 := hp26.get hz25
  have hA26 := hA25.pre hp26
  have hB26 := hB25.pre hp26
  have hx26 := hx25.pre hp26
  have hk26 := hk25.pre hp26
  have hy26 := hy25.pre hp26
  have hq26 := hq25.trans hp26
  simp (disch := omega) only [zA, zB, zC, zD, zF, zG, zH, Nat.reduceEqDiff, Nat.reduceLT, Nat.reduceLeDiff, ↓reduceIte, hm26, hf26]
  refine FZ.mono (join_r F hb26 hA26 hB26 hAn hBn (by omega) (by omega) (by omega)) ?_
  rintro v154 H27 ⟨hp27, hj27⟩
  have hm27 := hp27.get hm26
  have hf27 := hp27.get hf26
  have hb27 := hp27.get hb26
  have hz27 := hp27.get hz26
  have hA27 := hA26.pre hp27
  have hB27 := hB26.pre hp27
  have hx27 := hx26.pre hp27
  have hk27 := hk26.pre hp27
  have hy27 := hy26.pre hp27
  have hq27 := hq26.trans hp27
  change RowR _ _ (evr cd (ljoin A B)) at hj26 hj27
  simp (disch := omega) only [zA, zB, zC, zD, zF, zG, zH, ↓reduceIte]
  refine FZ.use (alike_e (hj26.pre hp27) hj27 (by omega) (fun x hx => by rw [jw x hx]; omega) rfl) ?_
  simp (disch := omega) only [zA, zB, zC, zD, zF, zG, zH, ↓reduceIte, hm27, hf27]
  refine FZ.mono (meet_p F hb27 hA27 hB27 hAn hBn (by omega) (by omega) (by omega) hn0) ?_
  rintro v164 H28 ⟨hp28, hj28⟩
  have hm28 := hp28.get hm27
  have hf28 := hp28.get hf27
  have hb28 := hp28.get hb27
  have hz28 := hp28.get hz27
  have hA28 := hA27.pre hp28
  have hB28 := hB27.pre hp28
  have hx28 := hx27.pre hp28
  have hk28 := hk27.pre hp28
  have hy28 := hy27.pre hp28
  have hq28 := hq27.trans hp28
  simp (disch := omega) only [zA, zB, zC, zD, zF, zG, zH, Nat.reduceEqDiff, Nat.reduceLT, Nat.reduceLeDiff, ↓reduceIte, hm28, hf28]
  refine FZ.mono (meet_r F hb28 hA28 hB28 hAn hBn (by omega) (by omega) (by omega) hn0) ?_
  rintro v170 H29 ⟨hp29, hj29⟩
  have hm29 := hp29.get hm28
  have hf29 := hp29.get hf28
  have hb29 := hp29.get hb28
  have hz29 := hp29.get hz28
  have hA29 := hA28.pre hp29
  have hB29 := hB28.pre hp29
  have hx29 := hx28.pre hp29
  have hk29 := hk28.pre hp29
  have hy29 := hy28.pre hp29
  have hq29 := hq28.trans hp29
  simp (disch := omega) only [zA, zB, zC, zD, zF, zG, zH, ↓reduceIte]
  refine FZ.use (alike_e (hj28.pre hp29) hj29 (by omega) (fun x hx => by rw [mw x hx]; omega) rfl) ?_
  have hm5 : z1 % 5 < 5 := Nat.mod_lt _ (by omega)
  simp (disch := omega) only [zA, zB, zC, zD, zF, zG, zH, ↓reduceIte, hf29, hz29, w1]
  refine FZ.mono (square_c F hws hb29 hy29 (n := 1 + z1 % 5) (by omega) (by omega)) ?_
  rintro v181 H30 ⟨hp30, S, hSl, hSn, hS30⟩
  have hm30 := hp30.get hm29
  have hf30 := hp30.get hf29
  have hb30 := hp30.get hb29
  have hz30 := hp30.get hz29
  have hA30 := hA29.pre hp30
  have hB30 := hB29.pre hp30
  have hx30 := hx29.pre hp30
  have hk30 := hk29.pre hp30
  have hy30 := hy29.pre hp30
  have hq30 := hq29.trans hp30
  have hS' : ∀ x ∈ S, x.length = S.length := fun x hx => by rw [hSn x hx, hSl]
  simp (disch := omega) only [zA, zB, zC, zD, zF, zG, zH, ↓reduceIte, hf30]
  refine FZ.mono (inverted_c F hb30 hS30 hS' hSl (by omega) (by omega)) ?_
  rintro r H31 ⟨hp31, hr⟩
  have hm31 := hp31.get hm30
  have hf31 := hp31.get hf30
  have hb31 := hp31.get hb30
  have hz31 := hp31.get hz30
  have hA31 := hA30.pre hp31
  have hB31 := hB30.pre hp31
  have hx31 := hx30.pre hp31
  have hk31 := hk30.pre hp31
  have hy31 := hy30.pre hp31
  have hq31 := hq30.trans hp31
  have hS31 := hS30.pre hp31
  obtain ⟨ev, hev⟩ : ∃ ev, ev = if linv S = none then 4 else 0 := ⟨_, rfl⟩
  obtain ⟨X, hX⟩ : ∃ X, X = (linv S).getD [] := ⟨_, rfl⟩
  have hr' : ∃ s, r = .agg [s, nv ev].toArray ∧ RowR H31 s (evr cd X) := by
    cases ho : linv S with
    | none => rw [ho] at hr hev hX; subst hX hev; exact ⟨_, hr, ⟨[], ⟨Row.nil, rfl⟩, rfl, by simp⟩⟩
    | some y => rw [ho] at hr hev hX; subst hX hev; exact hr
  obtain ⟨s, rfl, hs31⟩ := hr'
  have hone1 : one s = true := by obtain ⟨_, h, _⟩ := hs31; exact h.1.one
  have t2 := stB_two (H := H31 ++ [.cells [.slice none 0 0, nv 0] 83 none false]) (bl := H31.length) (x := s) (y := nv ev) (c0 := .slice none 0 0) (c1 := nv 0) (e := 83) (op := none) hone1 rfl
  rw [set_last] at t2
  have hp32 := Pre.new H31 [.cells [s, nv ev] 83 none false]
  have hY32 : (H31 ++ [.cells [s, nv ev] 83 none false])[H31.length]? = some (.cells [s, nv ev] 83 none false) := by simp
  simp (disch := omega) only [zA, zB, zC, zD, zF, zG, zH, ↓reduceIte, t2]
  generalize H31 ++ [AB.cells [s, nv ev] 83 none false] = H32 at *
  have hm32 := hp32.get hm31
  have hf32 := hp32.get hf31
  have hb32 := hp32.get hb31
  have hz32 := hp32.get hz31
  have hA32 := hA31.pre hp32
  have hB32 := hB31.pre hp32
  have hx32 := hx31.pre hp32
  have hk32 := hk31.pre hp32
  have hy32 := hy31.pre hp32
  have hq32 := hq31.trans hp32
  have hS32 := hS31.pre hp32
  have hs32 := hs31.pre hp32
  simp (disch := omega) only [zA, zB, zC, zD, zF, zG, zH, ↓reduceIte, hf32]
  refine FZ.mono (inverse_r F hb32 hS32 hS' hSl (by omega) (by omega)) ?_
  rintro r2' H33 ⟨hp33, hrr⟩
  have hm33 := hp33.get hm32
  have hf33 := hp33.get hf32
  have hb33 := hp33.get hb32
  have hz33 := hp33.get hz32
  have hA33 := hA32.pre hp33
  have hB33 := hB32.pre hp33
  have hx33 := hx32.pre hp33
  have hk33 := hk32.pre hp33
  have hy33 := hy32.pre hp33
  have hq33 := hq32.trans hp33
  have hs33 := hs32.pre hp33
  have hY33 := hp33.get hY32
  have hr' : ∃ t, r2' = .agg [t, nv ev].toArray ∧ RowR H33 t (evr cd X) := by
    clear hr
    cases ho : linv S with
    | none =>
      rw [ho] at hrr hev hX
      have h1 : ev = 4 := hev
      have h2 : X = [] := hX
      rw [h1, h2]; exact ⟨_, hrr, ⟨[], ⟨Row.nil, rfl⟩, rfl, by simp⟩⟩
    | some y =>
      rw [ho] at hrr hev hX
      have h1 : ev = 0 := hev
      have h2 : X = y := hX
      rw [h1, h2]; exact hrr
  obtain ⟨t, rfl, ht33⟩ := hr'
  have hXl : X.length ≤ 5 ∧ ∀ x ∈ X, x.length ≤ 5 := by
    cases ho : linv S with
    | none => rw [hX, ho]; simp
    | some y =>
      obtain ⟨i1', i2', _⟩ := linv_some hS' ho
      rw [hX, ho]
      exact ⟨by show y.length ≤ 5; omega, fun x hx => by have := i2' x hx; omega⟩
  have hone2 : one t = true := by obtain ⟨_, h, _⟩ := ht33; exact h.1.one
  have t3 := stB_two (H := H33 ++ [.cells [.slice none 0 0, nv 0] 83 none false]) (bl := H33.length) (x := t) (y := nv ev) (c0 := .slice none 0 0) (c1 := nv 0) (e := 83) (op := none) hone2 rfl
  rw [set_last] at t3
  have hp34 := Pre.new H33 [.cells [t, nv ev] 83 none false]
  have hZ34 : (H33 ++ [.cells [t, nv ev] 83 none false])[H33.length]? = some (.cells [t, nv ev] 83 none false) := by simp
  simp (disch := omega) only [zA, zB, zC, zD, zF, zG, zH, ↓reduceIte, t3]
  generalize H33 ++ [AB.cells [t, nv ev] 83 none false] = H34 at *
  have hm34 := hp34.get hm33
  have hf34 := hp34.get hf33
  have hb34 := hp34.get hb33
  have hz34 := hp34.get hz33
  have hA34 := hA33.pre hp34
  have hB34 := hB33.pre hp34
  have hx34 := hx33.pre hp34
  have hk34 := hk33.pre hp34
  have hy34 := hy33.pre hp34
  have hq34 := hq33.trans hp34
  have hs34 := hs33.pre hp34
  have ht34 := ht33.pre hp34
  have hY34 := hp34.get hY33
  simp (disch := omega) only [zA, zB, zC, zD, zF, zG, zH, ↓reduceIte, hY34, hZ34]
  refine FZ.use (alike_e hs34 ht34 (by omega) (fun x hx => by have := hXl.2 x hx; omega) rfl) ?_
  have hpB := Pre.new H34 [.cells [] 26 none false]
  obtain ⟨vs, hvs, hvr⟩ := hA34
  have hla : (evr cd A).length = A.length := by simp [evr]
  have hvl : vs.length = A.length := by rw [hvr.1, hla]
  have hones : vs.all one = true := by
    rw [List.all_eq_true]
    intro x hx
    obtain ⟨j, hj, rfl⟩ := List.mem_iff_getElem.1 hx
    have := (hvr.2 j (by rw [← hvr.1]; exact hj)).one
    simpa [List.getD_eq_getElem?_getD, List.getElem?_eq_getElem hj] using this
  have hplA : ∀ cs ∈ evr cd A, cs.all plain = true := fun cs hcs => by
    obtain ⟨x, hx, rfl⟩ := List.mem_map.1 hcs
    simp [plain]
  have acc0 : Acc H34 (H34 ++ [.cells [] 26 none false]) (.slice (some ⟨H34.length, 0, none⟩) 0 0) [] 26 := (Own.new (Nat.le_refl _) (cs := []) rfl (Y := [])).acc
  obtain ⟨v204, H35, e35, acc35, pre35, _⟩ := acc0.appR (by_ := 24) (by simp) (hvs.pre hpB) hones (by simp; omega) (by simp; omega)
  have hp35 : Pre H34 H35 := pre35 hpB
  have hmB := hpB.get hm34
  have accR35 : AccR H34 H35 v204 (evr cd A) 26 := ⟨vs, by simpa using acc35, hvr.pre hp35, hplA⟩
  have hx35 := hx34.pre hp35
  have hz35 := hp35.get hz34
  have hf35 := hp35.get hf34
  have hne : evs cd xs ≠ [] := fun h => by have := congrArg List.length h; simp at this; rw [this] at hxl; simp at hxl; omega
  have hpC := Pre.new H35 [.cells [] 3 none false]
  have a2 := app_fresh (by_ := 8) (b := H35.length) (e := 3) (H := H35 ++ [.cells [] 3 none false]) (by simp) ((hx35.pre hpC).x hne) (by simp [one]) hne (by simp; omega) (by simp; omega)
  have hel : (evs cd xs).length = n' := by simp [hxl]
  simp only [List.append_assoc, List.cons_append, List.nil_append, List.length_append, List.length_cons, List.length_nil, hel] at a2
  have hk2 : z2 % n' < n' := Nat.mod_lt _ hn0
  have hp36 := Pre.new H35 [.cells [] 3 none false, .cells (evs cd xs) 3 (some 1) false]
  have hz36 := hp36.get hz35
  have hrow36 : (H35 ++ [.cells [] 3 none false, .cells (evs cd xs) 3 (some 1) false])[H35.length + 1]? = some (.cells (evs cd xs) 3 (some 1) false) := by simp
  have hsub : xbin .sub 0 (nv z3) (nv 100) = some (iv ((z3 : Int) - 100)) := xbin_subZ (by omega) (by omega)
  have st1 := st_cell (v := iv ((z3 : Int) - 100)) hrow36 (k := z2 % n') (by omega) rfl rfl
  rw [xact_st] at st1
  simp (disch := omega) only [zA, zB, zC, zD, zF, zG, zH, ↓reduceIte, hmB, e35, a2]
  generalize H35 ++ [AB.cells [] 3 none false, AB.cells (evs cd xs) 3 (some 1) false] = H36 at *
  have hp37 : Pre H35 (H36.set (H35.length + 1) (.cells ((evs cd xs).set (z2 % n') (iv ((z3 : Int) - 100))) 3 (some 1) false)) := hp36.set (by omega) _
  have hrow37 : (H36.set (H35.length + 1) (.cells ((evs cd xs).set (z2 % n') (iv ((z3 : Int) - 100))) 3 (some 1) false))[H35.length + 1]? = some (.cells ((evs cd xs).set (z2 % n') (iv ((z3 : Int) - 100))) 3 (some 1) false) := List.getElem?_set_self (get_lt hrow36)
  simp (disch := omega) only [zA, zB, zC, zD, zF, zG, zH, ↓reduceIte, hz36, w2, w3, hk2, hsub, st1]
  generalize H36.set (H35.length + 1) (AB.cells ((evs cd xs).set (z2 % n') (iv ((z3 : Int) - 100))) 3 (some 1) false) = H37 at *
  have hu37 : Row H37 (.slice (some ⟨H35.length + 1, 0, none⟩) n' n') ((evs cd xs).set (z2 % n') (iv ((z3 : Int) - 100))) := Row.of hrow37 (by simp [hxl]) (Nat.le_refl _)
  have hpl37 : ((evs cd xs).set (z2 % n') (iv ((z3 : Int) - 100))).all plain = true := by
    rw [List.all_eq_true]
    intro x hx
    rcases List.mem_or_eq_of_mem_set hx with h | rfl
    · obtain ⟨a, _, rfl⟩ := List.mem_map.1 h; rfl
    · rfl
  obtain ⟨v222, H38, e38, accR38, pre38, _⟩ := (accR35.pre hp37).app1 (by_ := 24) (hp35.trans hp37).len hu37 hpl37 (by rw [hla]; omega) (by rw [hla]; omega) (e2 := 26)
  have hp38 : Pre H34 H38 := pre38 (hp35.trans hp37)
  have hf38 := hp38.get hf34
  have hz38 := hp38.get hz34
  have t5 := stB_three (H := H38 ++ [.cells [nv 0, nv 0, .slice none 0 0] 61 none false]) (bl := H38.length) (x := nv p) (y := nv e) (z := .slice (some ⟨b, 0, none⟩) e c) (c0 := nv 0) (c1 := nv 0) (c2 := .slice none 0 0) (e := 61) (op := none) rfl rfl rfl
  rw [set_last] at t5
  have hpG := Pre.new H38 [fbx p e b c]
  have hzG := hpG.get hz38
  have hpF := Pre.new H38 [gbx p (z4 % 4) b e c]
  have hG : (H38 ++ [gbx p (z4 % 4) b e c])[H38.length]? = some (gbx p (z4 % 4) b e c) := by simp
  have hfF := hpF.get hf38
  have hmF := hpF.get (hp38.get hm34)
  have hzF := hpF.get hz38
  have hbF := hpF.get (hp38.get hb34)
  have hvF : RowR _ v (evr cd A) := RowR.pre (RowR.pre ⟨vs, hvs, hvr⟩ hp38) hpF
  have hoF := accR38.rowR.pre hpF
  have hqF := (hq34.trans hp38).trans hpF
  have hrows : evr cd A ++ [(evs cd xs).set (z2 % n') (iv ((z3 : Int) - 100))] = ((A.map fun x => x.map fun a => ((cd a : Nat) : Int)) ++ [(xs.map fun a => ((cd a : Nat) : Int)).set (z2 % n') ((z3 : Int) - 100)]).map fun l => l.map iv := by
    rw [List.map_append, ← evr_iv]
    simp [evs, List.map_set, Function.comp_def]
  rw [hrows] at hoF
  have hvI := hvF
  rw [evr_iv] at hvI
  have hz4 : z4 % 4 < 4 := Nat.mod_lt _ (by omega)
  have hz30 : z4 % 30 < 30 := Nat.mod_lt _ (by omega)
  simp (disch := (first | omega | (simp only [stLen] <;> omega) | (simp only [all_nv]; done) | rfl)) only [zA, zB, zC, zD, zF, zG, zH, Nat.reduceEqDiff, Nat.reduceLT, Nat.reduceLeDiff, ↓reduceIte, e38, hf38, t5, hzG, w4]
  generalize H38 ++ [gbx p (z4 % 4) b e c] = HF at *
  have lA : ∀ x ∈ A.map fun x => x.map fun a => ((cd a : Nat) : Int), x.length ≤ 1000 := fun x hx => by
    obtain ⟨y, hy, rfl⟩ := List.mem_map.1 hx
    rw [List.length_map, hAn y hy]; omega
  have lO : ∀ x ∈ (A.map fun x => x.map fun a => ((cd a : Nat) : Int)) ++ [(xs.map fun a => ((cd a : Nat) : Int)).set (z2 % n') ((z3 : Int) - 100)], x.length ≤ 1000 := fun x hx => by
    rcases List.mem_append.1 hx with h | h
    · exact lA x h
    · rw [List.mem_singleton.1 h, List.length_set, List.length_map]; omega
  simp (disch := omega) only [zA, zB, zC, zD, zF, zG, zH, ↓reduceIte, hfF, hmF]
  refine FZ.use (valid_p (q := q) (vb := true) (n := n') hbF (fun H' h => F.valid H' h) (fun _ H' h => F.size H' h) hoF lO (by omega) (by simp; omega)) ?_
  simp (disch := omega) only [zA, zB, zC, zD, zF, zG, zH, ↓reduceIte, hfF, hmF]
  refine FZ.use (valid_r (q := q) (vb := true) (n := n') hbF (fun H' h => F.rvalid H' h) (fun _ H' h => F.rsize H' h) hoF lO (by omega) (by simp; omega)) ?_
  simp (disch := omega) only [zA, zB, zC, zD, zF, zG, zH, ↓reduceIte, hfF, hmF, hzF, w4, beq_self_eq_true]
  refine FZ.use (valid_p (q := q) (vb := true) (n := z4 % 30) hbF (fun H' h => F.valid H' h) (fun _ H' h => F.size H' h) hvI lA (by omega) (by simp; omega)) ?_
  simp (disch := (first | omega | (simp only [stLen] <;> omega) | (simp only [all_nv]; done) | rfl)) only [zA, zB, zC, zD, zF, zG, zH, Nat.reduceEqDiff, Nat.reduceLT, Nat.reduceLeDiff, ↓reduceIte, hfF, hmF, hzF, w4]
  refine FZ.use (valid_r (q := q) (vb := true) (n := z4 % 30) hbF (fun H' h => F.rvalid H' h) (fun _ H' h => F.rsize H' h) hvI lA (by omega) (by simp; omega)) ?_
  simp (disch := omega) only [zA, zB, zC, zD, zF, zG, zH, Nat.reduceEqDiff, Nat.reduceLT, Nat.reduceLeDiff, ↓reduceIte, hfF, hmF, hzF, w4, beq_self_eq_true, hG]
  by_cases hEe : z4 % 4 = e
  · rw [hEe]
    refine FZ.use (valid_p (q := q) (vb := true) (n := n') hbF (fun H' h => F.valid H' h) (fun _ H' h => F.size H' h) hvI lA (by omega) (by simp; omega)) ?_
    simp (disch := (first | omega | (simp only [stLen] <;> omega) | (simp only [all_nv]; done) | rfl)) only [zA, zB, zC, zD, zF, zG, zH, Nat.reduceEqDiff, Nat.reduceLT, Nat.reduceLeDiff, ↓reduceIte, hfF, hmF, hzF, hG, hEe]
    refine FZ.use (valid_r (q := q) (vb := true) (n := n') hbF (fun H' h => F.rvalid H' h) (fun _ H' h => F.rsize H' h) hvI lA (by omega) (by simp; omega)) ?_
    simp (disch := omega) only [zA, zB, zC, zD, zF, zG, zH, Nat.reduceEqDiff, Nat.reduceLT, Nat.reduceLeDiff, ↓reduceIte, hfF, hmF, beq_self_eq_true]
    exact hqF
  · refine FZ.use (valid_p (q := q) (vb := false) (n := n') hbF (fun H' h => F.chg H' _ h hz4 hEe) (fun h => by cases h) hvI lA (by omega) (by simp; omega)) ?_
    simp (disch := omega) only [zA, zB, zC, zD, zF, zG, zH, Nat.reduceEqDiff, Nat.reduceLT, Nat.reduceLeDiff, ↓reduceIte, hfF, hmF, hG]
    refine FZ.use (valid_r (q := q) (vb := false) (n := n') hbF (fun H' h => F.rchg H' _ h hz4 hEe) (fun h => by cases h) hvI lA (by omega) (by simp; omega)) ?_
    simp (disch := omega) only [zA, zB, zC, zD, zF, zG, zH, ↓reduceIte, hfF, hmF, beq_self_eq_true]
    exact hqF
end Go.Sim
