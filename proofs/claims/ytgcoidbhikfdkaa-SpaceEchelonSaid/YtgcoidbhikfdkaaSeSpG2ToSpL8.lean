/- Part of the proof: SpG2, SpL9, SpL10, SpL8. -/
import Derived.Test.YtgcoidbhikfdkaaSShSToShF
import Derived.Test.YtgcoidbhikfdkaaSShMix
import Derived.KernelRfl
import Derived.Test.YtgcoidbhikfdkaaSSpW3ToSpX10
set_option linter.all false
set_option maxRecDepth 100000
namespace Go.Sim
open Go Go.Proofs
def xd8 : XD := (.seq (.reg [yS 0 2 (.box 58) [oT 0], yS 1 3 (.box 59) [oT 1], yS 2 4 .mov [oC (.bool false)]]) (.seq (.reg [yS 0 17 .call [oF 29], yS 1 5 .mov [oT 17]]) (.seq (.seq (.reg [yS 0 18 .mov [oT 5], yS 1 19 (.un .not) [oT 18]]) (.cond (oT 19) (.seq (.reg [yS 0 4 .mov [oC (.bool false)]]) .ret) .skip)) (.seq (.reg [yS 0 20 (.ld (some 4)) [oT 2], yS 1 21 .call [oF 30, oT 20], yS 2 6 (.new [(nv 0), (nv 0), (.slice none 0 0), (nv 0), (.slice none 0 0)] 63) [], yN 3 (.st 5) [oT 6, oT 21]]) (.seq (.reg [yS 0 22 (.fld 0) [oT 6], yS 1 23 (.ld (some 3)) [oT 22], yS 2 7 (.new [(nv 0), (nv 0), (.slice none 0 0)] 61) [], yN 3 (.st 3) [oT 7, oT 23]]) (.seq (.reg [yS 0 24 (.ld (some 3)) [oT 7], yS 1 25 (.fld 4) [oT 6], yS 2 26 (.ld none) [oT 25], yS 3 27 .call [oF 35, oT 24, oT 26], yS 4 8 .mov [oT 27]]) (.seq (.seq (.reg [yS 0 28 (.fld 3) [oT 6], yS 1 29 (.ld none) [oT 28], yS 2 30 .mov [oT 8], yS 3 31 .call [oF 56, oT 29, oT 30], yS 4 32 (.un .not) [oT 31], yS 5 33 .mov [oT 32], yG (some (33, false)) 6 (some 34) (.ld (some 3)) [oT 7], yG (some (33, false)) 7 (some 35) (.fld 4) [oT 6], yG (some (33, false)) 8 (some 36) (.ld none) [oT 35], yG (some (33, false)) 9 (some 37) .call [oF 37, oT 34, oT 36], yG (some (33, false)) 10 (some 38) .mov [oT 8], yG (some (33, false)) 11 (some 39) .lenS [oT 38], yG (some (33, false)) 12 (some 40) (.bin .neq 0) [oT 37, oT 39], yS 13 41 .pick [oT 33, oC (.bool true), oT 40], yS 14 42 .mov [oT 41], yG (some (42, false)) 15 (some 43) (.ld (some 3)) [oT 7], yG (some (42, false)) 16 (some 44) (.fld 3) [oT 6], yG (some (42, false)) 17 (some 45) (.ld none) [oT 44], yG (some (42, false)) 18 (some 46) .mov [oT 8], yG (some (42, false)) 19 (some 47) .call [oF 55, oT 43, oT 45, oT 46], yG (some (42, false)) 20 (some 48) (.un .not) [oT 47], yS 21 49 .pick [oT 42, oC (.bool true), oT 48]]) (.cond (oT 49) (.seq (.reg [yS 0 4 .mov [oC (.bool false)]]) .ret) .skip)) (.seq (.seq (.reg [yS 0 9 .mov [oC (nv 0)]]) (.block 0 (.loop [9] 18889464805578674012688 (.seq (.seq (.reg [yS 0 50 .mov [oT 9], yS 1 51 (.fld 4) [oT 6], yS 2 52 (.ld none) [oT 51], yS 3 53 .lenS [oT 52], yS 4 54 (.bin .lss 0) [oT 50, oT 53]]) (.cond (oT 54) .skip (.exit 0))) (.seq (.block 1 (.seq (.reg [yS 0 57 (.ld (some 3)) [oT 7], yS 1 58 (.fld 3) [oT 6], yS 2 59 (.ld none) [oT 58], yS 3 60 .mov [oT 8], yS 4 61 (.fld 4) [oT 6], yS 5 62 (.ld none) [oT 61], yS 6 63 .mov [oT 9], yS 7 64 (.ixS 1) [oT 62, oT 63], yS 8 65 (.ld none) [oT 64], yS 10 67 (.fld 4) [oT 6], ⟨none, (.ld none), [oT 67], some 68, 11, true, []⟩, yS 12 69 .mov [oT 9], yS 13 70 (.ixS 1) [oT 68, oT 69], ⟨none, (.ld none), [oT 70], some 71, 14, true, []⟩, ⟨none, .call, [oF 57, oT 57, oT 59, oT 60, oT 65], some 66, 9, false, [14, 11]⟩, yS 15 72 .call [oF 40, oT 66, oT 71], yS 16 73 (.un .not) [oT 72]]) (.cond (oT 73) (.seq (.reg [yS 0 4 .mov [oC (.bool false)]]) .ret) .skip))) (.reg [yS 0 55 .mov [oT 9], yS 1 56 (.bin .add 0) [oT 55, oC (nv 1)], yS 2 9 .mov [oT 56]])))))) (.seq (.seq (.reg [yS 0 74 (.fld 4) [oT 6], yS 1 75 (.ld none) [oT 74], yS 2 76 .lenS [oT 75], yS 3 77 (.bin .eql 0) [oT 76, oC (nv 0)]]) (.cond (oT 77) (.seq (.reg [yS 0 78 .mov [oT 8], yS 1 79 .lenS [oT 78], yS 2 80 (.bin .eql 0) [oT 79, oC (nv 0)], yS 3 4 .mov [oT 80]]) .ret) .skip)) (.seq (.reg [⟨none, (.ld (some 3)), [oT 7], some 81, 0, true, []⟩, yS 1 82 (.fld 4) [oT 6], ⟨none, (.ld none), [oT 82], some 83, 2, true, []⟩, yS 3 84 .lenS [oT 83], yS 4 85 (.fld 3) [oT 6], yS 5 86 (.ld none) [oT 85], yS 6 87 (.fld 4) [oT 6], yS 7 88 (.ld none) [oT 87], yS 10 10 (.new [(nv 0), (nv 0), (.slice none 0 0), (nv 0), (.slice none 0 0)] 63) [], ⟨none, .call, [oF 58, oT 86, oT 88], some 89, 8, false, [2, 0]⟩, yS 9 90 (.bld [(nv 0), (nv 0), (.slice none 0 0), (nv 0), (.slice none 0 0)] [(0, 3), (3, 1), (4, 1)]) [oT 81, oT 84, oT 89], yN 11 (.st 5) [oT 10, oT 90]]) (.seq (.seq (.reg [yS 0 11 .mov [oC (nv 0)]]) (.block 2 (.loop [11] 5444517870732539535335422958358493141008 (.seq (.seq (.reg [yS 0 91 .mov [oT 11], yS 1 92 .mov [oT 8], yS 2 93 .lenS [oT 92], yS 3 94 (.bin .lss 0) [oT 91, oT 93]]) (.cond (oT 94) .skip (.exit 2))) (.seq (.block 3 (.seq (.reg [yS 0 97 (.ld (some 5)) [oT 10], yS 1 98 .mov [oT 8], yS 2 99 .mov [oT 11], yS 3 100 (.ixS 1) [oT 98, oT 99], yS 4 101 (.ld none) [oT 100], yS 6 12 (.new [(.slice none 0 0), (nv 0)] 76) [], yS 5 102 .call [oF 44, oT 97, oT 101], yN 7 (.st 2) [oT 12, oT 102]]) (.seq (.reg [yS 0 103 (.fld 1) [oT 12], yS 1 104 (.ld none) [oT 103], yS 2 105 (.bin .neq 0) [oT 104, oC (nv 0)], yS 3 106 .mov [oT 105], yG (some (106, false)) 4 (some 107) (.ld (some 3)) [oT 7], yG (some (106, false)) 5 (some 108) (.fld 4) [oT 6], yG (some (106, false)) 6 (some 109) (.ld none) [oT 108], yG (some (106, false)) 7 (some 110) .lenS [oT 109], yG (some (106, false)) 8 (some 111) (.fld 0) [oT 12], yG (some (106, false)) 9 (some 112) (.ld none) [oT 111], yG (some (106, false)) 10 (some 113) .call [oF 59, oT 107, oT 110, oT 112], yG (some (106, false)) 11 (some 114) (.un .not) [oT 113], yS 12 115 .pick [oT 106, oC (.bool true), oT 114], yS 13 116 .mov [oT 115], yG (some (116, false)) 14 (some 117) (.ld (some 3)) [oT 7], yG (some (116, false)) 15 (some 118) (.fld 3) [oT 6], yG (some (116, false)) 16 (some 119) (.ld none) [oT 118], yG (some (116, false)) 17 (some 120) (.fld 4) [oT 6], yG (some (116, false)) 18 (some 121) (.ld none) [oT 120], yG (some (116, false)) 19 (some 122) (.fld 0) [oT 12], yG (some (116, false)) 20 (some 123) (.ld none) [oT 122], yG (some (116, false)) 22 (some 125) .mov [oT 8], yG (some (116, false)) 23 (some 126) .mov [oT 11], yG (some (116, false)) 24 (some 127) (.ixS 1) [oT 125, oT 126], ⟨(some (116, false)), (.ld none), [oT 127], some 128, 25, true, []⟩, ⟨(some (116, false)), .call, [oF 60, oT 117, oT 119, oT 121, oT 123], some 124, 21, false, [25]⟩, yG (some (116, false)) 26 (some 129) .call [oF 40, oT 124, oT 128], yG (some (116, false)) 27 (some 130) (.un .not) [oT 129], yS 28 131 .pick [oT 116, oC (.bool true), oT 130]]) (.cond (oT 131) (.seq (.reg [yS 0 4 .mov [oC (.bool false)]]) .ret) .skip)))) (.reg [yS 0 95 .mov [oT 11], yS 1 96 (.bin .add 0) [oT 95, oC (nv 1)], yS 2 11 .mov [oT 96]])))))) (.seq (.reg [yS 0 132 (.ixA 5 1) [oT 3, oC (nv 0)], yS 1 133 (.ld none) [oT 132], yS 2 134 (.conv .i64) [oT 133], yS 3 135 (.fld 4) [oT 6], yS 4 136 (.ld none) [oT 135], yS 5 137 .lenS [oT 136], yS 6 138 (.bin .rem 0) [oT 134, oT 137], yS 7 13 .mov [oT 138]]) (.seq (.reg [yS 0 139 (.ixA 5 1) [oT 3, oC (nv 1)], yS 1 140 (.ld none) [oT 139], yS 2 141 (.conv .i64) [oT 140], yS 3 142 (.fld 4) [oT 6], yS 4 143 (.ld none) [oT 142], yS 5 144 .lenS [oT 143], yS 6 145 (.bin .rem 0) [oT 141, oT 144], yS 7 14 .mov [oT 145]]) (.seq (.reg [yS 0 146 (.bsl [] 0 [] 26) [], yS 1 147 (.fld 4) [oT 6], yS 2 148 (.ld none) [oT 147], yS 3 149 (.app 26 1 24) [oT 146, oT 148], yS 4 15 .mov [oT 149]]) (.seq (.reg [yS 0 150 .mov [oT 15], yS 1 151 .mov [oT 13], yS 2 152 (.fld 4) [oT 6], yS 3 153 (.ld none) [oT 152], yS 4 154 .mov [oT 14], yS 5 155 (.ixS 1) [oT 153, oT 154], yS 6 156 (.ld none) [oT 155], yS 7 157 (.ixS 1) [oT 150, oT 151], yN 8 (.st 1) [oT 157, oT 156]]) (.seq (.reg [yS 0 158 .mov [oT 15], yS 1 159 .mov [oT 14], yS 2 160 (.fld 4) [oT 6], yS 3 161 (.ld none) [oT 160], yS 4 162 .mov [oT 13], yS 5 163 (.ixS 1) [oT 161, oT 162], yS 6 164 (.ld none) [oT 163], yS 7 165 (.ixS 1) [oT 158, oT 159], yN 8 (.st 1) [oT 165, oT 164]]) (.join [] 392318764925562758561950073914649857164283957299319406592 (.seq (.reg [yS 0 166 .mov [oT 13], yS 1 167 .mov [oT 14], yS 2 168 (.bin .neq 0) [oT 166, oT 167]]) (.cond (oT 168) (.reg [yS 0 169 .mov [oT 15], yS 1 170 .mov [oT 13], ⟨none, (.ld (some 3)), [oT 7], some 171, 2, true, []⟩, yS 3 172 .mov [oT 15], yS 4 173 .mov [oT 13], yS 5 174 (.ixS 1) [oT 172, oT 173], ⟨none, (.ld none), [oT 174], some 175, 6, true, []⟩, yS 7 176 (.ixA 5 1) [oT 3, oC (nv 2)], ⟨none, (.ld none), [oT 176], some 177, 8, true, []⟩, yS 9 178 (.conv .i64) [oT 177], yS 10 179 (.ld (some 3)) [oT 7], yS 13 182 .mov [oT 15], yS 14 183 .mov [oT 14], yS 15 184 (.ixS 1) [oT 182, oT 183], ⟨none, (.ld none), [oT 184], some 185, 16, true, []⟩, ⟨none, .call, [oF 62, oT 179], some 180, 11, false, [16, 8, 6, 2]⟩, yS 12 181 (.bin .rem 0) [oT 178, oT 180], yS 17 186 .call [oF 61, oT 171, oT 175, oT 181, oT 185], yS 18 187 (.ixS 1) [oT 169, oT 170], yN 19 (.st 1) [oT 187, oT 186]]) .skip)) (.seq (.reg [yS 0 188 (.ixA 5 1) [oT 3, oC (nv 3)], ⟨none, (.ld none), [oT 188], some 189, 1, true, []⟩, yS 2 190 (.conv .i64) [oT 189], yS 3 191 (.ld (some 3)) [oT 7], ⟨none, .call, [oF 62, oT 191], some 192, 4, false, [1]⟩, yS 5 193 (.bin .sub 0) [oT 192, oC (nv 1)], yS 6 194 (.bin .rem 0) [oT 190, oT 193], yS 7 195 (.bin .add 0) [oC (nv 1), oT 194], yS 8 16 .mov [oT 195]]) (.seq (.reg [yS 0 196 .mov [oT 15], yS 1 197 .mov [oT 14], yS 2 198 (.ld (some 3)) [oT 7], yS 3 199 .mov [oT 16], yS 4 200 .mov [oT 15], yS 5 201 .mov [oT 14], yS 6 202 (.ixS 1) [oT 200, oT 201], yS 7 203 (.ld none) [oT 202], yS 8 204 .call [oF 63, oT 198, oT 199, oT 203], yS 9 205 (.ixS 1) [oT 196, oT 197], yN 10 (.st 1) [oT 205, oT 204]]) (.seq (.reg [yS 0 206 .mov [oT 5], yS 1 207 .mov [oT 206], yG (some (207, true)) 2 (some 208) (.ld (some 3)) [oT 7], yG (some (207, true)) 3 (some 209) .mov [oT 15], yG (some (207, true)) 4 (some 210) .call [oF 35, oT 208, oT 209], yG (some (207, true)) 5 (some 211) .mov [oT 8], yG (some (207, true)) 6 (some 212) .call [oF 34, oT 210, oT 211], yS 7 213 .pick [oT 207, oT 212, oC (.bool false)], yS 8 214 .mov [oT 213], yG (some (214, true)) 9 (some 215) (.ld (some 3)) [oT 7], yG (some (214, true)) 10 (some 216) .mov [oT 8], yG (some (214, true)) 11 (some 217) .call [oF 35, oT 215, oT 216], yG (some (214, true)) 12 (some 218) .mov [oT 8], yG (some (214, true)) 13 (some 219) .call [oF 34, oT 217, oT 218], yS 14 220 .pick [oT 214, oT 219, oC (.bool false)], yS 15 4 .mov [oT 220]]) .ret))))))))))))))))))))
theorem xd8_ok : compF Try.prog 8 = some ⟨221, [(.tmp 4)], xd8.er⟩ := by kernel_rfl
def g8 (x0 z1 : Value) (H : AH) (R : Value → AH → Prop) : Prop :=
 @letH (H ++ [.cells (cellsL x0) 58 none false]) ⟨fun H1 =>
 @letH (H1 ++ [.cells (cellsL z1) 59 none false]) ⟨fun H2 =>
 @cG 29 [] H2 ⟨fun v17 H3 =>
 @bindO (eun .not v17) ⟨fun v19 =>
 @condK v19 ⟨fun q => if q = true then R (.bool false) H3 else
 @bindO (xload (some 4) H3 [(.pointer (some ⟨H.length, 0, none⟩))]) ⟨fun v20 =>
 @cG 30 [v20] H3 ⟨fun v21 H4 =>
 @letH (H4 ++ [.cells [(nv 0), (nv 0), (.slice none 0 0), (nv 0), (.slice none 0 0)] 63 none false]) ⟨fun H5 =>
 @bindP (xact (.st 5) H5 [(.pointer (some ⟨H4.length, 0, none⟩)), v21]) ⟨fun _v H6 =>
 @bindO (xpure (.fld 0) [(.pointer (some ⟨H4.length, 0, none⟩))]) ⟨fun v22 =>
 @bindO (xload (some 3) H6 [v22]) ⟨fun v23 =>
 @letH (H6 ++ [.cells [(nv 0), (nv 0), (.slice none 0 0)] 61 none false]) ⟨fun H7 =>
 @bindP (xact (.st 3) H7 [(.pointer (some ⟨H6.length, 0, none⟩)), v23]) ⟨fun _v H8 =>
 @bindO (xload (some 3) H8 [(.pointer (some ⟨H6.length, 0, none⟩))]) ⟨fun v24 =>
 @bindO (xpure (.fld 4) [(.pointer (some ⟨H4.length, 0, none⟩))]) ⟨fun v25 =>
 @bindO (xload none H8 [v25]) ⟨fun v26 =>
 @cG 35 [v24, v26] H8 ⟨fun v27 H9 =>
 @bindO (xpure (.fld 3) [(.pointer (some ⟨H4.length, 0, none⟩))]) ⟨fun v28 =>
 @bindO (xload none H9 [v28]) ⟨fun v29 =>
 @cG 56 [v29, v27] H9 ⟨fun v31 H10 =>
 @bindO (eun .not v31) ⟨fun v32 =>
 @guardJ (asNB v32) (fun J1 => @bindO (xload (some 3) H10 [(.pointer (some ⟨H6.length, 0, none⟩))]) ⟨fun v34 =>
 J1 v34 H10⟩) H10 ⟨fun v34a H11 =>
 @guardJ (asNB v32) (fun J2 => @bindO (xpure (.fld 4) [(.pointer (some ⟨H4.length, 0, none⟩))]) ⟨fun v35 =>
 J2 v35 H11⟩) H11 ⟨fun v35a H12 =>
 @guardJ (asNB v32) (fun J3 => @bindO (xload none H12 [v35a]) ⟨fun v36 =>
 J3 v36 H12⟩) H12 ⟨fun v36a H13 =>
 @guardJ (asNB v32) (fun J4 => @cG 37 [v34a, v36a] H13 ⟨fun v37 H14 =>
 J4 v37 H14⟩) H13 ⟨fun v37a H15 =>
 @guardJ (asNB v32) (fun J5 => J5 v27 H15) H15 ⟨fun v38 H16 =>
 @guardJ (asNB v32) (fun J6 => @bindO (xpure .lenS [v38]) ⟨fun v39 =>
 J6 v39 H16⟩) H16 ⟨fun v39a H17 =>
 @guardJ (asNB v32) (fun J7 => @bindO (xbin .neq 0 v37a v39a) ⟨fun v40 =>
 J7 v40 H17⟩) H17 ⟨fun v40a H18 =>
 @pickK v32 (.bool true) v40a ⟨fun v41 =>
 @guardJ (asNB v41) (fun J8 => @bindO (xload (some 3) H18 [(.pointer (some ⟨H6.length, 0, none⟩))]) ⟨fun v43 =>
 J8 v43 H18⟩) H18 ⟨fun v43a H19 =>
 @guardJ (asNB v41) (fun J9 => @bindO (xpure (.fld 3) [(.pointer (some ⟨H4.length, 0, none⟩))]) ⟨fun v44 =>
 J9 v44 H19⟩) H19 ⟨fun v44a H20 =>
 @guardJ (asNB v41) (fun J10 => @bindO (xload none H20 [v44a]) ⟨fun v45 =>
 J10 v45 H20⟩) H20 ⟨fun v45a H21 =>
 @guardJ (asNB v41) (fun J11 => J11 v27 H21) H21 ⟨fun v46 H22 =>
 @guardJ (asNB v41) (fun J12 => @cG 55 [v43a, v45a, v46] H22 ⟨fun v47 H23 =>
 J12 v47 H23⟩) H22 ⟨fun v47a H24 =>
 @guardJ (asNB v41) (fun J13 => @bindO (eun .not v47a) ⟨fun v48 =>
 J13 v48 H24⟩) H24 ⟨fun v48a H25 =>
 @pickK v41 (.bool true) v48a ⟨fun v49 =>
 @condK v49 ⟨fun q => if q = true then R (.bool false) H25 else
 @loopV1 (nv 0) H25 ⟨fun i9 H26 K14 =>
 @bindO (xpure (.fld 4) [(.pointer (some ⟨H4.length, 0, none⟩))]) ⟨fun v51 =>
 @bindO (xload none H26 [v51]) ⟨fun v52 =>
 @bindO (xpure .lenS [v52]) ⟨fun v53 =>
 @bindO (xbin .lss 0 i9 v53) ⟨fun v54 =>
 @condK v54 ⟨fun q => if q = true then @bindO (xload (some 3) H26 [(.pointer (some ⟨H6.length, 0, none⟩))]) ⟨fun v57 =>
 @bindO (xpure (.fld 3) [(.pointer (some ⟨H4.length, 0, none⟩))]) ⟨fun v58 =>
 @bindO (xload none H26 [v58]) ⟨fun v59 =>
 @bindO (xpure (.fld 4) [(.pointer (some ⟨H4.length, 0, none⟩))]) ⟨fun v61 =>
 @bindO (xload none H26 [v61]) ⟨fun v62 =>
 @bindO (xpure (.ixS 1) [v62, i9]) ⟨fun v64 =>
 @bindO (xload none H26 [v64]) ⟨fun v65 =>
 @bindO (xpure (.fld 4) [(.pointer (some ⟨H4.length, 0, none⟩))]) ⟨fun v67 =>
 @bindO (xload none H26 [v67]) ⟨fun v68 =>
 @bindO (xpure (.ixS 1) [v68, i9]) ⟨fun v70 =>
 @bindO (xload none H26 [v70]) ⟨fun v71 =>
 @cG 57 [v57, v59, v27, v65] H26 ⟨fun v66 H27 =>
 (chkX [14, 11] (⟨14, none, [v70], v71⟩ :: (⟨11, none, [v67], v68⟩ :: [])) H27 ∧ @cG 40 [v66, v71] H27 ⟨fun v72 H28 =>
 @bindO (eun .not v72) ⟨fun v73 =>
 @condK v73 ⟨fun q => if q = true then R (.bool false) H28 else
 @bindO (xbin .add 0 i9 (nv 1)) ⟨fun v56 =>
 K14 v56 H28⟩⟩⟩⟩)⟩⟩⟩⟩⟩⟩⟩⟩⟩⟩⟩⟩ else
 @bindO (xpure (.fld 4) [(.pointer (some ⟨H4.length, 0, none⟩))]) ⟨fun v74 =>
 @bindO (xload none H26 [v74]) ⟨fun v75 =>
 @bindO (xpure .lenS [v75]) ⟨fun v76 =>
 @bindO (xbin .eql 0 v76 (nv 0)) ⟨fun v77 =>
 @condK v77 ⟨fun q => if q = true then @bindO (xpure .lenS [v27]) ⟨fun v79 =>
 @bindO (xbin .eql 0 v79 (nv 0)) ⟨fun v80 =>
 R v80 H26⟩⟩ else
 @bindO (xload (some 3) H26 [(.pointer (some ⟨H6.length, 0, none⟩))]) ⟨fun v81 =>
 @bindO (xpure (.fld 4) [(.pointer (some ⟨H4.length, 0, none⟩))]) ⟨fun v82 =>
 @bindO (xload none H26 [v82]) ⟨fun v83 =>
 @bindO (xpure .lenS [v83]) ⟨fun v84 =>
 @bindO (xpure (.fld 3) [(.pointer (some ⟨H4.length, 0, none⟩))]) ⟨fun v85 =>
 @bindO (xload none H26 [v85]) ⟨fun v86 =>
 @bindO (xpure (.fld 4) [(.pointer (some ⟨H4.length, 0, none⟩))]) ⟨fun v87 =>
 @bindO (xload none H26 [v87]) ⟨fun v88 =>
 @letH (H26 ++ [.cells [(nv 0), (nv 0), (.slice none 0 0), (nv 0), (.slice none 0 0)] 63 none false]) ⟨fun H29 =>
 @cG 58 [v86, v88] H29 ⟨fun v89 H30 =>
 (chkX [2, 0] (⟨2, none, [v82], v83⟩ :: (⟨0, (some 3), [(.pointer (some ⟨H6.length, 0, none⟩))], v81⟩ :: [])) H30 ∧ @bindL (xfill [(nv 0), (nv 0), (.slice none 0 0), (nv 0), (.slice none 0 0)] [(0, 3), (3, 1), (4, 1)] [v81, v84, v89]) ⟨fun v90 =>
 @bindP (xact (.st 5) H30 [(.pointer (some ⟨H26.length, 0, none⟩)), (.agg v90.toArray)]) ⟨fun _v H31 =>
 @loopV1 (nv 0) H31 ⟨fun i11 H32 K15 =>
 @bindO (xpure .lenS [v27]) ⟨fun v93 =>
 @bindO (xbin .lss 0 i11 v93) ⟨fun v94 =>
 @condK v94 ⟨fun q => if q = true then @bindO (xload (some 5) H32 [(.pointer (some ⟨H26.length, 0, none⟩))]) ⟨fun v97 =>
 @bindO (xpure (.ixS 1) [v27, i11]) ⟨fun v100 =>
 @bindO (xload none H32 [v100]) ⟨fun v101 =>
 @letH (H32 ++ [.cells [(.slice none 0 0), (nv 0)] 76 none false]) ⟨fun H33 =>
 @cG 44 [v97, v101] H33 ⟨fun v102 H34 =>
 @bindP (xact (.st 2) H34 [(.pointer (some ⟨H32.length, 0, none⟩)), v102]) ⟨fun _v H35 =>
 @bindO (xpure (.fld 1) [(.pointer (some ⟨H32.length, 0, none⟩))]) ⟨fun v103 =>
 @bindO (xload none H35 [v103]) ⟨fun v104 =>
 @bindO (xbin .neq 0 v104 (nv 0)) ⟨fun v105 =>
 @guardJ (asNB v105) (fun J16 => @bindO (xload (some 3) H35 [(.pointer (some ⟨H6.length, 0, none⟩))]) ⟨fun v107 =>
 J16 v107 H35⟩) H35 ⟨fun v107a H36 =>
 @guardJ (asNB v105) (fun J17 => @bindO (xpure (.fld 4) [(.pointer (some ⟨H4.length, 0, none⟩))]) ⟨fun v108 =>
 J17 v108 H36⟩) H36 ⟨fun v108a H37 =>
 @guardJ (asNB v105) (fun J18 => @bindO (xload none H37 [v108a]) ⟨fun v109 =>
 J18 v109 H37⟩) H37 ⟨fun v109a H38 =>
 @guardJ (asNB v105) (fun J19 => @bindO (xpure .lenS [v109a]) ⟨fun v110 =>
 J19 v110 H38⟩) H38 ⟨fun v110a H39 =>
 @guardJ (asNB v105) (fun J20 => @bindO (xpure (.fld 0) [(.pointer (some ⟨H32.length, 0, none⟩))]) ⟨fun v111 =>
 J20 v111 H39⟩) H39 ⟨fun v111a H40 =>
 @guardJ (asNB v105) (fun J21 => @bindO (xload none H40 [v111a]) ⟨fun v112 =>
 J21 v112 H40⟩) H40 ⟨fun v112a H41 =>
 @guardJ (asNB v105) (fun J22 => @cG 59 [v107a, v110a, v112a] H41 ⟨fun v113 H42 =>
 J22 v113 H42⟩) H41 ⟨fun v113a H43 =>
 @guardJ (asNB v105) (fun J23 => @bindO (eun .not v113a) ⟨fun v114 =>
 J23 v114 H43⟩) H43 ⟨fun v114a H44 =>
 @pickK v105 (.bool true) v114a ⟨fun v115 =>
 @guardJ (asNB v115) (fun J24 => @bindO (xload (some 3) H44 [(.pointer (some ⟨H6.length, 0, none⟩))]) ⟨fun v117 =>
 J24 v117 H44⟩) H44 ⟨fun v117a H45 =>
 @guardJ (asNB v115) (fun J25 => @bindO (xpure (.fld 3) [(.pointer (some ⟨H4.length, 0, none⟩))]) ⟨fun v118 =>
 J25 v118 H45⟩) H45 ⟨fun v118a H46 =>
 @guardJ (asNB v115) (fun J26 => @bindO (xload none H46 [v118a]) ⟨fun v119 =>
 J26 v119 H46⟩) H46 ⟨fun v119a H47 =>
 @guardJ (asNB v115) (fun J27 => @bindO (xpure (.fld 4) [(.pointer (some ⟨H4.length, 0, none⟩))]) ⟨fun v120 =>
 J27 v120 H47⟩) H47 ⟨fun v120a H48 =>
 @guardJ (asNB v115) (fun J28 => @bindO (xload none H48 [v120a]) ⟨fun v121 =>
 J28 v121 H48⟩) H48 ⟨fun v121a H49 =>
 @guardJ (asNB v115) (fun J29 => @bindO (xpure (.fld 0) [(.pointer (some ⟨H32.length, 0, none⟩))]) ⟨fun v122 =>
 J29 v122 H49⟩) H49 ⟨fun v122a H50 =>
 @guardJ (asNB v115) (fun J30 => @bindO (xload none H50 [v122a]) ⟨fun v123 =>
 J30 v123 H50⟩) H50 ⟨fun v123a H51 =>
 @guardJ (asNB v115) (fun J31 => J31 v27 H51) H51 ⟨fun v125 H52 =>
 @guardJ (asNB v115) (fun J32 => J32 i11 H52) H52 ⟨fun v126 H53 =>
 @guardJ (asNB v115) (fun J33 => @bindO (xpure (.ixS 1) [v125, v126]) ⟨fun v127 =>
 J33 v127 H53⟩) H53 ⟨fun v127a H54 =>
 @guardJ (asNB v115) (fun J34 => @bindO (xload none H54 [v127a]) ⟨fun v128 =>
 J34 v128 H54⟩) H54 ⟨fun v128a H55 => @letD (bif (asNB v115) then ⟨25, none, [v127a], v128a⟩ :: [] else []) ⟨fun D1 =>
 @guardJ (asNB v115) (fun J35 => @cG 60 [v117a, v119a, v121a, v123a] H55 ⟨fun v124 H56 =>
 (chkX [25] D1 H56 ∧ J35 v124 H56)⟩) H55 ⟨fun v124a H57 =>
 @guardJ (asNB v115) (fun J36 => @cG 40 [v124a, v128a] H57 ⟨fun v129 H58 =>
 J36 v129 H58⟩) H57 ⟨fun v129a H59 =>
 @guardJ (asNB v115) (fun J37 => @bindO (eun .not v129a) ⟨fun v130 =>
 J37 v130 H59⟩) H59 ⟨fun v130a H60 =>
 @pickK v115 (.bool true) v130a ⟨fun v131 =>
 @condK v131 ⟨fun q => if q = true then R (.bool false) H60 else
 @bindO (xbin .add 0 i11 (nv 1)) ⟨fun v96 =>
 K15 v96 H60⟩⟩⟩⟩⟩⟩⟩⟩⟩⟩⟩⟩⟩⟩⟩⟩⟩⟩⟩⟩⟩⟩⟩⟩⟩⟩⟩⟩⟩⟩⟩⟩⟩⟩⟩⟩ else
 @bindO (xpure (.ixA 5 1) [(.pointer (some ⟨H1.length, 0, none⟩)), (nv 0)]) ⟨fun v132 =>
 @bindO (xload none H32 [v132]) ⟨fun v133 =>
 @bindO (xpure (.conv .i64) [v133]) ⟨fun v134 =>
 @bindO (xpure (.fld 4) [(.pointer (some ⟨H4.length, 0, none⟩))]) ⟨fun v135 =>
 @bindO (xload none H32 [v135]) ⟨fun v136 =>
 @bindO (xpure .lenS [v136]) ⟨fun v137 =>
 @bindO (xbin .rem 0 v134 v137) ⟨fun v138 =>
 @bindO (xpure (.ixA 5 1) [(.pointer (some ⟨H1.length, 0, none⟩)), (nv 1)]) ⟨fun v139 =>
 @bindO (xload none H32 [v139]) ⟨fun v140 =>
 @bindO (xpure (.conv .i64) [v140]) ⟨fun v141 =>
 @bindO (xpure (.fld 4) [(.pointer (some ⟨H4.length, 0, none⟩))]) ⟨fun v142 =>
 @bindO (xload none H32 [v142]) ⟨fun v143 =>
 @bindO (xpure .lenS [v143]) ⟨fun v144 =>
 @bindO (xbin .rem 0 v141 v144) ⟨fun v145 =>
 @bindL (xfill [] [] []) ⟨fun cv146 => @letH (H32 ++ [.cells cv146 26 none false]) ⟨fun H61 =>
 @bindO (xpure (.fld 4) [(.pointer (some ⟨H4.length, 0, none⟩))]) ⟨fun v147 =>
 @bindO (xload none H61 [v147]) ⟨fun v148 =>
 @bindP (xact (.app 26 1 24) H61 [(.slice (some ⟨H32.length, 0, none⟩) 0 0), v148]) ⟨fun v149 H62 =>
 @bindO (xpure (.fld 4) [(.pointer (some ⟨H4.length, 0, none⟩))]) ⟨fun v152 =>
 @bindO (xload none H62 [v152]) ⟨fun v153 =>
 @bindO (xpure (.ixS 1) [v153, v145]) ⟨fun v155 =>
 @bindO (xload none H62 [v155]) ⟨fun v156 =>
 @bindO (xpure (.ixS 1) [v149, v138]) ⟨fun v157 =>
 @bindP (xact (.st 1) H62 [v157, v156]) ⟨fun _v H63 =>
 @bindO (xpure (.fld 4) [(.pointer (some ⟨H4.length, 0, none⟩))]) ⟨fun v160 =>
 @bindO (xload none H63 [v160]) ⟨fun v161 =>
 @bindO (xpure (.ixS 1) [v161, v138]) ⟨fun v163 =>
 @bindO (xload none H63 [v163]) ⟨fun v164 =>
 @bindO (xpure (.ixS 1) [v149, v145]) ⟨fun v165 =>
 @bindP (xact (.st 1) H63 [v165, v164]) ⟨fun _v H64 =>
 @joinV0 (fun J38 => @bindO (xbin .neq 0 v138 v145) ⟨fun v168 =>
 @condK v168 ⟨fun q => if q = true then @bindO (xload (some 3) H64 [(.pointer (some ⟨H6.length, 0, none⟩))]) ⟨fun v171 =>
 @bindO (xpure (.ixS 1) [v149, v138]) ⟨fun v174 =>
 @bindO (xload none H64 [v174]) ⟨fun v175 =>
 @bindO (xpure (.ixA 5 1) [(.pointer (some ⟨H1.length, 0, none⟩)), (nv 2)]) ⟨fun v176 =>
 @bindO (xload none H64 [v176]) ⟨fun v177 =>
 @bindO (xpure (.conv .i64) [v177]) ⟨fun v178 =>
 @bindO (xload (some 3) H64 [(.pointer (some ⟨H6.length, 0, none⟩))]) ⟨fun v179 =>
 @bindO (xpure (.ixS 1) [v149, v145]) ⟨fun v184 =>
 @bindO (xload none H64 [v184]) ⟨fun v185 =>
 @cG 62 [v179] H64 ⟨fun v180 H65 =>
 (chkX [16, 8, 6, 2] (⟨16, none, [v184], v185⟩ :: (⟨8, none, [v176], v177⟩ :: (⟨6, none, [v174], v175⟩ :: (⟨2, (some 3), [(.pointer (some ⟨H6.length, 0, none⟩))], v171⟩ :: [])))) H65 ∧ @bindO (xbin .rem 0 v178 v180) ⟨fun v181 =>
 @cG 61 [v171, v175, v181, v185] H65 ⟨fun v186 H66 =>
 @bindO (xpure (.ixS 1) [v149, v138]) ⟨fun v187 =>
 @bindP (xact (.st 1) H66 [v187, v186]) ⟨fun _v H67 =>
 J38 H67⟩⟩⟩⟩)⟩⟩⟩⟩⟩⟩⟩⟩⟩⟩ else
 J38 H64⟩⟩) ⟨fun H68 =>
 @bindO (xpure (.ixA 5 1) [(.pointer (some ⟨H1.length, 0, none⟩)), (nv 3)]) ⟨fun v188 =>
 @bindO (xload none H68 [v188]) ⟨fun v189 =>
 @bindO (xpure (.conv .i64) [v189]) ⟨fun v190 =>
 @bindO (xload (some 3) H68 [(.pointer (some ⟨H6.length, 0, none⟩))]) ⟨fun v191 =>
 @cG 62 [v191] H68 ⟨fun v192 H69 =>
 (chkX [1] (⟨1, none, [v188], v189⟩ :: []) H69 ∧ @bindO (xbin .sub 0 v192 (nv 1)) ⟨fun v193 =>
 @bindO (xbin .rem 0 v190 v193) ⟨fun v194 =>
 @bindO (xbin .add 0 (nv 1) v194) ⟨fun v195 =>
 @bindO (xload (some 3) H69 [(.pointer (some ⟨H6.length, 0, none⟩))]) ⟨fun v198 =>
 @bindO (xpure (.ixS 1) [v149, v145]) ⟨fun v202 =>
 @bindO (xload none H69 [v202]) ⟨fun v203 =>
 @cG 63 [v198, v195, v203] H69 ⟨fun v204 H70 =>
 @bindO (xpure (.ixS 1) [v149, v145]) ⟨fun v205 =>
 @bindP (xact (.st 1) H70 [v205, v204]) ⟨fun _v H71 =>
 @guardJ (asB v17) (fun J39 => @bindO (xload (some 3) H71 [(.pointer (some ⟨H6.length, 0, none⟩))]) ⟨fun v208 =>
 J39 v208 H71⟩) H71 ⟨fun v208a H72 =>
 @guardJ (asB v17) (fun J40 => J40 v149 H72) H72 ⟨fun v209 H73 =>
 @guardJ (asB v17) (fun J41 => @cG 35 [v208a, v209] H73 ⟨fun v210 H74 =>
 J41 v210 H74⟩) H73 ⟨fun v210a H75 =>
 @guardJ (asB v17) (fun J42 => J42 v27 H75) H75 ⟨fun v211 H76 =>
 @guardJ (asB v17) (fun J43 => @cG 34 [v210a, v211] H76 ⟨fun v212 H77 =>
 J43 v212 H77⟩) H76 ⟨fun v212a H78 =>
 @pickK v17 v212a (.bool false) ⟨fun v213 =>
 @guardJ (asB v213) (fun J44 => @bindO (xload (some 3) H78 [(.pointer (some ⟨H6.length, 0, none⟩))]) ⟨fun v215 =>
 J44 v215 H78⟩) H78 ⟨fun v215a H79 =>
 @guardJ (asB v213) (fun J45 => J45 v27 H79) H79 ⟨fun v216 H80 =>
 @guardJ (asB v213) (fun J46 => @cG 35 [v215a, v216] H80 ⟨fun v217 H81 =>
 J46 v217 H81⟩) H80 ⟨fun v217a H82 =>
 @guardJ (asB v213) (fun J47 => J47 v27 H82) H82 ⟨fun v218 H83 =>
 @guardJ (asB v213) (fun J48 => @cG 34 [v217a, v218] H83 ⟨fun v219 H84 =>
 J48 v219 H84⟩) H83 ⟨fun v219a H85 =>
 @pickK v213 v219a (.bool false) ⟨fun v220 =>
 R v220 H85⟩⟩⟩⟩⟩⟩⟩⟩⟩⟩⟩⟩⟩⟩⟩⟩⟩⟩⟩⟩⟩)⟩⟩⟩⟩⟩⟩⟩⟩⟩⟩⟩⟩⟩⟩⟩⟩⟩⟩⟩⟩⟩⟩⟩⟩⟩⟩⟩⟩⟩⟩⟩⟩⟩⟩⟩⟩⟩⟩⟩⟩⟩⟩⟩)⟩⟩⟩⟩⟩⟩⟩⟩⟩⟩⟩⟩⟩⟩⟩⟩⟩⟩⟩⟩⟩⟩⟩⟩⟩⟩⟩⟩⟩⟩⟩⟩⟩⟩⟩⟩⟩⟩⟩⟩⟩⟩⟩⟩⟩⟩⟩⟩⟩⟩⟩⟩⟩⟩⟩⟩⟩⟩
theorem g8_of {x0 z1 : Value} {H : AH} {R : Value → AH → Prop} (h : g8 x0 z1 H R) : FN Try.prog 8 [x0, z1] H R :=
  FN.of_XD mixed xd8_ok (by kernel_rfl) (Nat.le_of_ble_eq_true rfl) (cast (by kernel_rfl) h)
end Go.Sim

namespace Go.Sim
open Go Go.Proofs
section
variable {α : Type} [Fl α] [DecidableEq α] {cd : α → Nat} {p e b c q : Nat} {blk : AB} {H : AH}
theorem evs_nv (xs : List α) : evs cd xs = (xs.map cd).map nv := by simp [evs, Function.comp_def]
theorem evr_nv (xss : List (List α)) : evr cd xss = (xss.map fun l => l.map cd).map fun l => l.map nv := by simp [evs, Function.comp_def]
theorem map_inj' (F : FOK α cd p e b c q blk) : ∀ {xs ys : List α}, xs.map cd = ys.map cd → xs = ys
  | [], [], _ => rfl
  | [], _ :: _, h => by simp at h
  | _ :: _, [], h => by simp at h
  | x :: xs, y :: ys, h => by
    simp only [List.map_cons, List.cons.injEq] at h
    rw [F.inj _ _ h.1, map_inj' F h.2]
theorem same_e (F : FOK α cd p e b c q blk) {v w : Value} {xs ys : List α} (hv : Row H v (evs cd xs)) (hw : Row H w (evs cd ys)) (hx : xs.length ≤ 1000) : FN Try.prog 40 [v, w] H (fun r H' => r = .bool (decide (xs = ys)) ∧ H' = H) := by
  rw [evs_nv] at hv hw
  refine (same_c hv hw (by rw [List.length_map]; omega)).mono ?_
  rintro r H' ⟨rfl, rfl⟩
  refine ⟨?_, rfl⟩
  congr 1
  rw [decide_eq_decide]
  exact ⟨map_inj' F, fun h => by rw [h]⟩
theorem alike_e {v w : Value} {A B : List (List α)} (hv : RowR H v (evr cd A)) (hw : RowR H w (evr cd B)) (hA : A.length ≤ 1000) (hA2 : ∀ x ∈ A, x.length ≤ 1000) (he : A = B) : FN Try.prog 34 [v, w] H (fun r H' => r = .bool true ∧ H' = H) := by
  subst he
  rw [evr_nv] at hv hw
  refine (alike_c hv hw (by rw [List.length_map]; omega) (fun l hl => by obtain ⟨x, hx, rfl⟩ := List.mem_map.1 hl; rw [List.length_map]; have := hA2 x hx; omega)).mono ?_
  rintro r H' ⟨rfl, rfl⟩
  exact ⟨by simp, rfl⟩
end
section
variable {α : Type} [Fl α] [DecidableEq α]
end
abbrev rawv (k n m : Nat) (x : Value) : Value := .agg [.int .u8 (k : Int), .int .u8 (n : Int), .int .u8 (m : Int), x].toArray
end Go.Sim

namespace Go.Sim
open Go Go.Proofs
theorem joinV0.mid {first : (AH → Prop) → Prop} {r : AH → Prop} (Q : AH → Prop) (h1 : ∀ J : AH → Prop, (∀ H, Q H → J H) → first J) (h2 : ∀ H, Q H → r H) : @joinV0 first ⟨r⟩ :=
  joinV0.intro fun J hJ => h1 J fun H hq => hJ H (h2 H hq)
end Go.Sim

namespace Go.Sim
open Go Go.Proofs
theorem law8 (hF : FldOK) (hE : ExOK) {H : AH} {x : Value} {us : List Nat} {k n m z0 z1 z2 z3 z4 : Nat} (hk : k < 256) (hn : n < 256) (hm : m < 256) (hz0 : z0 < 256) (hz1 : z1 < 256) (hz2 : z2 < 256) (hz3 : z3 < 256) (hus : ∀ u ∈ us, u < 65536) (hx : Row H x (us.map uv)) :
    FN Try.prog 8 [rawv k n m x, .agg [.int .u8 (z0 : Int), .int .u8 (z1 : Int), .int .u8 (z2 : Int), .int .u8 (z3 : Int), .int .u8 (z4 : Int)].toArray] H (fun r H' => r = .bool true ∧ H' = H) := by
  refine FN.pre0 (g8_of ?_) rfl
  unfold g8
  have hp1 := Pre.new H [.cells [.int .u8 (k : Int), .int .u8 (n : Int), .int .u8 (m : Int), x] 58 none false, .cells [.int .u8 (z0 : Int), .int .u8 (z1 : Int), .int .u8 (z2 : Int), .int .u8 (z3 : Int), .int .u8 (z4 : Int)] 59 none false]
  simp (disch := omega) only [zA, zB, zC, zD, zF, zG, zH, ↓reduceIte]
  refine FZ.use (hE _) ?_
  simp (disch := omega) only [zA, zB, zC, zD, zF, zG, zH, ↓reduceIte]
  refine FZ.mono (made_c hF hk hn hm hus (hx.pre hp1)) ?_
  rintro r H3 ⟨hp3, α, i1, i2, cd, p, e, b, c, q, blk, hb, F, hq, rfl_⟩
  obtain ⟨v, n', A, rfl, hn0, hn8, hA6, hAn, hv⟩ := rfl_
  have hp03 := hp1.trans hp3
  have hz3' := hp3.get (b := H.length + 1) (x := .cells [.int .u8 (z0 : Int), .int .u8 (z1 : Int), .int .u8 (z2 : Int), .int .u8 (z3 : Int), .int .u8 (z4 : Int)] 59 none false) (by simp)
  have hone : one v = true := by obtain ⟨_, h, _⟩ := hv; exact h.1.one
  have s5 := stB_five (H := H3 ++ [.cells [nv 0, nv 0, .slice none 0 0, nv 0, .slice none 0 0] 63 none false]) (bl := H3.length) (x := nv p) (y := nv e) (z := .slice (some ⟨b, 0, none⟩) e c) (u := nv n') (v := v) (c0 := nv 0) (c1 := nv 0) (c2 := .slice none 0 0) (c3 := nv 0) (c4 := .slice none 0 0) (e := 63) (op := none) rfl rfl rfl rfl hone
  rw [set_last] at s5
  have s3 := stB_three (H := H3 ++ [mbx p e b c n' v, .cells [nv 0, nv 0, .slice none 0 0] 61 none false]) (bl := H3.length + 1) (x := nv p) (y := nv e) (z := .slice (some ⟨b, 0, none⟩) e c) (c0 := nv 0) (c1 := nv 0) (c2 := .slice none 0 0) (e := 61) (op := none) rfl rfl rfl
  rw [set_new] at s3
  simp only [List.set_cons_succ, List.set_cons_zero] at s3
  have hpM := Pre.new H3 [mbx p e b c n' v, fbx p e b c]
  have hmM : (H3 ++ [mbx p e b c n' v, fbx p e b c])[H3.length]? = some (mbx p e b c n' v) := by simp
  have hfM : (H3 ++ [mbx p e b c n' v, fbx p e b c])[H3.length + 1]? = some (fbx p e b c) := by simp
  simp (disch := omega) only [zA, zB, zC, zD, zF, zG, zH, ↓reduceIte, s5, s3]
  have hpM0 := hp03.trans hpM
  have hzM := hpM.get hz3'
  generalize hHM : H3 ++ [mbx p e b c n' v, fbx p e b c] = HM at *
  have hbM := hpM.get hb
  have hvM := hv.pre hpM
  refine FZ.mono (reduce_p F hbM hvM hAn (by omega) (by omega) hn0) ?_
  rintro v27 H9 ⟨hp9, hr9⟩
  obtain ⟨r1, r2, r3⟩ := lreduce_red hAn
  have hm9 := hp9.get hmM
  have hf9 := hp9.get hfM
  have hb9 := hp9.get hbM
  have hv9 := hvM.pre hp9
  have hz9 := hp9.get hzM
  obtain ⟨R, hR⟩ : ∃ R, R = lreduce A := ⟨_, rfl⟩
  rw [← hR] at hr9 r1 r2 r3
  have rw1 := r1.piv.1
  obtain ⟨rs, hrs, hrsl, hrr⟩ := hr9.open
  obtain ⟨rl, ri, rd, _⟩ := hrs.allV
  simp (disch := omega) only [zA, zB, zC, zD, zF, zG, zH, ↓reduceIte, hm9]
  refine FZ.use (reduced_c F hr9 r1 (by omega) (by omega)) ?_
  simp (disch := omega) only [zA, zB, zC, zD, zF, zG, zH, ↓reduceIte, hm9, hf9]
  refine FZ.use (rank_p F hb9 hv9 hAn (by omega) (by omega) hn0) ?_
  rw [← hR]
  simp (disch := omega) only [zA, zB, zC, zD, zF, zG, zH, ↓reduceIte, hm9, hf9, rl, hrsl]
  refine FZ.use (valid_r_ok F hb9 hr9 rw1 hn0 (by omega) (by omega)) ?_
  simp (disch := omega) only [zA, zB, zC, zD, zF, zG, zH, ↓reduceIte]
  obtain ⟨as', has, hasl, har⟩ := hv9.open
  refine loopV1.nat A.length (fun i v H' => v = nv i ∧ Pre H9 H') ⟨rfl, Pre.refl _⟩ ?_ ?_
  · rintro i _ H26 hi ⟨rfl, hp26⟩ J hJ
    have hm26 := hp26.get hm9
    have hf26 := hp26.get hf9
    obtain ⟨al, ai, ad, _⟩ := (has.pre hp26).allV
    have hi' : i < as'.length := by omega
    have d1 := ad i hi'
    have rk := (har i hi).pre hp26
    have hAi := row_len hAn hi
    simp (disch := omega) only [zA, zB, zC, zD, zF, zG, zH, ↓reduceIte, hm26, hf26, al, hasl, hi, ai, d1, hi']
    refine FZ.mono (sum_c F (n := n') (hp26.get hb9) (hr9.pre hp26) rk (fun x hx => ⟨rw1 x hx, (r1.row x hx).2.1⟩) hAi (by omega) (by omega)) ?_
    rintro v66 H27 ⟨hp27, hs27⟩
    rw [lsum_eq r1 hAi ((r2 _).2 (LSpan.at_ hi))] at hs27
    have hm27 := hp27.get hm26
    obtain ⟨_, ai7, ad7, _⟩ := ((has.pre hp26).pre hp27).allV
    have d2 := ad7 i hi'
    simp (disch := omega) only [zA, zB, zC, zD, zF, zG, zH, ↓reduceIte, hm27, ai7, d2, hi']
    refine FZ.use (same_e F hs27 (rk.pre hp27) (by omega)) ?_
    simp (disch := omega) only [zA, zB, zC, zD, zF, zG, zH, ↓reduceIte]
    exact hJ _ _ ⟨rfl, hp26.trans hp27⟩
  rintro _ H26 ⟨rfl, hp26⟩ J
  have hm26 := hp26.get hm9
  have hf26 := hp26.get hf9
  have hb26 := hp26.get hb9
  have hv26 := hv9.pre hp26
  have hr26 := hr9.pre hp26
  have hz26 := hp26.get hz9
  have hp026 := (hpM0.trans hp9).trans hp26
  obtain ⟨al, ai, ad, _⟩ := (has.pre hp26).allV
  obtain ⟨rl26, ri26, rd26, _⟩ := (hrs.pre hp26).allV
  by_cases hA0 : A.length = 0
  · have hR0 : R.length = 0 := by omega
    simp (disch := omega) only [zA, zB, zC, zD, zF, zG, zH, ↓reduceIte, hm26, al, hasl, hA0, rl26, hrsl, hR0]
    exact hp026
  have hApos : 0 < A.length := by omega
  simp (disch := omega) only [zA, zB, zC, zD, zF, zG, zH, ↓reduceIte, hm26, al, hasl, hA0, hf26]
  have hpT := Pre.new H26 [.cells [nv 0, nv 0, .slice none 0 0, nv 0, .slice none 0 0] 63 none false]
  refine FZ.mono (turn_lo (n := n') (hv26.pre hpT) hAn (by omega) (by omega) (Nat.le_refl _)) ?_
  rintro v89 H30 ⟨hp30, ht30⟩
  obtain ⟨t1, t2⟩ := lturn_len n' A
  have hp2630 := hpT.trans hp30
  have hm30 := hp2630.get hm26
  have hf30 := hp2630.get hf26
  have ht63 := hp30.get (b := H26.length) (x := .cells [nv 0, nv 0, .slice none 0 0, nv 0, .slice none 0 0] 63 none false) (by simp)
  have hts : isSl v89 = true := by obtain ⟨_, h, _⟩ := ht30.acc.rowR; exact h.1.isSl
  have hto : one v89 = true := by obtain ⟨_, h, _⟩ := ht30.acc.rowR; exact h.1.one
  have e0 : xfill [nv 0, nv 0, .slice none 0 0, nv 0, .slice none 0 0] [(0, 3), (3, 1), (4, 1)] [fldv p e b e c, nv A.length, v89] = some [nv p, nv e, .slice (some ⟨b, 0, none⟩) e c, nv A.length, v89] := by
    revert hts
    cases v89 <;> simp [isSl]
    rfl
  have s5' := stB_five (H := H30) (bl := H26.length) (x := nv p) (y := nv e) (z := .slice (some ⟨b, 0, none⟩) e c) (u := nv A.length) (v := v89) (c0 := nv 0) (c1 := nv 0) (c2 := .slice none 0 0) (c3 := nv 0) (c4 := .slice none 0 0) (e := 63) (op := none) rfl rfl rfl rfl hto
  have hp31 : Pre H26 (H30.set H26.length (mbx p e b c A.length v89)) := fun x hx => by
    rw [List.getElem?_set_ne (by omega)]; exact hp2630 x hx
  have ht31 := (ht30.setLow (x := H26.length) (y := mbx p e b c A.length v89) (by simp)).acc.rowR
  have hT31 : (H30.set H26.length (mbx p e b c A.length v89))[H26.length]? = some (mbx p e b c A.length v89) := List.getElem?_set_self (get_lt ht63)
  simp (disch := omega) only [zA, zB, zC, zD, zF, zG, zH, ↓reduceIte, hm30, hf30, e0, ht63, s5']
  generalize hH31 : H30.set H26.length (mbx p e b c A.length v89) = H31 at *
  refine loopV1.nat R.length (fun i v H' => v = nv i ∧ Pre H31 H') ⟨rfl, Pre.refl _⟩ ?_ ?_
  · rintro i _ H32 hi ⟨rfl, hp32⟩ J hJ
    have hp2632 := hp31.trans hp32
    have hT32 := hp32.get hT31
    obtain ⟨rl32, ri32, rd32, _⟩ := ((hrs.pre hp26).pre hp2632).allV
    have hi' : i < rs.length := by omega
    have d1 := rd32 i hi'
    have rk := ((hrr i hi).pre hp26).pre hp2632
    have hRi := row_len rw1 hi
    have hX := Pre.new H32 [.cells [.slice none 0 0, nv 0] 76 none false]
    simp (disch := omega) only [zA, zB, zC, zD, zF, zG, zH, ↓reduceIte, rl32, hrsl, hi, hT32, ri32, d1, hi']
    refine FZ.mono (solved_c F (n := A.length) (hX.get (hp2632.get hb26)) ((ht31.pre hp32).pre hX) (rk.pre hX) (fun x hx => t2 x hx) (by omega) (by omega) (by omega) hApos) ?_
    rintro r H34 ⟨hp34, hr34⟩
    have hspan := (r2 _).1 (LSpan.mem (L := R) (getD_mem (d := []) hi))
    obtain ⟨cc, hcc⟩ := span_comb hspan
    have hdot : ∀ (u : Vc α) j, j < n' → dotn A.length (rowV (lturn n' A) j) u = comb u (rowV A) A.length j := fun u j hj => by
      rw [comb_dot, dotn_comm]
      exact dotn_cong _ fun i hi => by rw [ent_rowV, lturn_ent hj hi]; rfl
    have hsol : lsolve A.length (lturn n' A) (R.getD i []) ≠ none := lsolve_sol t2 (by omega) (x := cc) fun j hj => by
      rw [hdot cc j (by omega), ← hcc]
    cases hs : lsolve A.length (lturn n' A) (R.getD i []) with
    | none => exact absurd hs hsol
    | some X =>
    rw [hs] at hr34
    simp only at hr34
    obtain ⟨s, rfl, hsr, hslo⟩ := hr34
    obtain ⟨hXl, hXs, _⟩ := lsolve_some t2 (by omega) hs
    have hcomb : lcomb n' A X = R.getD i [] := by
      have hc : toV (lcomb n' A X) = comb (toV X) (rowV A) A.length := by rw [lcomb, toV_lcombk hAn _ (Nat.le_refl _)]
      refine toV_inj (by rw [lcomb, lcombk_length hAn _ (Nat.le_refl _), hRi]) ?_
      rw [hc]
      funext j
      by_cases hj : j < n'
      · rw [← hdot (toV X) j hj]; exact hXs j (by omega)
      · rw [LSpan.len hAn (comb_span _ _ _) j (by omega), toV_out (by omega)]
    have hp3234 := hX.trans hp34
    have h76 := hp34.get (b := H32.length) (x := .cells [.slice none 0 0, nv 0] 76 none false) (by simp)
    have s2 := stB_two (H := H34) (bl := H32.length) (x := s) (y := nv 0) (c0 := .slice none 0 0) (c1 := nv 0) (e := 76) (op := none) hsr.one rfl
    have h76' : (H34.set H32.length (.cells [s, nv 0] 76 none false))[H32.length]? = some (.cells [s, nv 0] 76 none false) := List.getElem?_set_self (get_lt h76)
    have hp3235 : Pre H32 (H34.set H32.length (.cells [s, nv 0] 76 none false)) := fun x hx => by
      rw [List.getElem?_set_ne (by omega)]; exact hp3234 x hx
    have hsr35 := hsr.setLow (x := H32.length) (y := .cells [s, nv 0] 76 none false) hslo (by simp)
    simp (disch := omega) only [zA, zB, zC, zD, zF, zG, zH, ↓reduceIte, h76, s2]
    generalize H34.set H32.length (.cells [s, nv 0] 76 none false) = H35 at *
    have hp2635 := hp2632.trans hp3235
    have hm35 := hp2635.get hm26
    have hf35 := hp2635.get hf26
    have hb35 := hp2635.get hb26
    have hv35 := hv26.pre hp2635
    have rk35 := rk.pre hp3235
    obtain ⟨al35, _, _, _⟩ := ((has.pre hp26).pre hp2635).allV
    simp (disch := omega) only [zA, zB, zC, zD, zF, zG, zH, ↓reduceIte, h76', hm35, hf35, al35, hasl]
    refine FZ.use (vector_r_ok F hb35 hsr35 hXl (by omega)) ?_
    obtain ⟨_, ri35, rd35, _⟩ := (((hrs.pre hp26).pre hp2632).pre hp3235).allV
    have d2 := rd35 i hi'
    simp (disch := omega) only [zA, zB, zC, zD, zF, zG, zH, ↓reduceIte, h76', hm35, hf35, ri35, d2, hi']
    refine FZ.mono (combine_c F (n := n') hb35 hv35 hsr35 hAn (by omega) (by omega) (by omega)) ?_
    rintro v124 H56 ⟨hp56, hc56⟩
    rw [hcomb] at hc56
    obtain ⟨_, ri56, rd56, _⟩ := ((((hrs.pre hp26).pre hp2632).pre hp3235).pre hp56).allV
    have d3 := rd56 i hi'
    simp (disch := omega) only [zA, zB, zC, zD, zF, zG, zH, ↓reduceIte, ri56, d3, hi']
    refine FZ.use (same_e F hc56.row (rk35.pre hp56) (by omega)) ?_
    simp (disch := omega) only [zA, zB, zC, zD, zF, zG, zH, ↓reduceIte]
    exact hJ _ _ ⟨rfl, (hp32.trans hp3235).trans hp56⟩
  · rintro _ H32 ⟨rfl, hp32⟩ J
    have hp2632 := hp31.trans hp32
    have hm32 := hp2632.get hm26
    have hf32 := hp2632.get hf26
    have hb32 := hp2632.get hb26
    have hz32 := hp2632.get hz26
    have hv32 := hv26.pre hp2632
    have hr32 := hr26.pre hp2632
    have hp032 := hp026.trans hp2632
    obtain ⟨rl32, _, _, _⟩ := ((hrs.pre hp26).pre hp2632).allV
    obtain ⟨vs, hvs, hvr⟩ := hv32
    have hla : (evr cd A).length = A.length := by simp [evr]
    have hvl : vs.length = A.length := by rw [hvr.1, hla]
    obtain ⟨vl, vi, vd, _⟩ := hvs.1.allV
    have w0 : IntKind.i64.wrap (z0 : Int) = (z0 : Int) := wrap64 (by omega) (by omega)
    have w1 : IntKind.i64.wrap (z1 : Int) = (z1 : Int) := wrap64 (by omega) (by omega)
    have w2 : IntKind.i64.wrap (z2 : Int) = (z2 : Int) := wrap64 (by omega) (by omega)
    have w3 : IntKind.i64.wrap (z3 : Int) = (z3 : Int) := wrap64 (by omega) (by omega)
    have hiA : z0 % A.length < A.length := Nat.mod_lt _ hApos
    have hkA : z1 % A.length < A.length := Nat.mod_lt _ hApos
    have hX := Pre.new H32 [.cells [] 26 none false]
    have hne : vs ≠ [] := fun h => by rw [h] at hvl; simp at hvl; omega
    have hones : vs.all one = true := by
      rw [List.all_eq_true]
      intro x hx
      obtain ⟨j, hj, rfl⟩ := List.mem_iff_getElem.1 hx
      have := (hvr.2 j (by rw [← hvr.1]; exact hj)).one
      simpa [List.getD_eq_getElem?_getD, List.getElem?_eq_getElem hj] using this
    have a1 := app_fresh (by_ := 24) (b := H32.length) (e := 26) (H := H32 ++ [.cells [] 26 none false]) (by simp) (hvs.pre hX) hones hne (by omega) (by omega)
    simp only [List.append_assoc, List.cons_append, List.nil_append, List.length_append, List.length_cons, List.length_nil] at a1
    have S0 : Spn H32 (H32 ++ [.cells [] 26 none false, .cells vs 26 (some 1) false]) (H32.length + 1) vs (evr cd A) :=
      ⟨by simp, hvr.pre (Pre.new _ _), fun cs hcs => by
        obtain ⟨x, hx, rfl⟩ := List.mem_map.1 hcs
        simp [plain], Pre.new _ _, by omega⟩
    have vl0 := vl
    rw [hvl] at vl0 a1
    have hmX := hX.get hm32
    have hp62 := S0.pre
    have hm62 := hp62.get hm32
    have v62 := (hvs.pre hp62).1.allV
    obtain ⟨vl6, vi6, vd6, _⟩ := v62
    simp (disch := omega) only [zA, zB, zC, zD, zF, zG, zH, ↓reduceIte, rl32, hrsl, hm32, hz32, vl0, hApos, w0, w1, hmX, a1]
    generalize z0 % A.length = i at *
    generalize z1 % A.length = k2 at *
    generalize H32 ++ [AB.cells [] 26 none false, AB.cells vs 26 (some 1) false] = H62 at *
    have hiv : i < vs.length := by omega
    have hkv : k2 < vs.length := by omega
    have di := vd6 i hiv
    have dk := vd6 k2 hkv
    have hplA : ∀ cs ∈ evr cd A, cs.all plain = true := S0.pl
    have hik : k2 < (evr cd A).length := by omega
    have hii : i < (evr cd A).length := by omega
    have evs_pl : ∀ x : List α, (evs cd x).all plain = true := fun x => by simp [plain]
    have gA : ∀ (L : List (List α)) j, (evr cd L).getD j [] = evs cd (L.getD j []) := fun L j => by
      simp only [List.getD_eq_getElem?_getD, List.getElem?_map]
      cases L[j]? <;> simp
    have sA : ∀ (L : List (List α)) j x, (evr cd L).set j (evs cd x) = evr cd (L.set j x) := fun L j x => by simp [List.map_set]
    have ri := S0.rws.2 i hii
    have rk := S0.rws.2 k2 hik
    rw [gA] at ri rk
    obtain ⟨H63, S', e1, S1⟩ := S0.stB hii rk (evs_pl _)
    rw [sA] at S1
    have hp6 := S1.pre
    have hm63 := hp6.get hm32
    obtain ⟨_, vi63, vd63, _⟩ := (hvs.pre hp6).1.allV
    have di3 := vd63 i hiv
    have ri3 := (hvr.pre hp6).2 i hii
    rw [gA] at ri3
    have lk1 : (evr cd (A.set i (A.getD k2 []))).length = A.length := by simp
    obtain ⟨H64, S2', e2, S2⟩ := S1.stB (i := k2) (by omega) ri3 (evs_pl _)
    rw [sA] at S2
    simp (disch := omega) only [zA, zB, zC, zD, zF, zG, zH, ↓reduceIte, hm62, vi6, hkv, hiv, hiA, hkA, dk, e1, hm63, vi63, di3, e2]
    generalize hL2 : (A.set i (A.getD k2 [])).set k2 (A.getD i []) = L2 at *
    have hL2l : L2.length = A.length := by rw [← hL2]; simp
    have hL2n : ∀ x ∈ L2, x.length = n' := fun x hx => by
      rw [← hL2] at hx
      rcases List.mem_or_eq_of_mem_set hx with h | rfl
      · rcases List.mem_or_eq_of_mem_set h with h | rfl
        · exact hAn x h
        · exact row_len hAn hkA
      · exact row_len hAn hiA
    have hL2s : ∀ u, LSpan L2 u ↔ LSpan A u := fun u => by rw [← hL2]; exact lspan_swap hiA hkA u
    refine joinV0.mid (fun H' => ∃ S L3, Spn H32 H' (H32.length + 1) S (evr cd L3) ∧ L3.length = A.length ∧ (∀ x ∈ L3, x.length = n') ∧ ∀ u, LSpan L3 u ↔ LSpan A u) ?_ ?_
    · intro J hJ
      have hp4 := S2.pre
      have hf64 := hp4.get hf32
      have hz64 := hp4.get hz32
      have hb64 := hp4.get hb32
      have c2l : (evr cd L2).length = A.length := by simp [hL2l]
      by_cases hik2 : i = k2
      · simp (disch := omega) only [zA, zB, zC, zD, zF, zG, zH, ↓reduceIte, hik2]
        exact hJ _ ⟨S2', L2, S2, hL2l, hL2n, hL2s⟩
      · obtain ⟨ui, li, rui⟩ := S2.ldB (i := i) (by omega)
        obtain ⟨uk, lk, ruk⟩ := S2.ldB (i := k2) (by omega)
        rw [gA] at rui ruk
        obtain ⟨y', hy'⟩ := F.sur (z2 % q) (Nat.mod_lt _ (by have := F.q2; omega))
        have hq0 : 0 < q := by have := F.q2; omega
        simp (disch := omega) only [zA, zB, zC, zD, zF, zG, zH, ↓reduceIte, hik2, hf64, hz64, w2, hiA, hkA, li, lk]
        refine FZ.use (F.rsize _ hb64) ?_
        simp (disch := omega) only [zA, zB, zC, zD, zF, zG, zH, ↓reduceIte, hq0, lk, li, hz64, hf64]
        rw [← hy']
        have hli := row_len hL2n (show i < L2.length by omega)
        have hlk := row_len hL2n (show k2 < L2.length by omega)
        refine FZ.mono (more_c F hb64 rui ruk (by omega) (by omega)) ?_
        rintro v186 H66 ⟨hp66, ha66⟩
        have S6 := S2.go hp66
        obtain ⟨H67, S3, e3, S7⟩ := S6.stB (i := i) (by omega) ha66.row (evs_pl _)
        rw [sA] at S7
        simp (disch := omega) only [zA, zB, zC, zD, zF, zG, zH, ↓reduceIte, hiA, e3]
        refine hJ _ ⟨S3, _, S7, by simp [hL2l], fun x hx => ?_, fun u => ?_⟩
        · rcases List.mem_or_eq_of_mem_set hx with h | rfl
          · exact hL2n x h
          · unfold lmore; rw [List.length_zipWith, hli, hlk, Nat.min_self]
        · rw [lspan_more (by omega) (by omega) hik2 (by omega), hL2s]
    rintro H68 ⟨S3, L3, hS3, hL3l, hL3n, hL3s⟩
    have hp68 := hS3.pre
    have hf68 := hp68.get hf32
    have hz68 := hp68.get hz32
    have hb68 := hp68.get hb32
    have c3l : (evr cd L3).length = A.length := by simp [hL3l]
    obtain ⟨uk, lk, ruk⟩ := hS3.ldB (i := k2) (by omega)
    rw [gA] at ruk
    have hq2 := F.q2
    have hq1 : 0 < q - 1 := by omega
    have hq3 : 1 ≤ q := by omega
    have hlt : z3 % (q - 1) < q - 1 := Nat.mod_lt _ hq1
    obtain ⟨y', hy'⟩ := F.sur (1 + z3 % (q - 1)) (by omega)
    have hy0 : y' ≠ Fl.zero := fun h => by have := (F.eq0 y').2 h; omega
    simp (disch := omega) only [zA, zB, zC, zD, zF, zG, zH, ↓reduceIte, hf68, hz68, w3]
    refine FZ.use (F.rsize _ hb68) ?_
    simp (disch := omega) only [zA, zB, zC, zD, zF, zG, zH, ↓reduceIte, hf68, hz68, hq1, hq3, hkA, lk]
    rw [← hy']
    have hlk := row_len hL3n (show k2 < L3.length by omega)
    refine FZ.mono (times_c F hb68 ruk (by omega)) ?_
    rintro v204 H70 ⟨hp70, ha70⟩
    have S6 := hS3.go hp70
    obtain ⟨H71, S4, e4, S7⟩ := S6.stB (i := k2) (by omega) ha70.row (evs_pl _)
    rw [sA] at S7
    have hL4s : ∀ u, LSpan (L3.set k2 (lmore (List.replicate (L3.getD k2 []).length Fl.zero) y' (L3.getD k2 []))) u ↔ LSpan A u := fun u => by rw [lspan_scale (n := 0) (by omega) hy0, hL3s]
    have hL4n : ∀ x ∈ L3.set k2 (lmore (List.replicate (L3.getD k2 []).length Fl.zero) y' (L3.getD k2 [])), x.length = n' := fun x hx => by
      rcases List.mem_or_eq_of_mem_set hx with h | rfl
      · exact hL3n x h
      · unfold lmore; rw [List.length_zipWith, List.length_replicate, hlk, Nat.min_self]
    have hL4l : (L3.set k2 (lmore (List.replicate (L3.getD k2 []).length Fl.zero) y' (L3.getD k2 []))).length = A.length := by simp [hL3l]
    generalize L3.set k2 (lmore (List.replicate (L3.getD k2 []).length Fl.zero) y' (L3.getD k2 [])) = L4 at *
    have hp71 := S7.pre
    have hf71 := hp71.get hf32
    have hb71 := hp71.get hb32
    have R7 := S7.rowR
    have c4l : (evr cd L4).length = A.length := by simp [hL4l]
    rw [c4l] at R7
    simp (disch := omega) only [zA, zB, zC, zD, zF, zG, zH, ↓reduceIte, hkA, e4, hf71]
    refine FZ.mono (reduce_p F hb71 R7 hL4n (by omega) (by omega) hn0) ?_
    rintro v210 H74 ⟨hp74, hr74⟩
    have hR4 : lreduce L4 = R := (lreduce_red hL4n).1.unique r1 fun u => by rw [(lreduce_red hL4n).2.1, hL4s, r2]
    rw [hR4] at hr74
    have hr71 := (hr32.pre hp71).pre hp74
    simp (disch := omega) only [zA, zB, zC, zD, zF, zG, zH, ↓reduceIte]
    refine FZ.use (alike_e hr74 hr71 (by omega) (fun x hx => by rw [rw1 x hx]; omega) rfl) ?_
    have hf74 := hp74.get hf71
    have hb74 := hp74.get hb71
    simp (disch := omega) only [zA, zB, zC, zD, zF, zG, zH, ↓reduceIte, hf74]
    refine FZ.mono (reduce_p F hb74 hr71 rw1 (by omega) (by omega) hn0) ?_
    rintro v217 H81 ⟨hp81, hr81⟩
    have hRR : lreduce R = R := (lreduce_red rw1).1.unique r1 fun u => (lreduce_red rw1).2.1 u
    rw [hRR] at hr81
    simp (disch := omega) only [zA, zB, zC, zD, zF, zG, zH, ↓reduceIte]
    refine FZ.use (alike_e hr81 (hr71.pre hp81) (by omega) (fun x hx => by rw [rw1 x hx]; omega) rfl) ?_
    simp (disch := omega) only [zA, zB, zC, zD, zF, zG, zH, ↓reduceIte]
    exact ((hp032.trans hp71).trans hp74).trans hp81
end Go.Sim
