/- Part of the proof: SpG1. -/
import Derived.Test.YtgcoidbhikfdkaaSShSToShF
import Derived.Test.YtgcoidbhikfdkaaSShMix
import Derived.KernelRfl
set_option linter.all false
set_option maxRecDepth 100000
namespace Go.Sim
open Go Go.Proofs
def xd30 : XD := (.seq (.reg [yS 0 1 (.box 58) [oT 0], yS 1 2 (.new [(nv 0), (nv 0), (.slice none 0 0), (nv 0), (.slice none 0 0)] 63) []]) (.seq (.reg [yS 0 5 (.fld 0) [oT 1], yS 1 6 (.ld none) [oT 5], yS 2 7 .call [oF 67, oT 6], yS 3 3 (.new [(nv 0), (nv 0), (.slice none 0 0)] 61) [], yN 4 (.st 3) [oT 3, oT 7]]) (.seq (.reg [yS 0 8 (.fld 1) [oT 1], yS 1 9 (.ld none) [oT 8], yS 2 10 (.conv .i64) [oT 9], yS 3 11 (.bin .rem 0) [oT 10, oC (nv 8)], yS 4 12 (.bin .add 0) [oC (nv 1), oT 11], yS 5 4 .mov [oT 12]]) (.seq (.reg [⟨none, (.ld (some 3)), [oT 3], some 13, 0, true, []⟩, yS 1 14 .mov [oT 4], yS 2 15 (.ld (some 3)) [oT 3], yS 3 16 .mov [oT 4], yS 4 17 (.fld 2) [oT 1], yS 5 18 (.ld none) [oT 17], yS 6 19 (.conv .i64) [oT 18], yS 7 20 (.bin .rem 0) [oT 19, oC (nv 7)], yS 8 21 (.fld 3) [oT 1], yS 9 22 (.ld none) [oT 21], ⟨none, .call, [oF 31, oT 15, oT 16, oT 20, oT 22], some 23, 10, false, [0]⟩, yS 11 24 (.bld [(nv 0), (nv 0), (.slice none 0 0), (nv 0), (.slice none 0 0)] [(0, 3), (3, 1), (4, 1)]) [oT 13, oT 14, oT 23], yN 12 (.st 5) [oT 2, oT 24]]) .ret))))
theorem xd30_ok : compF Try.prog 30 = some ⟨25, [(.cell 2 (some 5))], xd30.er⟩ := by kernel_rfl
def g30 (x0 : Value) (H : AH) (R : Value → AH → Prop) : Prop :=
 @letH (H ++ [.cells (cellsL x0) 58 none false]) ⟨fun H1 =>
 @letH (H1 ++ [.cells [(nv 0), (nv 0), (.slice none 0 0), (nv 0), (.slice none 0 0)] 63 none false]) ⟨fun H2 =>
 @bindO (xpure (.fld 0) [(.pointer (some ⟨H.length, 0, none⟩))]) ⟨fun v5 =>
 @bindO (xload none H2 [v5]) ⟨fun v6 =>
 @cG 67 [v6] H2 ⟨fun v7 H3 =>
 @letH (H3 ++ [.cells [(nv 0), (nv 0), (.slice none 0 0)] 61 none false]) ⟨fun H4 =>
 @bindP (xact (.st 3) H4 [(.pointer (some ⟨H3.length, 0, none⟩)), v7]) ⟨fun _v H5 =>
 @bindO (xpure (.fld 1) [(.pointer (some ⟨H.length, 0, none⟩))]) ⟨fun v8 =>
 @bindO (xload none H5 [v8]) ⟨fun v9 =>
 @bindO (xpure (.conv .i64) [v9]) ⟨fun v10 =>
 @bindO (xbin .rem 0 v10 (nv 8)) ⟨fun v11 =>
 @bindO (xbin .add 0 (nv 1) v11) ⟨fun v12 =>
 @bindO (xload (some 3) H5 [(.pointer (some ⟨H3.length, 0, none⟩))]) ⟨fun v13 =>
 @bindO (xload (some 3) H5 [(.pointer (some ⟨H3.length, 0, none⟩))]) ⟨fun v15 =>
 @bindO (xpure (.fld 2) [(.pointer (some ⟨H.length, 0, none⟩))]) ⟨fun v17 =>
 @bindO (xload none H5 [v17]) ⟨fun v18 =>
 @bindO (xpure (.conv .i64) [v18]) ⟨fun v19 =>
 @bindO (xbin .rem 0 v19 (nv 7)) ⟨fun v20 =>
 @bindO (xpure (.fld 3) [(.pointer (some ⟨H.length, 0, none⟩))]) ⟨fun v21 =>
 @bindO (xload none H5 [v21]) ⟨fun v22 =>
 @cG 31 [v15, v12, v20, v22] H5 ⟨fun v23 H6 =>
 (chkX [0] (⟨0, (some 3), [(.pointer (some ⟨H3.length, 0, none⟩))], v13⟩ :: []) H6 ∧ @bindL (xfill [(nv 0), (nv 0), (.slice none 0 0), (nv 0), (.slice none 0 0)] [(0, 3), (3, 1), (4, 1)] [v13, v12, v23]) ⟨fun v24 =>
 @bindP (xact (.st 5) H6 [(.pointer (some ⟨H1.length, 0, none⟩)), (.agg v24.toArray)]) ⟨fun _v H7 =>
 @bindO (xload (some 5) H7 [(.pointer (some ⟨H1.length, 0, none⟩))]) ⟨fun r0 => R r0 H7⟩⟩⟩)⟩⟩⟩⟩⟩⟩⟩⟩⟩⟩⟩⟩⟩⟩⟩⟩⟩⟩⟩⟩⟩
theorem g30_of {x0 : Value} {H : AH} {R : Value → AH → Prop} (h : g30 x0 H R) : FN Try.prog 30 [x0] H R :=
  FN.of_XD mixed xd30_ok (by kernel_rfl) (Nat.le_of_ble_eq_true rfl) (cast (by kernel_rfl) h)
def xd31 : XD := (.seq (.reg [yS 0 4 (.box 61) [oT 0], yS 1 8 .mov [oC (.slice none 0 0)]]) (.seq (.reg [yS 0 13 (.bsl [] 0 [] 26) [], yS 1 9 .mov [oT 13]]) (.seq (.reg [yS 0 14 (.ld (some 3)) [oT 4], yS 1 15 .mov [oT 1], yS 2 16 .mov [oT 2], yS 3 17 (.bin .mul 0) [oT 15, oT 16], yS 4 18 .mov [oT 3], yS 5 19 .call [oF 32, oT 14, oT 17, oT 18], yS 6 10 .mov [oT 19]]) (.seq (.seq (.reg [yS 0 11 .mov [oC (nv 0)]]) (.block 0 (.loop [9, 11] 4835703278458516697782784 (.seq (.seq (.reg [yS 0 20 .mov [oT 11], yS 1 21 .mov [oT 2], yS 2 22 (.bin .lss 0) [oT 20, oT 21]]) (.cond (oT 22) .skip (.exit 0))) (.seq (.block 1 (.seq (.reg [yS 0 25 (.bsl [] 0 [] 3) [], yS 1 26 .mov [oT 10], yS 2 27 .mov [oT 11], yS 3 28 .mov [oT 1], yS 4 29 (.bin .mul 0) [oT 27, oT 28], yS 5 30 .mov [oT 11], yS 6 31 (.bin .add 0) [oT 30, oC (nv 1)], yS 7 32 .mov [oT 1], yS 8 33 (.bin .mul 0) [oT 31, oT 32], yS 9 34 (.slS 1 true true) [oT 26, oT 29, oT 33], yS 10 35 (.app 3 1 8) [oT 25, oT 34], yS 11 12 .mov [oT 35]]) (.join [12] 302231454903588574203904 (.seq (.reg [yS 0 36 .mov [oT 11], yS 1 37 (.bin .gtr 0) [oT 36, oC (nv 1)], yS 2 38 .mov [oT 37], yG (some (38, true)) 3 (some 39) .mov [oT 3], yG (some (38, true)) 4 (some 40) .lenS [oT 39], yG (some (38, true)) 5 (some 41) (.bin .gtr 0) [oT 40, oC (nv 0)], yS 6 42 .pick [oT 38, oT 41, oC (.bool false)], yS 7 43 .mov [oT 42], yG (some (43, true)) 8 (some 44) .mov [oT 3], yG (some (43, true)) 9 (some 45) .mov [oT 11], yG (some (43, true)) 10 (some 46) .mov [oT 3], yG (some (43, true)) 11 (some 47) .lenS [oT 46], yG (some (43, true)) 12 (some 48) (.bin .rem 0) [oT 45, oT 47], yG (some (43, true)) 13 (some 49) (.ixS 1) [oT 44, oT 48], yG (some (43, true)) 14 (some 50) (.ld none) [oT 49], yG (some (43, true)) 15 (some 51) (.bin .rem 0) [oT 50, oC (.int .u16 4)], yG (some (43, true)) 16 (some 52) (.bin .eql 0) [oT 51, oC (.int .u16 0)], yS 17 53 .pick [oT 43, oT 52, oC (.bool false)]]) (.cond (oT 53) (.reg [⟨none, (.ld (some 3)), [oT 4], some 54, 0, true, []⟩, yS 1 55 (.ld (some 3)) [oT 4], yS 2 56 .mov [oT 10], yS 3 57 .mov [oT 11], yS 4 58 (.ixS 1) [oT 56, oT 57], yS 5 59 (.ld none) [oT 58], yS 6 60 .mov [oT 9], yS 7 61 .mov [oT 11], yS 8 62 (.bin .sub 0) [oT 61, oC (nv 1)], yS 9 63 (.ixS 1) [oT 60, oT 62], yS 10 64 (.ld none) [oT 63], yS 12 66 .mov [oT 10], yS 13 67 .mov [oT 11], yS 14 68 .mov [oT 1], yS 15 69 (.bin .mul 0) [oT 67, oT 68], yS 16 70 (.ixS 1) [oT 66, oT 69], ⟨none, (.ld none), [oT 70], some 71, 17, true, []⟩, yS 18 72 .mov [oT 9], yS 19 73 .mov [oT 11], yS 20 74 (.bin .sub 0) [oT 73, oC (nv 2)], yS 21 75 (.ixS 1) [oT 72, oT 74], ⟨none, (.ld none), [oT 75], some 76, 22, true, []⟩, ⟨none, .call, [oF 63, oT 55, oT 59, oT 64], some 65, 11, false, [22, 17, 0]⟩, yS 23 77 .call [oF 61, oT 54, oT 65, oT 71, oT 76], yS 24 12 .mov [oT 77]]) .skip)) (.reg [yS 0 78 .mov [oT 9], yS 1 79 .mov [oT 12], yS 2 80 (.bsl [(.slice none 0 0)] 1 [(0, 1)] 26) [oT 79], yS 3 81 (.app 26 1 24) [oT 78, oT 80], yS 4 9 .mov [oT 81]])))) (.reg [yS 0 23 .mov [oT 11], yS 1 24 (.bin .add 0) [oT 23, oC (nv 1)], yS 2 11 .mov [oT 24]])))))) (.seq (.reg [yS 0 82 .mov [oT 9], yS 1 8 .mov [oT 82]]) .ret)))))
theorem xd31_ok : compF Try.prog 31 = some ⟨83, [(.tmp 8)], xd31.er⟩ := by kernel_rfl
def g31 (f0 n1 m2 b3 : Value) (H : AH) (R : Value → AH → Prop) : Prop :=
 @letH (H ++ [.cells (cellsL f0) 61 none false]) ⟨fun H1 =>
 @bindL (xfill [] [] []) ⟨fun cv13 => @letH (H1 ++ [.cells cv13 26 none false]) ⟨fun H2 =>
 @bindO (xload (some 3) H2 [(.pointer (some ⟨H.length, 0, none⟩))]) ⟨fun v14 =>
 @bindO (xbin .mul 0 n1 m2) ⟨fun v17 =>
 @cG 32 [v14, v17, b3] H2 ⟨fun v19 H3 =>
 @loopV2 (.slice (some ⟨H1.length, 0, none⟩) 0 0) (nv 0) H3 ⟨fun out9 i11 H4 K1 =>
 @bindO (xbin .lss 0 i11 m2) ⟨fun v22 =>
 @condK v22 ⟨fun q => if q = true then @bindL (xfill [] [] []) ⟨fun cv25 => @letH (H4 ++ [.cells cv25 3 none false]) ⟨fun H5 =>
 @bindO (xbin .mul 0 i11 n1) ⟨fun v29 =>
 @bindO (xbin .add 0 i11 (nv 1)) ⟨fun v31 =>
 @bindO (xbin .mul 0 v31 n1) ⟨fun v33 =>
 @bindO (xpure (.slS 1 true true) [v19, v29, v33]) ⟨fun v34 =>
 @bindP (xact (.app 3 1 8) H5 [(.slice (some ⟨H4.length, 0, none⟩) 0 0), v34]) ⟨fun v35 H6 =>
 @joinV1 (fun J2 => @bindO (xbin .gtr 0 i11 (nv 1)) ⟨fun v37 =>
 @guardJ (asB v37) (fun J3 => J3 b3 H6) H6 ⟨fun v39 H7 =>
 @guardJ (asB v37) (fun J4 => @bindO (xpure .lenS [v39]) ⟨fun v40 =>
 J4 v40 H7⟩) H7 ⟨fun v40a H8 =>
 @guardJ (asB v37) (fun J5 => @bindO (xbin .gtr 0 v40a (nv 0)) ⟨fun v41 =>
 J5 v41 H8⟩) H8 ⟨fun v41a H9 =>
 @pickK v37 v41a (.bool false) ⟨fun v42 =>
 @guardJ (asB v42) (fun J6 => J6 b3 H9) H9 ⟨fun v44 H10 =>
 @guardJ (asB v42) (fun J7 => J7 i11 H10) H10 ⟨fun v45 H11 =>
 @guardJ (asB v42) (fun J8 => J8 b3 H11) H11 ⟨fun v46 H12 =>
 @guardJ (asB v42) (fun J9 => @bindO (xpure .lenS [v46]) ⟨fun v47 =>
 J9 v47 H12⟩) H12 ⟨fun v47a H13 =>
 @guardJ (asB v42) (fun J10 => @bindO (xbin .rem 0 v45 v47a) ⟨fun v48 =>
 J10 v48 H13⟩) H13 ⟨fun v48a H14 =>
 @guardJ (asB v42) (fun J11 => @bindO (xpure (.ixS 1) [v44, v48a]) ⟨fun v49 =>
 J11 v49 H14⟩) H14 ⟨fun v49a H15 =>
 @guardJ (asB v42) (fun J12 => @bindO (xload none H15 [v49a]) ⟨fun v50 =>
 J12 v50 H15⟩) H15 ⟨fun v50a H16 =>
 @guardJ (asB v42) (fun J13 => @bindO (xbin .rem 0 v50a (.int .u16 4)) ⟨fun v51 =>
 J13 v51 H16⟩) H16 ⟨fun v51a H17 =>
 @guardJ (asB v42) (fun J14 => @bindO (xbin .eql 0 v51a (.int .u16 0)) ⟨fun v52 =>
 J14 v52 H17⟩) H17 ⟨fun v52a H18 =>
 @pickK v42 v52a (.bool false) ⟨fun v53 =>
 @condK v53 ⟨fun q => if q = true then @bindO (xload (some 3) H18 [(.pointer (some ⟨H.length, 0, none⟩))]) ⟨fun v54 =>
 @bindO (xload (some 3) H18 [(.pointer (some ⟨H.length, 0, none⟩))]) ⟨fun v55 =>
 @bindO (xpure (.ixS 1) [v19, i11]) ⟨fun v58 =>
 @bindO (xload none H18 [v58]) ⟨fun v59 =>
 @bindO (xbin .sub 0 i11 (nv 1)) ⟨fun v62 =>
 @bindO (xpure (.ixS 1) [out9, v62]) ⟨fun v63 =>
 @bindO (xload none H18 [v63]) ⟨fun v64 =>
 @bindO (xbin .mul 0 i11 n1) ⟨fun v69 =>
 @bindO (xpure (.ixS 1) [v19, v69]) ⟨fun v70 =>
 @bindO (xload none H18 [v70]) ⟨fun v71 =>
 @bindO (xbin .sub 0 i11 (nv 2)) ⟨fun v74 =>
 @bindO (xpure (.ixS 1) [out9, v74]) ⟨fun v75 =>
 @bindO (xload none H18 [v75]) ⟨fun v76 =>
 @cG 63 [v55, v59, v64] H18 ⟨fun v65 H19 =>
 (chkX [22, 17, 0] (⟨22, none, [v75], v76⟩ :: (⟨17, none, [v70], v71⟩ :: (⟨0, (some 3), [(.pointer (some ⟨H.length, 0, none⟩))], v54⟩ :: []))) H19 ∧ @cG 61 [v54, v65, v71, v76] H19 ⟨fun v77 H20 =>
 J2 v77 H20⟩)⟩⟩⟩⟩⟩⟩⟩⟩⟩⟩⟩⟩⟩⟩ else
 J2 v35 H18⟩⟩⟩⟩⟩⟩⟩⟩⟩⟩⟩⟩⟩⟩⟩⟩) ⟨fun v12 H21 =>
 @bindL (xfill [(.slice none 0 0)] [(0, 1)] [v12]) ⟨fun cv80 => @letH (H21 ++ [.cells cv80 26 none false]) ⟨fun H22 =>
 @bindP (xact (.app 26 1 24) H22 [out9, (.slice (some ⟨H21.length, 0, none⟩) 1 1)]) ⟨fun v81 H23 =>
 @bindO (xbin .add 0 i11 (nv 1)) ⟨fun v24 =>
 K1 v81 v24 H23⟩⟩⟩⟩⟩⟩⟩⟩⟩⟩⟩⟩ else
 R out9 H4⟩⟩⟩⟩⟩⟩⟩⟩⟩
theorem g31_of {f0 n1 m2 b3 : Value} {H : AH} {R : Value → AH → Prop} (h : g31 f0 n1 m2 b3 H R) : FN Try.prog 31 [f0, n1, m2, b3] H R :=
  FN.of_XD mixed xd31_ok (by kernel_rfl) (Nat.le_of_ble_eq_true rfl) (cast (by kernel_rfl) h)
def xd32 : XD := (.seq (.reg [yS 0 3 (.box 61) [oT 0], yS 1 6 .mov [oC (.slice none 0 0)]]) (.seq (.reg [yS 0 10 (.bsl [] 0 [] 3) [], yS 1 7 .mov [oT 10]]) (.seq (.seq (.reg [yS 0 8 .mov [oC (nv 0)]]) (.block 0 (.loop [7, 8] 17592186043264 (.seq (.seq (.reg [yS 0 11 .mov [oT 8], yS 1 12 .mov [oT 1], yS 2 13 (.bin .lss 0) [oT 11, oT 12]]) (.cond (oT 13) .skip (.exit 0))) (.seq (.block 1 (.seq (.reg [yS 0 9 .mov [oC (nv 0)]]) (.join [9] 8589869568 (.seq (.reg [yS 0 16 .mov [oT 2], yS 1 17 .lenS [oT 16], yS 2 18 (.bin .gtr 0) [oT 17, oC (nv 0)]]) (.cond (oT 18) (.reg [yS 0 19 .mov [oT 2], yS 1 20 .mov [oT 8], yS 2 21 .mov [oT 2], yS 3 22 .lenS [oT 21], yS 4 23 (.bin .rem 0) [oT 20, oT 22], yS 5 24 (.ixS 1) [oT 19, oT 23], yS 6 25 (.ld none) [oT 24], yS 7 26 (.conv .i64) [oT 25], yS 8 27 .mov [oT 8], yS 9 28 .mov [oT 2], yS 10 29 .lenS [oT 28], yS 11 30 (.bin .quo 0) [oT 27, oT 29], yS 12 31 (.bin .mul 0) [oC (nv 7), oT 30], yS 13 32 (.bin .add 0) [oT 26, oT 31], yS 14 9 .mov [oT 32]]) .skip)) (.join [9] 60129542656 (.seq (.reg [yS 0 33 .mov [oT 9], yS 1 34 (.bin .rem 0) [oT 33, oC (nv 3)], yS 2 35 (.bin .eql 0) [oT 34, oC (nv 0)]]) (.cond (oT 35) (.reg [yS 0 9 .mov [oC (nv 0)]]) .skip)) (.reg [yS 0 36 .mov [oT 7], yS 1 37 .mov [oT 9], yS 2 38 (.bin .quo 0) [oT 37, oC (nv 3)], yS 3 39 (.ld (some 3)) [oT 3], yS 4 40 .call [oF 62, oT 39], yS 5 41 (.bin .rem 0) [oT 38, oT 40], yS 6 42 (.bsl [(nv 0)] 1 [(0, 1)] 3) [oT 41], yS 7 43 (.app 3 1 8) [oT 36, oT 42], yS 8 7 .mov [oT 43]]))))) (.reg [yS 0 14 .mov [oT 8], yS 1 15 (.bin .add 0) [oT 14, oC (nv 1)], yS 2 8 .mov [oT 15]])))))) (.seq (.reg [yS 0 44 .mov [oT 7], yS 1 6 .mov [oT 44]]) .ret))))
theorem xd32_ok : compF Try.prog 32 = some ⟨45, [(.tmp 6)], xd32.er⟩ := by kernel_rfl
def g32 (f0 n1 b2 : Value) (H : AH) (R : Value → AH → Prop) : Prop :=
 @letH (H ++ [.cells (cellsL f0) 61 none false]) ⟨fun H1 =>
 @bindL (xfill [] [] []) ⟨fun cv10 => @letH (H1 ++ [.cells cv10 3 none false]) ⟨fun H2 =>
 @loopV2 (.slice (some ⟨H1.length, 0, none⟩) 0 0) (nv 0) H2 ⟨fun out7 i8 H3 K1 =>
 @bindO (xbin .lss 0 i8 n1) ⟨fun v13 =>
 @condK v13 ⟨fun q => if q = true then @joinV1 (fun J2 => @bindO (xpure .lenS [b2]) ⟨fun v17 =>
 @bindO (xbin .gtr 0 v17 (nv 0)) ⟨fun v18 =>
 @condK v18 ⟨fun q => if q = true then @bindO (xpure .lenS [b2]) ⟨fun v22 =>
 @bindO (xbin .rem 0 i8 v22) ⟨fun v23 =>
 @bindO (xpure (.ixS 1) [b2, v23]) ⟨fun v24 =>
 @bindO (xload none H3 [v24]) ⟨fun v25 =>
 @bindO (xpure (.conv .i64) [v25]) ⟨fun v26 =>
 @bindO (xpure .lenS [b2]) ⟨fun v29 =>
 @bindO (xbin .quo 0 i8 v29) ⟨fun v30 =>
 @bindO (xbin .mul 0 (nv 7) v30) ⟨fun v31 =>
 @bindO (xbin .add 0 v26 v31) ⟨fun v32 =>
 J2 v32 H3⟩⟩⟩⟩⟩⟩⟩⟩⟩ else
 J2 (nv 0) H3⟩⟩⟩) ⟨fun x9 H4 =>
 @joinV1 (fun J3 => @bindO (xbin .rem 0 x9 (nv 3)) ⟨fun v34 =>
 @bindO (xbin .eql 0 v34 (nv 0)) ⟨fun v35 =>
 @condK v35 ⟨fun q => if q = true then J3 (nv 0) H4 else
 J3 x9 H4⟩⟩⟩) ⟨fun x9a H5 =>
 @bindO (xbin .quo 0 x9a (nv 3)) ⟨fun v38 =>
 @bindO (xload (some 3) H5 [(.pointer (some ⟨H.length, 0, none⟩))]) ⟨fun v39 =>
 @cG 62 [v39] H5 ⟨fun v40 H6 =>
 @bindO (xbin .rem 0 v38 v40) ⟨fun v41 =>
 @bindL (xfill [(nv 0)] [(0, 1)] [v41]) ⟨fun cv42 => @letH (H6 ++ [.cells cv42 3 none false]) ⟨fun H7 =>
 @bindP (xact (.app 3 1 8) H7 [out7, (.slice (some ⟨H6.length, 0, none⟩) 1 1)]) ⟨fun v43 H8 =>
 @bindO (xbin .add 0 i8 (nv 1)) ⟨fun v15 =>
 K1 v43 v15 H8⟩⟩⟩⟩⟩⟩⟩⟩⟩⟩ else
 R out7 H3⟩⟩⟩⟩⟩⟩
theorem g32_of {f0 n1 b2 : Value} {H : AH} {R : Value → AH → Prop} (h : g32 f0 n1 b2 H R) : FN Try.prog 32 [f0, n1, b2] H R :=
  FN.of_XD mixed xd32_ok (by kernel_rfl) (Nat.le_of_ble_eq_true rfl) (cast (by kernel_rfl) h)
def xd33 : XD := (.seq (.reg [yS 0 3 (.box 61) [oT 0], yS 1 6 .mov [oC (.bool false)]]) (.seq (.seq (.reg [yS 0 10 .mov [oT 1], yS 1 11 (.bin .lss 0) [oT 10, oC (nv 1)], yS 2 12 .mov [oT 11], yG (some (12, false)) 3 (some 13) .mov [oT 1], yG (some (12, false)) 4 (some 14) (.bin .gtr 0) [oT 13, oC (nv 24)], yS 5 15 .pick [oT 12, oC (.bool true), oT 14], yS 6 16 .mov [oT 15], yG (some (16, false)) 7 (some 17) .mov [oT 2], yG (some (16, false)) 8 (some 18) .lenS [oT 17], yG (some (16, false)) 9 (some 19) (.bin .gtr 0) [oT 18, oC (nv 64)], yS 10 20 .pick [oT 16, oC (.bool true), oT 19], yS 11 21 .mov [oT 20], yG (some (21, false)) 12 (some 22) (.ld (some 3)) [oT 3], yG (some (21, false)) 13 (some 23) .call [oF 87, oT 22], yG (some (21, false)) 14 (some 24) (.un .not) [oT 23], yS 15 25 .pick [oT 21, oC (.bool true), oT 24]]) (.cond (oT 25) (.seq (.reg [yS 0 6 .mov [oC (.bool false)]]) .ret) .skip)) (.seq (.reg [yS 0 26 (.ld (some 3)) [oT 3], yS 1 27 .call [oF 88, oT 26], yS 2 7 (.new [(nv 0)] 3) [], yN 3 (.st 1) [oT 7, oT 27]]) (.seq (.seq (.reg [yS 0 28 .mov [oT 2], yS 1 29 .lenS [oT 28], yS 2 30 .mov [oC (nv 0)]]) (.block 0 (.loop [30] 17591112303168 (.seq (.reg [yS 0 31 (.bin .lss 0) [oT 30, oT 29]]) (.seq (.cond (oT 31) .skip (.exit 0)) (.seq (.block 1 (.seq (.reg [yS 0 32 (.ixS 1) [oT 28, oT 30], yS 1 33 (.ld none) [oT 32], yS 2 9 .mov [oT 33]]) (.seq (.reg [yS 0 34 .mov [oT 9], yS 1 35 .lenS [oT 34], yS 2 36 .mov [oT 1], yS 3 37 (.bin .neq 0) [oT 35, oT 36], yS 4 38 .mov [oT 37], yG (some (38, false)) 5 (some 39) .mov [oT 9], yG (some (38, false)) 6 (some 40) (.fn 90 0 1) [oT 7], yG (some (38, false)) 7 (some 41) .call [oF 89, oT 39, oT 40], yS 8 42 .pick [oT 38, oC (.bool true), oT 41]]) (.cond (oT 42) (.seq (.reg [yS 0 6 .mov [oC (.bool false)]]) .ret) .skip)))) (.reg [yS 0 43 (.bin .add 0) [oT 30, oC (nv 1)], yS 1 30 .mov [oT 43]]))))))) (.seq (.reg [yS 0 6 .mov [oC (.bool true)]]) .ret)))))
theorem xd33_ok : compF Try.prog 33 = some ⟨44, [(.tmp 6)], xd33.er⟩ := by kernel_rfl
def xd34 : XD := (.seq (.reg [yS 0 4 .mov [oC (.bool false)]]) (.seq (.seq (.reg [yS 0 6 .mov [oT 0], yS 1 7 .lenS [oT 6], yS 2 8 .mov [oT 1], yS 3 9 .lenS [oT 8], yS 4 10 (.bin .neq 0) [oT 7, oT 9]]) (.cond (oT 10) (.seq (.reg [yS 0 4 .mov [oC (.bool false)]]) .ret) .skip)) (.seq (.seq (.reg [yS 0 5 .mov [oC (nv 0)]]) (.block 0 (.loop [5] 134215728 (.seq (.seq (.reg [yS 0 11 .mov [oT 5], yS 1 12 .mov [oT 0], yS 2 13 .lenS [oT 12], yS 3 14 (.bin .lss 0) [oT 11, oT 13]]) (.cond (oT 14) .skip (.exit 0))) (.seq (.block 1 (.seq (.reg [yS 0 17 .mov [oT 0], yS 1 18 .mov [oT 5], yS 2 19 (.ixS 1) [oT 17, oT 18], yS 3 20 (.ld none) [oT 19], yS 4 21 .mov [oT 1], yS 5 22 .mov [oT 5], yS 6 23 (.ixS 1) [oT 21, oT 22], yS 7 24 (.ld none) [oT 23], yS 8 25 .call [oF 40, oT 20, oT 24], yS 9 26 (.un .not) [oT 25]]) (.cond (oT 26) (.seq (.reg [yS 0 4 .mov [oC (.bool false)]]) .ret) .skip))) (.reg [yS 0 15 .mov [oT 5], yS 1 16 (.bin .add 0) [oT 15, oC (nv 1)], yS 2 5 .mov [oT 16]])))))) (.seq (.reg [yS 0 4 .mov [oC (.bool true)]]) .ret))))
theorem xd34_ok : compF Try.prog 34 = some ⟨27, [(.tmp 4)], xd34.er⟩ := by kernel_rfl
def g34 (a0 b1 : Value) (H : AH) (R : Value → AH → Prop) : Prop :=
 @bindO (xpure .lenS [a0]) ⟨fun v7 =>
 @bindO (xpure .lenS [b1]) ⟨fun v9 =>
 @bindO (xbin .neq 0 v7 v9) ⟨fun v10 =>
 @condK v10 ⟨fun q => if q = true then R (.bool false) H else
 @loopV1 (nv 0) H ⟨fun i5 H1 K1 =>
 @bindO (xpure .lenS [a0]) ⟨fun v13 =>
 @bindO (xbin .lss 0 i5 v13) ⟨fun v14 =>
 @condK v14 ⟨fun q => if q = true then @bindO (xpure (.ixS 1) [a0, i5]) ⟨fun v19 =>
 @bindO (xload none H1 [v19]) ⟨fun v20 =>
 @bindO (xpure (.ixS 1) [b1, i5]) ⟨fun v23 =>
 @bindO (xload none H1 [v23]) ⟨fun v24 =>
 @cG 40 [v20, v24] H1 ⟨fun v25 H2 =>
 @bindO (eun .not v25) ⟨fun v26 =>
 @condK v26 ⟨fun q => if q = true then R (.bool false) H2 else
 @bindO (xbin .add 0 i5 (nv 1)) ⟨fun v16 =>
 K1 v16 H2⟩⟩⟩⟩⟩⟩⟩⟩ else
 R (.bool true) H1⟩⟩⟩⟩⟩⟩⟩⟩
theorem g34_of {a0 b1 : Value} {H : AH} {R : Value → AH → Prop} (h : g34 a0 b1 H R) : FN Try.prog 34 [a0, b1] H R :=
  FN.of_XD mixed xd34_ok (by kernel_rfl) (Nat.le_of_ble_eq_true rfl) (cast (by kernel_rfl) h)
def xd35 : XD := (.seq (.reg [yS 0 2 (.box 61) [oT 0], yS 1 4 .mov [oC (.slice none 0 0)]]) (.seq (.reg [yS 0 6 (.ld (some 3)) [oT 2], yS 1 7 .mov [oT 1], yS 2 8 .call [oF 91, oT 6, oT 7], yS 3 5 .mov [oT 8]]) (.seq (.reg [yS 0 9 .mov [oT 5], yS 1 10 .nilc [oT 9], yS 2 11 (.fld 3) [oT 10], ⟨none, (.ld none), [oT 11], some 12, 3, true, []⟩, yS 4 13 .mov [oT 5], yS 5 14 .mov [oT 1], ⟨none, .call, [oF 93, oT 14], some 15, 6, false, [3]⟩, ⟨none, .call, [oF 92, oT 13, oT 15], some 16, 7, false, [3]⟩, yS 8 17 .lenS [oT 16], yS 9 18 (.slS 1 false true) [oT 12, oT 17], yS 10 4 .mov [oT 18]]) .ret)))
theorem xd35_ok : compF Try.prog 35 = some ⟨19, [(.tmp 4)], xd35.er⟩ := by kernel_rfl
def g35 (f0 rows1 : Value) (H : AH) (R : Value → AH → Prop) : Prop :=
 @letH (H ++ [.cells (cellsL f0) 61 none false]) ⟨fun H1 =>
 @bindO (xload (some 3) H1 [(.pointer (some ⟨H.length, 0, none⟩))]) ⟨fun v6 =>
 @cG 91 [v6, rows1] H1 ⟨fun v8 H2 =>
 @bindO (xpure .nilc [v8]) ⟨fun v10 =>
 @bindO (xpure (.fld 3) [v10]) ⟨fun v11 =>
 @bindO (xload none H2 [v11]) ⟨fun v12 =>
 @cG 93 [rows1] H2 ⟨fun v15 H3 =>
 (chkX [3] (⟨3, none, [v11], v12⟩ :: []) H3 ∧ @cG 92 [v8, v15] H3 ⟨fun v16 H4 =>
 (chkX [3] (⟨3, none, [v11], v12⟩ :: []) H4 ∧ @bindO (xpure .lenS [v16]) ⟨fun v17 =>
 @bindO (xpure (.slS 1 false true) [v12, v17]) ⟨fun v18 =>
 R v18 H4⟩⟩)⟩)⟩⟩⟩⟩⟩⟩⟩
theorem g35_of {f0 rows1 : Value} {H : AH} {R : Value → AH → Prop} (h : g35 f0 rows1 H R) : FN Try.prog 35 [f0, rows1] H R :=
  FN.of_XD mixed xd35_ok (by kernel_rfl) (Nat.le_of_ble_eq_true rfl) (cast (by kernel_rfl) h)
def xd37 : XD := (.seq (.reg [yS 0 2 (.box 61) [oT 0], yS 1 4 .mov [oC (nv 0)]]) (.seq (.reg [yS 0 5 (.ld (some 3)) [oT 2], yS 1 6 .mov [oT 1], yS 2 7 .call [oF 35, oT 5, oT 6], yS 3 8 .lenS [oT 7], yS 4 4 .mov [oT 8]]) .ret))
theorem xd37_ok : compF Try.prog 37 = some ⟨9, [(.tmp 4)], xd37.er⟩ := by kernel_rfl
def g37 (f0 rows1 : Value) (H : AH) (R : Value → AH → Prop) : Prop :=
 @letH (H ++ [.cells (cellsL f0) 61 none false]) ⟨fun H1 =>
 @bindO (xload (some 3) H1 [(.pointer (some ⟨H.length, 0, none⟩))]) ⟨fun v5 =>
 @cG 35 [v5, rows1] H1 ⟨fun v7 H2 =>
 @bindO (xpure .lenS [v7]) ⟨fun v8 =>
 R v8 H2⟩⟩⟩⟩
theorem g37_of {f0 rows1 : Value} {H : AH} {R : Value → AH → Prop} (h : g37 f0 rows1 H R) : FN Try.prog 37 [f0, rows1] H R :=
  FN.of_XD mixed xd37_ok (by kernel_rfl) (Nat.le_of_ble_eq_true rfl) (cast (by kernel_rfl) h)
def xd38 : XD := (.seq (.reg [yS 0 3 (.box 61) [oT 0], yS 1 6 .mov [oC (.slice none 0 0)]]) (.seq (.reg [yS 0 14 (.ld (some 3)) [oT 3], yS 1 15 .mov [oT 2], yS 2 16 .call [oF 91, oT 14, oT 15], yS 3 7 .mov [oT 16]]) (.seq (.reg [yS 0 8 .mov [oC (.slice none 0 0)]]) (.join [8] 8257792 (.seq (.reg [yS 0 17 .mov [oT 2], yS 1 18 .lenS [oT 17], yS 2 19 (.bin .gtr 0) [oT 18, oC (nv 0)]]) (.cond (oT 19) (.reg [yS 0 20 .mov [oT 7], yS 1 21 .mov [oT 1], yS 2 22 .call [oF 92, oT 20, oT 21], yS 3 8 .mov [oT 22]]) .skip)) (.seq (.reg [yS 0 9 .mov [oC (.slice none 0 0)]]) (.seq (.seq (.reg [yS 0 23 .mov [oT 1], yS 1 24 .mov [oC (nv 0)]]) (.block 0 (.loop [9, 24] 9223372036838014464 (.seq (.reg [yS 0 25 (.bin .lss 0) [oT 24, oT 23]]) (.seq (.cond (oT 25) .skip (.exit 0)) (.seq (.block 1 (.seq (.reg [yS 0 26 .mov [oT 24], yS 1 10 .mov [oT 26]]) (.seq (.seq (.reg [yS 0 27 .mov [oT 8], yS 1 28 .mov [oT 10], yS 2 29 .call [oF 95, oT 27, oT 28]]) (.cond (oT 29) (.exit 1) .skip)) (.seq (.reg [yS 0 30 .mov [oT 1], yS 1 31 (.make (nv 0) 1 8 3) [oT 30, oT 30], yS 2 11 .mov [oT 31]]) (.seq (.reg [yS 0 32 .mov [oT 11], yS 1 33 .mov [oT 10], yS 2 34 (.ixS 1) [oT 32, oT 33], yN 3 (.st 1) [oT 34, oC (nv 1)]]) (.seq (.seq (.reg [yS 0 35 .mov [oT 8], yS 1 36 .lenS [oT 35], yS 2 37 .mov [oC (nv 0)]]) (.block 2 (.loop [37] 288230238712770560 (.seq (.reg [yS 0 38 (.bin .lss 0) [oT 37, oT 36]]) (.seq (.cond (oT 38) .skip (.exit 2)) (.seq (.block 3 (.seq (.reg [yS 0 39 .mov [oT 37], yS 1 40 (.ixS 1) [oT 35, oT 37], yS 2 41 (.ld none) [oT 40], yS 3 12 .mov [oT 39], yS 4 13 .mov [oT 41]]) (.reg [yS 0 42 .mov [oT 11], yS 1 43 .mov [oT 13], yS 2 44 (.ld (some 3)) [oT 3], yS 3 45 .mov [oT 7], yS 4 46 .nilc [oT 45], yS 5 47 (.fld 3) [oT 46], yS 6 48 (.ld none) [oT 47], yS 7 49 .mov [oT 12], yS 8 50 (.ixS 1) [oT 48, oT 49], yS 9 51 (.ld none) [oT 50], yS 10 52 .mov [oT 10], yS 11 53 (.ixS 1) [oT 51, oT 52], yS 12 54 (.ld none) [oT 53], yS 13 55 .call [oF 96, oT 44, oT 54], yS 14 56 (.ixS 1) [oT 42, oT 43], yN 15 (.st 1) [oT 56, oT 55]]))) (.reg [yS 0 57 (.bin .add 0) [oT 37, oC (nv 1)], yS 1 37 .mov [oT 57]]))))))) (.reg [yS 0 58 .mov [oT 9], yS 1 59 .mov [oT 11], yS 2 60 (.bsl [(.slice none 0 0)] 1 [(0, 1)] 26) [oT 59], yS 3 61 (.app 26 1 24) [oT 58, oT 60], yS 4 9 .mov [oT 61]]))))))) (.reg [yS 0 62 (.bin .add 0) [oT 24, oC (nv 1)], yS 1 24 .mov [oT 62]]))))))) (.seq (.reg [yS 0 63 (.ld (some 3)) [oT 3], yS 1 64 .mov [oT 9], yS 2 65 .call [oF 35, oT 63, oT 64], yS 3 6 .mov [oT 65]]) .ret)))))))
theorem xd38_ok : compF Try.prog 38 = some ⟨66, [(.tmp 6)], xd38.er⟩ := by kernel_rfl
def g38 (f0 n1 rows2 : Value) (H : AH) (R : Value → AH → Prop) : Prop :=
 @letH (H ++ [.cells (cellsL f0) 61 none false]) ⟨fun H1 =>
 @bindO (xload (some 3) H1 [(.pointer (some ⟨H.length, 0, none⟩))]) ⟨fun v14 =>
 @cG 91 [v14, rows2] H1 ⟨fun v16 H2 =>
 @joinV1 (fun J1 => @bindO (xpure .lenS [rows2]) ⟨fun v18 =>
 @bindO (xbin .gtr 0 v18 (nv 0)) ⟨fun v19 =>
 @condK v19 ⟨fun q => if q = true then @cG 92 [v16, n1] H2 ⟨fun v22 H3 =>
 J1 v22 H3⟩ else
 J1 (.slice none 0 0) H2⟩⟩⟩) ⟨fun pivots8 H4 =>
 @loopV2 (.slice none 0 0) (nv 0) H4 ⟨fun l9 v24 H5 K2 =>
 @bindO (xbin .lss 0 v24 n1) ⟨fun v25 =>
 @condK v25 ⟨fun q => if q = true then @cG 95 [pivots8, v24] H5 ⟨fun v29 H6 =>
 @condK v29 ⟨fun q => if q = true then @bindO (xbin .add 0 v24 (nv 1)) ⟨fun v62 =>
 K2 l9 v62 H6⟩ else
 @bindN (xnew (.make (nv 0) 1 8 3) [n1, n1]) ⟨fun cv31 ev31 mkv31 => @letH (H6 ++ [.cells cv31 ev31 none false]) ⟨fun H7 =>
 @bindO (xpure (.ixS 1) [(mkv31 H6.length), v24]) ⟨fun v34 =>
 @bindP (xact (.st 1) H7 [v34, (nv 1)]) ⟨fun _v H8 =>
 @bindO (xpure .lenS [pivots8]) ⟨fun v36 =>
 @loopV1 (nv 0) H8 ⟨fun v37 H9 K3 =>
 @bindO (xbin .lss 0 v37 v36) ⟨fun v38 =>
 @condK v38 ⟨fun q => if q = true then @bindO (xpure (.ixS 1) [pivots8, v37]) ⟨fun v40 =>
 @bindO (xload none H9 [v40]) ⟨fun v41 =>
 @bindO (xload (some 3) H9 [(.pointer (some ⟨H.length, 0, none⟩))]) ⟨fun v44 =>
 @bindO (xpure .nilc [v16]) ⟨fun v46 =>
 @bindO (xpure (.fld 3) [v46]) ⟨fun v47 =>
 @bindO (xload none H9 [v47]) ⟨fun v48 =>
 @bindO (xpure (.ixS 1) [v48, v37]) ⟨fun v50 =>
 @bindO (xload none H9 [v50]) ⟨fun v51 =>
 @bindO (xpure (.ixS 1) [v51, v24]) ⟨fun v53 =>
 @bindO (xload none H9 [v53]) ⟨fun v54 =>
 @cG 96 [v44, v54] H9 ⟨fun v55 H10 =>
 @bindO (xpure (.ixS 1) [(mkv31 H6.length), v41]) ⟨fun v56 =>
 @bindP (xact (.st 1) H10 [v56, v55]) ⟨fun _v H11 =>
 @bindO (xbin .add 0 v37 (nv 1)) ⟨fun v57 =>
 K3 v57 H11⟩⟩⟩⟩⟩⟩⟩⟩⟩⟩⟩⟩⟩⟩ else
 @bindL (xfill [(.slice none 0 0)] [(0, 1)] [(mkv31 H6.length)]) ⟨fun cv60 => @letH (H9 ++ [.cells cv60 26 none false]) ⟨fun H12 =>
 @bindP (xact (.app 26 1 24) H12 [l9, (.slice (some ⟨H9.length, 0, none⟩) 1 1)]) ⟨fun v61 H13 =>
 @bindO (xbin .add 0 v24 (nv 1)) ⟨fun v62a =>
 K2 v61 v62a H13⟩⟩⟩⟩⟩⟩⟩⟩⟩⟩⟩⟩⟩⟩ else
 @bindO (xload (some 3) H5 [(.pointer (some ⟨H.length, 0, none⟩))]) ⟨fun v63 =>
 @cG 35 [v63, l9] H5 ⟨fun v65 H14 =>
 R v65 H14⟩⟩⟩⟩⟩⟩⟩⟩⟩
theorem g38_of {f0 n1 rows2 : Value} {H : AH} {R : Value → AH → Prop} (h : g38 f0 n1 rows2 H R) : FN Try.prog 38 [f0, n1, rows2] H R :=
  FN.of_XD mixed xd38_ok (by kernel_rfl) (Nat.le_of_ble_eq_true rfl) (cast (by kernel_rfl) h)
def xd40 : XD := (.seq (.reg [yS 0 4 .mov [oC (.bool false)]]) (.seq (.seq (.reg [yS 0 6 .mov [oT 0], yS 1 7 .lenS [oT 6], yS 2 8 .mov [oT 1], yS 3 9 .lenS [oT 8], yS 4 10 (.bin .neq 0) [oT 7, oT 9]]) (.cond (oT 10) (.seq (.reg [yS 0 4 .mov [oC (.bool false)]]) .ret) .skip)) (.seq (.seq (.reg [yS 0 5 .mov [oC (nv 0)]]) (.block 0 (.loop [5] 67106864 (.seq (.seq (.reg [yS 0 11 .mov [oT 5], yS 1 12 .mov [oT 0], yS 2 13 .lenS [oT 12], yS 3 14 (.bin .lss 0) [oT 11, oT 13]]) (.cond (oT 14) .skip (.exit 0))) (.seq (.block 1 (.seq (.reg [yS 0 17 .mov [oT 0], yS 1 18 .mov [oT 5], yS 2 19 (.ixS 1) [oT 17, oT 18], yS 3 20 (.ld none) [oT 19], yS 4 21 .mov [oT 1], yS 5 22 .mov [oT 5], yS 6 23 (.ixS 1) [oT 21, oT 22], yS 7 24 (.ld none) [oT 23], yS 8 25 (.bin .neq 0) [oT 20, oT 24]]) (.cond (oT 25) (.seq (.reg [yS 0 4 .mov [oC (.bool false)]]) .ret) .skip))) (.reg [yS 0 15 .mov [oT 5], yS 1 16 (.bin .add 0) [oT 15, oC (nv 1)], yS 2 5 .mov [oT 16]])))))) (.seq (.reg [yS 0 4 .mov [oC (.bool true)]]) .ret))))
theorem xd40_ok : compF Try.prog 40 = some ⟨26, [(.tmp 4)], xd40.er⟩ := by kernel_rfl
def g40 (a0 b1 : Value) (H : AH) (R : Value → AH → Prop) : Prop :=
 @bindO (xpure .lenS [a0]) ⟨fun v7 =>
 @bindO (xpure .lenS [b1]) ⟨fun v9 =>
 @bindO (xbin .neq 0 v7 v9) ⟨fun v10 =>
 @condK v10 ⟨fun q => if q = true then R (.bool false) H else
 @loopV1 (nv 0) H ⟨fun i5 H1 K1 =>
 @bindO (xpure .lenS [a0]) ⟨fun v13 =>
 @bindO (xbin .lss 0 i5 v13) ⟨fun v14 =>
 @condK v14 ⟨fun q => if q = true then @bindO (xpure (.ixS 1) [a0, i5]) ⟨fun v19 =>
 @bindO (xload none H1 [v19]) ⟨fun v20 =>
 @bindO (xpure (.ixS 1) [b1, i5]) ⟨fun v23 =>
 @bindO (xload none H1 [v23]) ⟨fun v24 =>
 @bindO (xbin .neq 0 v20 v24) ⟨fun v25 =>
 @condK v25 ⟨fun q => if q = true then R (.bool false) H1 else
 @bindO (xbin .add 0 i5 (nv 1)) ⟨fun v16 =>
 K1 v16 H1⟩⟩⟩⟩⟩⟩⟩ else
 R (.bool true) H1⟩⟩⟩⟩⟩⟩⟩⟩
theorem g40_of {a0 b1 : Value} {H : AH} {R : Value → AH → Prop} (h : g40 a0 b1 H R) : FN Try.prog 40 [a0, b1] H R :=
  FN.of_XD mixed xd40_ok (by kernel_rfl) (Nat.le_of_ble_eq_true rfl) (cast (by kernel_rfl) h)
def xd41 : XD := (.seq (.reg [yS 0 3 (.box 61) [oT 0], yS 1 6 .mov [oC (.slice none 0 0)]]) (.seq (.reg [yS 0 12 .mov [oT 1], yS 1 13 .lenS [oT 12], yS 2 14 (.make (nv 0) 1 8 3) [oT 13, oT 13], yS 3 7 .mov [oT 14]]) (.seq (.seq (.reg [yS 0 15 .mov [oT 1], yS 1 16 .lenS [oT 15], yS 2 17 .mov [oC (nv 0)]]) (.block 0 (.loop [17] 140737488228096 (.seq (.reg [yS 0 18 (.bin .lss 0) [oT 17, oT 16]]) (.seq (.cond (oT 18) .skip (.exit 0)) (.seq (.block 1 (.seq (.reg [yS 0 19 .mov [oT 17], yS 1 20 (.ixS 1) [oT 15, oT 17], yS 2 21 (.ld none) [oT 20], yS 3 8 .mov [oT 19], yS 4 9 .mov [oT 21]]) (.seq (.reg [yS 0 22 .mov [oT 9], yS 1 23 .lenS [oT 22], yS 2 24 .mov [oC (nv 0)]]) (.block 2 (.loop [24] 70368727403520 (.seq (.reg [yS 0 25 (.bin .lss 0) [oT 24, oT 23]]) (.seq (.cond (oT 25) .skip (.exit 2)) (.seq (.block 3 (.seq (.reg [yS 0 26 .mov [oT 24], yS 1 27 (.ixS 1) [oT 22, oT 24], yS 2 28 (.ld none) [oT 27], yS 3 10 .mov [oT 26], yS 4 11 .mov [oT 28]]) (.reg [yS 0 29 .mov [oT 7], yS 1 30 .mov [oT 8], ⟨none, (.ld (some 3)), [oT 3], some 31, 2, true, []⟩, yS 3 32 .mov [oT 7], yS 4 33 .mov [oT 8], yS 5 34 (.ixS 1) [oT 32, oT 33], ⟨none, (.ld none), [oT 34], some 35, 6, true, []⟩, yS 7 36 (.ld (some 3)) [oT 3], yS 8 37 .mov [oT 11], yS 9 38 .mov [oT 2], yS 10 39 .mov [oT 10], yS 11 40 (.ixS 1) [oT 38, oT 39], yS 12 41 (.ld none) [oT 40], ⟨none, .call, [oF 98, oT 36, oT 37, oT 41], some 42, 13, false, [6, 2]⟩, yS 14 43 .call [oF 97, oT 31, oT 35, oT 42], yS 15 44 (.ixS 1) [oT 29, oT 30], yN 16 (.st 1) [oT 44, oT 43]]))) (.reg [yS 0 45 (.bin .add 0) [oT 24, oC (nv 1)], yS 1 24 .mov [oT 45]]))))))))) (.reg [yS 0 46 (.bin .add 0) [oT 17, oC (nv 1)], yS 1 17 .mov [oT 46]]))))))) (.seq (.reg [yS 0 47 .mov [oT 7], yS 1 6 .mov [oT 47]]) .ret))))
theorem xd41_ok : compF Try.prog 41 = some ⟨48, [(.tmp 6)], xd41.er⟩ := by kernel_rfl
def g41 (f0 rows1 x2 : Value) (H : AH) (R : Value → AH → Prop) : Prop :=
 @letH (H ++ [.cells (cellsL f0) 61 none false]) ⟨fun H1 =>
 @bindO (xpure .lenS [rows1]) ⟨fun v13 =>
 @bindN (xnew (.make (nv 0) 1 8 3) [v13, v13]) ⟨fun cv14 ev14 mkv14 => @letH (H1 ++ [.cells cv14 ev14 none false]) ⟨fun H2 =>
 @bindO (xpure .lenS [rows1]) ⟨fun v16 =>
 @loopV1 (nv 0) H2 ⟨fun v17 H3 K1 =>
 @bindO (xbin .lss 0 v17 v16) ⟨fun v18 =>
 @condK v18 ⟨fun q => if q = true then @bindO (xpure (.ixS 1) [rows1, v17]) ⟨fun v20 =>
 @bindO (xload none H3 [v20]) ⟨fun v21 =>
 @bindO (xpure .lenS [v21]) ⟨fun v23 =>
 @loopV1 (nv 0) H3 ⟨fun v24 H4 K2 =>
 @bindO (xbin .lss 0 v24 v23) ⟨fun v25 =>
 @condK v25 ⟨fun q => if q = true then @bindO (xpure (.ixS 1) [v21, v24]) ⟨fun v27 =>
 @bindO (xload none H4 [v27]) ⟨fun v28 =>
 @bindO (xload (some 3) H4 [(.pointer (some ⟨H.length, 0, none⟩))]) ⟨fun v31 =>
 @bindO (xpure (.ixS 1) [(mkv14 H1.length), v17]) ⟨fun v34 =>
 @bindO (xload none H4 [v34]) ⟨fun v35 =>
 @bindO (xload (some 3) H4 [(.pointer (some ⟨H.length, 0, none⟩))]) ⟨fun v36 =>
 @bindO (xpure (.ixS 1) [x2, v24]) ⟨fun v40 =>
 @bindO (xload none H4 [v40]) ⟨fun v41 =>
 @cG 98 [v36, v28, v41] H4 ⟨fun v42 H5 =>
 (chkX [6, 2] (⟨6, none, [v34], v35⟩ :: (⟨2, (some 3), [(.pointer (some ⟨H.length, 0, none⟩))], v31⟩ :: [])) H5 ∧ @cG 97 [v31, v35, v42] H5 ⟨fun v43 H6 =>
 @bindO (xpure (.ixS 1) [(mkv14 H1.length), v17]) ⟨fun v44 =>
 @bindP (xact (.st 1) H6 [v44, v43]) ⟨fun _v H7 =>
 @bindO (xbin .add 0 v24 (nv 1)) ⟨fun v45 =>
 K2 v45 H7⟩⟩⟩⟩)⟩⟩⟩⟩⟩⟩⟩⟩⟩ else
 @bindO (xbin .add 0 v17 (nv 1)) ⟨fun v46 =>
 K1 v46 H4⟩⟩⟩⟩⟩⟩⟩ else
 R (mkv14 H1.length) H3⟩⟩⟩⟩⟩⟩⟩⟩
theorem g41_of {f0 rows1 x2 : Value} {H : AH} {R : Value → AH → Prop} (h : g41 f0 rows1 x2 H R) : FN Try.prog 41 [f0, rows1, x2] H R :=
  FN.of_XD mixed xd41_ok (by kernel_rfl) (Nat.le_of_ble_eq_true rfl) (cast (by kernel_rfl) h)
def xd42 : XD := (.seq (.reg [yS 0 3 (.box 61) [oT 0], yS 1 6 .mov [oC (.slice none 0 0)]]) (.seq (.reg [yS 0 9 (.bsl [] 0 [] 3) [], yS 1 7 .mov [oT 9]]) (.seq (.seq (.reg [yS 0 8 .mov [oC (nv 0)]]) (.block 0 (.loop [7, 8] 67108224 (.seq (.seq (.reg [yS 0 10 .mov [oT 8], yS 1 11 .mov [oT 1], yS 2 12 .lenS [oT 11], yS 3 13 (.bin .lss 0) [oT 10, oT 12]]) (.cond (oT 13) .skip (.exit 0))) (.seq (.block 1 (.reg [yS 0 16 .mov [oT 7], yS 1 17 (.ld (some 3)) [oT 3], yS 2 18 .mov [oT 1], yS 3 19 .mov [oT 8], yS 4 20 (.ixS 1) [oT 18, oT 19], yS 5 21 (.ld none) [oT 20], yS 6 22 .mov [oT 2], yS 7 23 .call [oF 66, oT 17, oT 21, oT 22], yS 8 24 (.bsl [(nv 0)] 1 [(0, 1)] 3) [oT 23], yS 9 25 (.app 3 1 8) [oT 16, oT 24], yS 10 7 .mov [oT 25]])) (.reg [yS 0 14 .mov [oT 8], yS 1 15 (.bin .add 0) [oT 14, oC (nv 1)], yS 2 8 .mov [oT 15]])))))) (.seq (.reg [yS 0 26 .mov [oT 7], yS 1 6 .mov [oT 26]]) .ret))))
theorem xd42_ok : compF Try.prog 42 = some ⟨27, [(.tmp 6)], xd42.er⟩ := by kernel_rfl
def g42 (f0 rows1 x2 : Value) (H : AH) (R : Value → AH → Prop) : Prop :=
 @letH (H ++ [.cells (cellsL f0) 61 none false]) ⟨fun H1 =>
 @bindL (xfill [] [] []) ⟨fun cv9 => @letH (H1 ++ [.cells cv9 3 none false]) ⟨fun H2 =>
 @loopV2 (.slice (some ⟨H1.length, 0, none⟩) 0 0) (nv 0) H2 ⟨fun out7 i8 H3 K1 =>
 @bindO (xpure .lenS [rows1]) ⟨fun v12 =>
 @bindO (xbin .lss 0 i8 v12) ⟨fun v13 =>
 @condK v13 ⟨fun q => if q = true then @bindO (xload (some 3) H3 [(.pointer (some ⟨H.length, 0, none⟩))]) ⟨fun v17 =>
 @bindO (xpure (.ixS 1) [rows1, i8]) ⟨fun v20 =>
 @bindO (xload none H3 [v20]) ⟨fun v21 =>
 @cG 66 [v17, v21, x2] H3 ⟨fun v23 H4 =>
 @bindL (xfill [(nv 0)] [(0, 1)] [v23]) ⟨fun cv24 => @letH (H4 ++ [.cells cv24 3 none false]) ⟨fun H5 =>
 @bindP (xact (.app 3 1 8) H5 [out7, (.slice (some ⟨H4.length, 0, none⟩) 1 1)]) ⟨fun v25 H6 =>
 @bindO (xbin .add 0 i8 (nv 1)) ⟨fun v15 =>
 K1 v25 v15 H6⟩⟩⟩⟩⟩⟩⟩⟩ else
 R out7 H3⟩⟩⟩⟩⟩⟩⟩
theorem g42_of {f0 rows1 x2 : Value} {H : AH} {R : Value → AH → Prop} (h : g42 f0 rows1 x2 H R) : FN Try.prog 42 [f0, rows1, x2] H R :=
  FN.of_XD mixed xd42_ok (by kernel_rfl) (Nat.le_of_ble_eq_true rfl) (cast (by kernel_rfl) h)
def xd43 : XD := (.seq (.reg [yS 0 2 (.box 76) [oT 0], yS 1 3 (.box 76) [oT 1], yS 2 4 .mov [oC (.bool false)]]) (.seq (.reg [yS 0 5 (.fld 1) [oT 2], yS 1 6 (.ld none) [oT 5], yS 2 7 (.fld 1) [oT 3], yS 3 8 (.ld none) [oT 7], yS 4 9 (.bin .eql 0) [oT 6, oT 8], yS 5 10 .mov [oT 9], yG (some (10, true)) 6 (some 11) (.fld 0) [oT 2], yG (some (10, true)) 7 (some 12) (.ld none) [oT 11], yG (some (10, true)) 8 (some 13) (.fld 0) [oT 3], yG (some (10, true)) 9 (some 14) (.ld none) [oT 13], yG (some (10, true)) 10 (some 15) .call [oF 40, oT 12, oT 14], yS 11 16 .pick [oT 10, oT 15, oC (.bool false)], yS 12 4 .mov [oT 16]]) .ret))
theorem xd43_ok : compF Try.prog 43 = some ⟨17, [(.tmp 4)], xd43.er⟩ := by kernel_rfl
def g43 (a0 b1 : Value) (H : AH) (R : Value → AH → Prop) : Prop :=
 @letH (H ++ [.cells (cellsL a0) 76 none false]) ⟨fun H1 =>
 @letH (H1 ++ [.cells (cellsL b1) 76 none false]) ⟨fun H2 =>
 @bindO (xpure (.fld 1) [(.pointer (some ⟨H.length, 0, none⟩))]) ⟨fun v5 =>
 @bindO (xload none H2 [v5]) ⟨fun v6 =>
 @bindO (xpure (.fld 1) [(.pointer (some ⟨H1.length, 0, none⟩))]) ⟨fun v7 =>
 @bindO (xload none H2 [v7]) ⟨fun v8 =>
 @bindO (xbin .eql 0 v6 v8) ⟨fun v9 =>
 @guardJ (asB v9) (fun J1 => @bindO (xpure (.fld 0) [(.pointer (some ⟨H.length, 0, none⟩))]) ⟨fun v11 =>
 J1 v11 H2⟩) H2 ⟨fun v11a H3 =>
 @guardJ (asB v9) (fun J2 => @bindO (xload none H3 [v11a]) ⟨fun v12 =>
 J2 v12 H3⟩) H3 ⟨fun v12a H4 =>
 @guardJ (asB v9) (fun J3 => @bindO (xpure (.fld 0) [(.pointer (some ⟨H1.length, 0, none⟩))]) ⟨fun v13 =>
 J3 v13 H4⟩) H4 ⟨fun v13a H5 =>
 @guardJ (asB v9) (fun J4 => @bindO (xload none H5 [v13a]) ⟨fun v14 =>
 J4 v14 H5⟩) H5 ⟨fun v14a H6 =>
 @guardJ (asB v9) (fun J5 => @cG 40 [v12a, v14a] H6 ⟨fun v15 H7 =>
 J5 v15 H7⟩) H6 ⟨fun v15a H8 =>
 @pickK v9 v15a (.bool false) ⟨fun v16 =>
 R v16 H8⟩⟩⟩⟩⟩⟩⟩⟩⟩⟩⟩⟩⟩
theorem g43_of {a0 b1 : Value} {H : AH} {R : Value → AH → Prop} (h : g43 a0 b1 H R) : FN Try.prog 43 [a0, b1] H R :=
  FN.of_XD mixed xd43_ok (by kernel_rfl) (Nat.le_of_ble_eq_true rfl) (cast (by kernel_rfl) h)
def xd44 : XD := (.seq (.reg [yS 0 2 (.box 63) [oT 0], yS 1 4 (.new [(.slice none 0 0), (nv 0)] 76) []]) (.seq (.reg [yS 0 8 (.fld 0) [oT 2], yS 1 9 (.ld (some 3)) [oT 8], yS 2 10 (.fld 3) [oT 2], yS 3 11 (.ld none) [oT 10], yS 4 12 (.fld 4) [oT 2], yS 5 13 (.ld none) [oT 12], yS 6 14 .mov [oT 1], yS 7 15 .call [oF 99, oT 9, oT 11, oT 13, oT 14], yS 8 7 .mov [oT 15], yS 9 16 (.ext 0) [oT 7], yS 10 17 (.ext 1) [oT 7], yS 11 5 .mov [oT 16], yS 12 6 .mov [oT 17]]) (.seq (.reg [yS 0 18 .mov [oT 5], yS 1 19 .mov [oT 6], yS 2 20 (.bld [(.slice none 0 0), (nv 0)] [(0, 1), (1, 1)]) [oT 18, oT 19], yN 3 (.st 2) [oT 4, oT 20]]) .ret)))
theorem xd44_ok : compF Try.prog 44 = some ⟨21, [(.cell 4 (some 2))], xd44.er⟩ := by kernel_rfl
def g44 (m0 b1 : Value) (H : AH) (R : Value → AH → Prop) : Prop :=
 @letH (H ++ [.cells (cellsL m0) 63 none false]) ⟨fun H1 =>
 @letH (H1 ++ [.cells [(.slice none 0 0), (nv 0)] 76 none false]) ⟨fun H2 =>
 @bindO (xpure (.fld 0) [(.pointer (some ⟨H.length, 0, none⟩))]) ⟨fun v8 =>
 @bindO (xload (some 3) H2 [v8]) ⟨fun v9 =>
 @bindO (xpure (.fld 3) [(.pointer (some ⟨H.length, 0, none⟩))]) ⟨fun v10 =>
 @bindO (xload none H2 [v10]) ⟨fun v11 =>
 @bindO (xpure (.fld 4) [(.pointer (some ⟨H.length, 0, none⟩))]) ⟨fun v12 =>
 @bindO (xload none H2 [v12]) ⟨fun v13 =>
 @cG 99 [v9, v11, v13, b1] H2 ⟨fun v15 H3 =>
 @bindO (xpure (.ext 0) [v15]) ⟨fun v16 =>
 @bindO (xpure (.ext 1) [v15]) ⟨fun v17 =>
 @bindL (xfill [(.slice none 0 0), (nv 0)] [(0, 1), (1, 1)] [v16, v17]) ⟨fun v20 =>
 @bindP (xact (.st 2) H3 [(.pointer (some ⟨H1.length, 0, none⟩)), (.agg v20.toArray)]) ⟨fun _v H4 =>
 @bindO (xload (some 2) H4 [(.pointer (some ⟨H1.length, 0, none⟩))]) ⟨fun r0 => R r0 H4⟩⟩⟩⟩⟩⟩⟩⟩⟩⟩⟩⟩⟩⟩
theorem g44_of {m0 b1 : Value} {H : AH} {R : Value → AH → Prop} (h : g44 m0 b1 H R) : FN Try.prog 44 [m0, b1] H R :=
  FN.of_XD mixed xd44_ok (by kernel_rfl) (Nat.le_of_ble_eq_true rfl) (cast (by kernel_rfl) h)
def g45 (m0 b1 : Value) (H : AH) (R : Value → AH → Prop) : Prop :=
 @letH (H ++ [.cells (cellsL m0) 63 none false]) ⟨fun H1 =>
 @letH (H1 ++ [.cells [(.slice none 0 0), (nv 0)] 76 none false]) ⟨fun H2 =>
 @bindL (xfill [] [] []) ⟨fun cv10 => @letH (H2 ++ [.cells cv10 26 none false]) ⟨fun H3 =>
 @loopV2 (.slice (some ⟨H2.length, 0, none⟩) 0 0) (nv 0) H3 ⟨fun l5 i6 H4 K1 =>
 @bindO (xpure (.fld 4) [(.pointer (some ⟨H.length, 0, none⟩))]) ⟨fun v12 =>
 @bindO (xload none H4 [v12]) ⟨fun v13 =>
 @bindO (xpure .lenS [v13]) ⟨fun v14 =>
 @bindO (xbin .lss 0 i6 v14) ⟨fun v15 =>
 @condK v15 ⟨fun q => if q = true then @bindL (xfill [] [] []) ⟨fun cv19 => @letH (H4 ++ [.cells cv19 3 none false]) ⟨fun H5 =>
 @bindO (xpure (.fld 4) [(.pointer (some ⟨H.length, 0, none⟩))]) ⟨fun v20 =>
 @bindO (xload none H5 [v20]) ⟨fun v21 =>
 @bindO (xpure (.ixS 1) [v21, i6]) ⟨fun v23 =>
 @bindO (xload none H5 [v23]) ⟨fun v24 =>
 @bindO (xpure (.ixS 1) [b1, i6]) ⟨fun v28 =>
 @bindO (xload none H5 [v28]) ⟨fun v29 =>
 @bindL (xfill [(nv 0)] [(0, 1)] [v29]) ⟨fun cv30 => @letH (H5 ++ [.cells cv30 3 none false]) ⟨fun H6 =>
 @bindP (xact (.app 3 1 8) H6 [(.slice (some ⟨H4.length, 0, none⟩) 0 0), v24]) ⟨fun v25 H7 =>
 (chkX [11] (⟨11, none, [v28], v29⟩ :: []) H7 ∧ @bindP (xact (.app 3 1 8) H7 [v25, (.slice (some ⟨H5.length, 0, none⟩) 1 1)]) ⟨fun v31 H8 =>
 @bindL (xfill [(.slice none 0 0)] [(0, 1)] [v31]) ⟨fun cv32 => @letH (H8 ++ [.cells cv32 26 none false]) ⟨fun H9 =>
 @bindP (xact (.app 26 1 24) H9 [l5, (.slice (some ⟨H8.length, 0, none⟩) 1 1)]) ⟨fun v33 H10 =>
 @bindO (xbin .add 0 i6 (nv 1)) ⟨fun v17 =>
 K1 v33 v17 H10⟩⟩⟩⟩⟩)⟩⟩⟩⟩⟩⟩⟩⟩⟩⟩⟩ else
 @bindO (xpure (.fld 0) [(.pointer (some ⟨H.length, 0, none⟩))]) ⟨fun v34 =>
 @bindO (xload (some 3) H4 [v34]) ⟨fun v35 =>
 @cG 36 [v35, l5] H4 ⟨fun v37 H11 =>
 @bindO (xpure (.fld 3) [(.pointer (some ⟨H.length, 0, none⟩))]) ⟨fun v38 =>
 @bindO (xload none H11 [v38]) ⟨fun v39 =>
 @cG 64 [v39] H11 ⟨fun v40 H12 =>
 @loopV1 (nv 0) H12 ⟨fun i8 H13 K2 =>
 @bindO (xpure .lenS [v37]) ⟨fun v43 =>
 @bindO (xbin .lss 0 i8 v43) ⟨fun v44 =>
 @condK v44 ⟨fun q => if q = true then @bindO (xpure (.ixS 1) [v37, i8]) ⟨fun v49 =>
 @bindO (xload none H13 [v49]) ⟨fun v50 =>
 @cG 65 [v50] H13 ⟨fun v51 H14 =>
 @bindO (xpure (.fld 3) [(.pointer (some ⟨H.length, 0, none⟩))]) ⟨fun v53 =>
 @bindO (xload none H14 [v53]) ⟨fun v54 =>
 @bindO (xbin .eql 0 v51 v54) ⟨fun v55 =>
 @condK v55 ⟨fun q => if q = true then @bindL (xfill [(.slice none 0 0), (nv 0)] [(1, 1)] [(nv 4)]) ⟨fun v56 =>
 @bindP (xact (.st 2) H14 [(.pointer (some ⟨H1.length, 0, none⟩)), (.agg v56.toArray)]) ⟨fun _v H15 =>
 @bindO (xload (some 2) H15 [(.pointer (some ⟨H1.length, 0, none⟩))]) ⟨fun r0 => R r0 H15⟩⟩⟩ else
 @bindO (xpure (.ixS 1) [v37, i8]) ⟨fun v61 =>
 @bindO (xload none H14 [v61]) ⟨fun v62 =>
 @bindO (xpure (.fld 3) [(.pointer (some ⟨H.length, 0, none⟩))]) ⟨fun v63 =>
 @bindO (xload none H14 [v63]) ⟨fun v64 =>
 @bindO (xpure (.ixS 1) [v62, v64]) ⟨fun v65 =>
 @bindO (xload none H14 [v65]) ⟨fun v66 =>
 @bindO (xpure (.ixS 1) [v40, v51]) ⟨fun v67 =>
 @bindP (xact (.st 1) H14 [v67, v66]) ⟨fun _v H16 =>
 @bindO (xbin .add 0 i8 (nv 1)) ⟨fun v46 =>
 K2 v46 H16⟩⟩⟩⟩⟩⟩⟩⟩⟩⟩⟩⟩⟩⟩⟩⟩ else
 @bindL (xfill [(.slice none 0 0), (nv 0)] [(0, 1)] [v40]) ⟨fun v69 =>
 @bindP (xact (.st 2) H13 [(.pointer (some ⟨H1.length, 0, none⟩)), (.agg v69.toArray)]) ⟨fun _v H17 =>
 @bindO (xload (some 2) H17 [(.pointer (some ⟨H1.length, 0, none⟩))]) ⟨fun r0 => R r0 H17⟩⟩⟩⟩⟩⟩⟩⟩⟩⟩⟩⟩⟩⟩⟩⟩⟩⟩⟩⟩⟩⟩⟩
def xd46 : XD := (.seq (.reg [yS 0 3 (.box 61) [oT 0], yS 1 6 .mov [oC (.bool false)]]) (.seq (.reg [⟨none, (.ld (some 3)), [oT 3], some 8, 0, true, []⟩, yS 1 9 .mov [oT 1], yS 3 11 .mov [oT 2], yS 4 12 (.bsl [(.slice none 0 0)] 1 [(0, 1)] 26) [oT 11], ⟨none, .call, [oF 100, oT 9], some 10, 2, false, [0]⟩, ⟨none, (.app 26 1 24), [oT 10, oT 12], some 13, 5, false, [0]⟩, yS 6 14 .call [oF 91, oT 8, oT 13], yS 7 7 .mov [oT 14]]) (.seq (.reg [yS 0 15 .mov [oT 7], yS 1 16 .mov [oT 2], yS 2 17 .lenS [oT 16], ⟨none, (.ld (some 3)), [oT 3], some 20, 5, true, []⟩, yS 6 21 .mov [oT 1], ⟨none, .call, [oF 92, oT 15, oT 17], some 18, 3, false, [5]⟩, yS 4 19 .lenS [oT 18], yS 7 22 .call [oF 37, oT 20, oT 21], yS 8 23 (.bin .eql 0) [oT 19, oT 22], yS 9 6 .mov [oT 23]]) .ret)))
theorem xd46_ok : compF Try.prog 46 = some ⟨24, [(.tmp 6)], xd46.er⟩ := by kernel_rfl
def g46 (f0 rows1 v2 : Value) (H : AH) (R : Value → AH → Prop) : Prop :=
 @letH (H ++ [.cells (cellsL f0) 61 none false]) ⟨fun H1 =>
 @bindO (xload (some 3) H1 [(.pointer (some ⟨H.length, 0, none⟩))]) ⟨fun v8 =>
 @bindL (xfill [(.slice none 0 0)] [(0, 1)] [v2]) ⟨fun cv12 => @letH (H1 ++ [.cells cv12 26 none false]) ⟨fun H2 =>
 @cG 100 [rows1] H2 ⟨fun v10 H3 =>
 (chkX [0] (⟨0, (some 3), [(.pointer (some ⟨H.length, 0, none⟩))], v8⟩ :: []) H3 ∧ @bindP (xact (.app 26 1 24) H3 [v10, (.slice (some ⟨H1.length, 0, none⟩) 1 1)]) ⟨fun v13 H4 =>
 (chkX [0] (⟨0, (some 3), [(.pointer (some ⟨H.length, 0, none⟩))], v8⟩ :: []) H4 ∧ @cG 91 [v8, v13] H4 ⟨fun v14 H5 =>
 @bindO (xpure .lenS [v2]) ⟨fun v17 =>
 @bindO (xload (some 3) H5 [(.pointer (some ⟨H.length, 0, none⟩))]) ⟨fun v20 =>
 @cG 92 [v14, v17] H5 ⟨fun v18 H6 =>
 (chkX [5] (⟨5, (some 3), [(.pointer (some ⟨H.length, 0, none⟩))], v20⟩ :: []) H6 ∧ @bindO (xpure .lenS [v18]) ⟨fun v19 =>
 @cG 37 [v20, rows1] H6 ⟨fun v22 H7 =>
 @bindO (xbin .eql 0 v19 v22) ⟨fun v23 =>
 R v23 H7⟩⟩⟩)⟩⟩⟩⟩)⟩)⟩⟩⟩⟩⟩
theorem g46_of {f0 rows1 v2 : Value} {H : AH} {R : Value → AH → Prop} (h : g46 f0 rows1 v2 H R) : FN Try.prog 46 [f0, rows1, v2] H R :=
  FN.of_XD mixed xd46_ok (by kernel_rfl) (Nat.le_of_ble_eq_true rfl) (cast (by kernel_rfl) h)
def xd48 : XD := (.seq (.reg [yS 0 3 (.box 61) [oT 0], yS 1 6 .mov [oC (.slice none 0 0)]]) (.seq (.reg [⟨none, (.ld (some 3)), [oT 3], some 7, 0, true, []⟩, yS 1 8 .mov [oT 1], yS 2 9 .mov [oT 2], yS 3 10 (.bsl [(.slice none 0 0), (.slice none 0 0)] 2 [(0, 1), (1, 1)] 27) [oT 8, oT 9], ⟨none, .call, [oF 102, oT 10], some 11, 4, false, [0]⟩, yS 5 12 .call [oF 35, oT 7, oT 11], yS 6 6 .mov [oT 12]]) .ret))
theorem xd48_ok : compF Try.prog 48 = some ⟨13, [(.tmp 6)], xd48.er⟩ := by kernel_rfl
def g48 (f0 a1 b2 : Value) (H : AH) (R : Value → AH → Prop) : Prop :=
 @letH (H ++ [.cells (cellsL f0) 61 none false]) ⟨fun H1 =>
 @bindO (xload (some 3) H1 [(.pointer (some ⟨H.length, 0, none⟩))]) ⟨fun v7 =>
 @bindL (xfill [(.slice none 0 0), (.slice none 0 0)] [(0, 1), (1, 1)] [a1, b2]) ⟨fun cv10 => @letH (H1 ++ [.cells cv10 27 none false]) ⟨fun H2 =>
 @cG 102 [(.slice (some ⟨H1.length, 0, none⟩) 2 2)] H2 ⟨fun v11 H3 =>
 (chkX [0] (⟨0, (some 3), [(.pointer (some ⟨H.length, 0, none⟩))], v7⟩ :: []) H3 ∧ @cG 35 [v7, v11] H3 ⟨fun v12 H4 =>
 R v12 H4⟩)⟩⟩⟩⟩⟩
theorem g48_of {f0 a1 b2 : Value} {H : AH} {R : Value → AH → Prop} (h : g48 f0 a1 b2 H R) : FN Try.prog 48 [f0, a1, b2] H R :=
  FN.of_XD mixed xd48_ok (by kernel_rfl) (Nat.le_of_ble_eq_true rfl) (cast (by kernel_rfl) h)
def xd50 : XD := (.seq (.reg [yS 0 4 (.box 61) [oT 0], yS 1 8 .mov [oC (.slice none 0 0)]]) (.seq (.reg [yS 0 15 .mov [oT 3], yS 1 16 .lenS [oT 15], yS 2 17 (.make (.slice none 0 0) 1 24 26) [oT 16, oT 16], yS 3 9 .mov [oT 17]]) (.seq (.seq (.reg [yS 0 18 .mov [oT 9], yS 1 19 .lenS [oT 18], yS 2 20 .mov [oC (nv 0)]]) (.block 0 (.loop [20] 535823360 (.seq (.reg [yS 0 21 (.bin .lss 0) [oT 20, oT 19]]) (.seq (.cond (oT 21) .skip (.exit 0)) (.seq (.block 1 (.seq (.reg [yS 0 22 .mov [oT 20], yS 1 10 .mov [oT 22]]) (.reg [yS 0 23 .mov [oT 9], yS 1 24 .mov [oT 10], yS 2 25 .mov [oT 1], yS 3 26 (.make (nv 0) 1 8 3) [oT 25, oT 25], yS 4 27 (.ixS 1) [oT 23, oT 24], yN 5 (.st 1) [oT 27, oT 26]]))) (.reg [yS 0 28 (.bin .add 0) [oT 20, oC (nv 1)], yS 1 20 .mov [oT 28]]))))))) (.seq (.reg [⟨none, (.ld (some 3)), [oT 4], some 29, 0, true, []⟩, yS 1 30 .mov [oT 2], yS 2 31 .mov [oT 2], yS 4 33 .mov [oT 3], yS 5 34 .mov [oT 9], ⟨none, .call, [oF 103, oT 30, oT 31], some 32, 3, false, [0]⟩, ⟨none, .call, [oF 103, oT 33, oT 34], some 35, 6, false, [0]⟩, ⟨none, (.bsl [(.slice none 0 0), (.slice none 0 0)] 2 [(0, 1), (1, 1)] 27), [oT 32, oT 35], some 36, 7, false, [0]⟩, ⟨none, .call, [oF 102, oT 36], some 37, 8, false, [0]⟩, yS 9 38 .call [oF 91, oT 29, oT 37], yS 10 11 .mov [oT 38]]) (.seq (.reg [yS 0 12 .mov [oC (.slice none 0 0)]]) (.seq (.seq (.reg [yS 0 39 .mov [oT 11], yS 1 40 .nilc [oT 39], yS 2 41 (.fld 3) [oT 40], ⟨none, (.ld none), [oT 41], some 42, 3, true, []⟩, yS 4 43 .mov [oT 11], yS 5 44 .mov [oT 1], yS 10 49 .mov [oC (nv 0)], ⟨none, .call, [oF 92, oT 43, oT 44], some 45, 6, false, [3]⟩, yS 7 46 .lenS [oT 45], yS 8 47 (.slS 1 true false) [oT 42, oT 46], yS 9 48 .lenS [oT 47]]) (.block 2 (.loop [12, 49] 1152358554653446144 (.seq (.reg [yS 0 50 (.bin .lss 0) [oT 49, oT 48]]) (.seq (.cond (oT 50) .skip (.exit 2)) (.seq (.block 3 (.seq (.reg [yS 0 51 (.ixS 1) [oT 47, oT 49], yS 1 52 (.ld none) [oT 51], yS 2 14 .mov [oT 52]]) (.reg [yS 0 53 .mov [oT 12], yS 1 54 .mov [oT 14], yS 2 55 .mov [oT 1], yS 3 56 (.slS 1 true false) [oT 54, oT 55], yS 4 57 (.bsl [(.slice none 0 0)] 1 [(0, 1)] 26) [oT 56], yS 5 58 (.app 26 1 24) [oT 53, oT 57], yS 6 12 .mov [oT 58]]))) (.reg [yS 0 59 (.bin .add 0) [oT 49, oC (nv 1)], yS 1 49 .mov [oT 59]]))))))) (.seq (.reg [yS 0 60 (.ld (some 3)) [oT 4], yS 1 61 .mov [oT 12], yS 2 62 .call [oF 35, oT 60, oT 61], yS 3 8 .mov [oT 62]]) .ret)))))))
theorem xd50_ok : compF Try.prog 50 = some ⟨63, [(.tmp 8)], xd50.er⟩ := by kernel_rfl
def g50 (f0 n1 a2 b3 : Value) (H : AH) (R : Value → AH → Prop) : Prop :=
 @letH (H ++ [.cells (cellsL f0) 61 none false]) ⟨fun H1 =>
 @bindO (xpure .lenS [b3]) ⟨fun v16 =>
 @bindN (xnew (.make (.slice none 0 0) 1 24 26) [v16, v16]) ⟨fun cv17 ev17 mkv17 => @letH (H1 ++ [.cells cv17 ev17 none false]) ⟨fun H2 =>
 @bindO (xpure .lenS [(mkv17 H1.length)]) ⟨fun v19 =>
 @loopV1 (nv 0) H2 ⟨fun v20 H3 K1 =>
 @bindO (xbin .lss 0 v20 v19) ⟨fun v21 =>
 @condK v21 ⟨fun q => if q = true then @bindN (xnew (.make (nv 0) 1 8 3) [n1, n1]) ⟨fun cv26 ev26 mkv26 => @letH (H3 ++ [.cells cv26 ev26 none false]) ⟨fun H4 =>
 @bindO (xpure (.ixS 1) [(mkv17 H1.length), v20]) ⟨fun v27 =>
 @bindP (xact (.st 1) H4 [v27, (mkv26 H3.length)]) ⟨fun _v H5 =>
 @bindO (xbin .add 0 v20 (nv 1)) ⟨fun v28 =>
 K1 v28 H5⟩⟩⟩⟩⟩ else
 @bindO (xload (some 3) H3 [(.pointer (some ⟨H.length, 0, none⟩))]) ⟨fun v29 =>
 @cG 103 [a2, a2] H3 ⟨fun v32 H6 =>
 (chkX [0] (⟨0, (some 3), [(.pointer (some ⟨H.length, 0, none⟩))], v29⟩ :: []) H6 ∧ @cG 103 [b3, (mkv17 H1.length)] H6 ⟨fun v35 H7 =>
 (chkX [0] (⟨0, (some 3), [(.pointer (some ⟨H.length, 0, none⟩))], v29⟩ :: []) H7 ∧ @bindL (xfill [(.slice none 0 0), (.slice none 0 0)] [(0, 1), (1, 1)] [v32, v35]) ⟨fun cv36 => @letH (H7 ++ [.cells cv36 27 none false]) ⟨fun H8 =>
 (chkX [0] (⟨0, (some 3), [(.pointer (some ⟨H.length, 0, none⟩))], v29⟩ :: []) H8 ∧ @cG 102 [(.slice (some ⟨H7.length, 0, none⟩) 2 2)] H8 ⟨fun v37 H9 =>
 (chkX [0] (⟨0, (some 3), [(.pointer (some ⟨H.length, 0, none⟩))], v29⟩ :: []) H9 ∧ @cG 91 [v29, v37] H9 ⟨fun v38 H10 =>
 @bindO (xpure .nilc [v38]) ⟨fun v40 =>
 @bindO (xpure (.fld 3) [v40]) ⟨fun v41 =>
 @bindO (xload none H10 [v41]) ⟨fun v42 =>
 @cG 92 [v38, n1] H10 ⟨fun v45 H11 =>
 (chkX [3] (⟨3, none, [v41], v42⟩ :: []) H11 ∧ @bindO (xpure .lenS [v45]) ⟨fun v46 =>
 @bindO (xpure (.slS 1 true false) [v42, v46]) ⟨fun v47 =>
 @bindO (xpure .lenS [v47]) ⟨fun v48 =>
 @loopV2 (.slice none 0 0) (nv 0) H11 ⟨fun l12 v49 H12 K2 =>
 @bindO (xbin .lss 0 v49 v48) ⟨fun v50 =>
 @condK v50 ⟨fun q => if q = true then @bindO (xpure (.ixS 1) [v47, v49]) ⟨fun v51 =>
 @bindO (xload none H12 [v51]) ⟨fun v52 =>
 @bindO (xpure (.slS 1 true false) [v52, n1]) ⟨fun v56 =>
 @bindL (xfill [(.slice none 0 0)] [(0, 1)] [v56]) ⟨fun cv57 => @letH (H12 ++ [.cells cv57 26 none false]) ⟨fun H13 =>
 @bindP (xact (.app 26 1 24) H13 [l12, (.slice (some ⟨H12.length, 0, none⟩) 1 1)]) ⟨fun v58 H14 =>
 @bindO (xbin .add 0 v49 (nv 1)) ⟨fun v59 =>
 K2 v58 v59 H14⟩⟩⟩⟩⟩⟩⟩ else
 @bindO (xload (some 3) H12 [(.pointer (some ⟨H.length, 0, none⟩))]) ⟨fun v60 =>
 @cG 35 [v60, l12] H12 ⟨fun v62 H15 =>
 R v62 H15⟩⟩⟩⟩⟩⟩⟩⟩)⟩⟩⟩⟩⟩)⟩)⟩⟩)⟩)⟩⟩⟩⟩⟩⟩⟩⟩⟩⟩
theorem g50_of {f0 n1 a2 b3 : Value} {H : AH} {R : Value → AH → Prop} (h : g50 f0 n1 a2 b3 H R) : FN Try.prog 50 [f0, n1, a2, b3] H R :=
  FN.of_XD mixed xd50_ok (by kernel_rfl) (Nat.le_of_ble_eq_true rfl) (cast (by kernel_rfl) h)
def xd52 : XD := (.seq (.reg [yS 0 3 (.box 61) [oT 0], yS 1 6 .mov [oC (.slice none 0 0)]]) (.seq (.reg [yS 0 7 (.ld (some 3)) [oT 3], yS 1 8 .mov [oT 1], yS 2 9 .mov [oT 1], yS 3 10 .mov [oT 2], yS 4 11 .call [oF 31, oT 7, oT 8, oT 9, oT 10], yS 5 6 .mov [oT 11]]) .ret))
theorem xd52_ok : compF Try.prog 52 = some ⟨12, [(.tmp 6)], xd52.er⟩ := by kernel_rfl
def g52 (f0 n1 b2 : Value) (H : AH) (R : Value → AH → Prop) : Prop :=
 @letH (H ++ [.cells (cellsL f0) 61 none false]) ⟨fun H1 =>
 @bindO (xload (some 3) H1 [(.pointer (some ⟨H.length, 0, none⟩))]) ⟨fun v7 =>
 @cG 31 [v7, n1, n1, b2] H1 ⟨fun v11 H2 =>
 R v11 H2⟩⟩⟩
theorem g52_of {f0 n1 b2 : Value} {H : AH} {R : Value → AH → Prop} (h : g52 f0 n1 b2 H R) : FN Try.prog 52 [f0, n1, b2] H R :=
  FN.of_XD mixed xd52_ok (by kernel_rfl) (Nat.le_of_ble_eq_true rfl) (cast (by kernel_rfl) h)
def xd53 : XD := (.seq (.reg [yS 0 2 (.box 61) [oT 0], yS 1 4 (.new [(.slice none 0 0), (nv 0)] 83) []]) (.seq (.reg [yS 0 8 (.ld (some 3)) [oT 2], yS 1 9 .mov [oT 1], yS 2 10 .call [oF 104, oT 8, oT 9], yS 3 7 .mov [oT 10], yS 4 11 (.ext 0) [oT 7], yS 5 12 (.ext 1) [oT 7], yS 6 5 .mov [oT 11], yS 7 6 .mov [oT 12]]) (.seq (.reg [yS 0 13 .mov [oT 5], yS 1 14 .mov [oT 6], yS 2 15 (.bld [(.slice none 0 0), (nv 0)] [(0, 1), (1, 1)]) [oT 13, oT 14], yN 3 (.st 2) [oT 4, oT 15]]) .ret)))
theorem xd53_ok : compF Try.prog 53 = some ⟨16, [(.cell 4 (some 2))], xd53.er⟩ := by kernel_rfl
def g53 (f0 m1 : Value) (H : AH) (R : Value → AH → Prop) : Prop :=
 @letH (H ++ [.cells (cellsL f0) 61 none false]) ⟨fun H1 =>
 @letH (H1 ++ [.cells [(.slice none 0 0), (nv 0)] 83 none false]) ⟨fun H2 =>
 @bindO (xload (some 3) H2 [(.pointer (some ⟨H.length, 0, none⟩))]) ⟨fun v8 =>
 @cG 104 [v8, m1] H2 ⟨fun v10 H3 =>
 @bindO (xpure (.ext 0) [v10]) ⟨fun v11 =>
 @bindO (xpure (.ext 1) [v10]) ⟨fun v12 =>
 @bindL (xfill [(.slice none 0 0), (nv 0)] [(0, 1), (1, 1)] [v11, v12]) ⟨fun v15 =>
 @bindP (xact (.st 2) H3 [(.pointer (some ⟨H1.length, 0, none⟩)), (.agg v15.toArray)]) ⟨fun _v H4 =>
 @bindO (xload (some 2) H4 [(.pointer (some ⟨H1.length, 0, none⟩))]) ⟨fun r0 => R r0 H4⟩⟩⟩⟩⟩⟩⟩⟩⟩
theorem g53_of {f0 m1 : Value} {H : AH} {R : Value → AH → Prop} (h : g53 f0 m1 H R) : FN Try.prog 53 [f0, m1] H R :=
  FN.of_XD mixed xd53_ok (by kernel_rfl) (Nat.le_of_ble_eq_true rfl) (cast (by kernel_rfl) h)
def xd55 : XD := (.seq (.reg [yS 0 3 (.box 61) [oT 0], yS 1 6 .mov [oC (.bool false)]]) (.seq (.seq (.reg [yS 0 8 .mov [oT 1], yS 1 9 (.bin .lss 0) [oT 8, oC (nv 1)], yS 2 10 .mov [oT 9], yG (some (10, false)) 3 (some 11) .mov [oT 1], yG (some (10, false)) 4 (some 12) (.bin .gtr 0) [oT 11, oC (nv 24)], yS 5 13 .pick [oT 10, oC (.bool true), oT 12], yS 6 14 .mov [oT 13], yG (some (14, false)) 7 (some 15) .mov [oT 2], yG (some (14, false)) 8 (some 16) .lenS [oT 15], yG (some (14, false)) 9 (some 17) (.bin .gtr 0) [oT 16, oC (nv 64)], yS 10 18 .pick [oT 14, oC (.bool true), oT 17], yS 11 19 .mov [oT 18], yG (some (19, false)) 12 (some 20) (.ld (some 3)) [oT 3], yG (some (19, false)) 13 (some 21) .call [oF 105, oT 20], yG (some (19, false)) 14 (some 22) (.un .not) [oT 21], yS 15 23 .pick [oT 19, oC (.bool true), oT 22]]) (.cond (oT 23) (.seq (.reg [yS 0 6 .mov [oC (.bool false)]]) .ret) .skip)) (.seq (.seq (.reg [yS 0 7 .mov [oC (nv 0)]]) (.block 0 (.loop [7] 274861129920 (.seq (.seq (.reg [yS 0 24 .mov [oT 7], yS 1 25 .mov [oT 2], yS 2 26 .lenS [oT 25], yS 3 27 (.bin .lss 0) [oT 24, oT 26]]) (.cond (oT 27) .skip (.exit 0))) (.seq (.block 1 (.seq (.reg [yS 0 30 (.ld (some 3)) [oT 3], yS 1 31 .mov [oT 1], yS 2 32 .mov [oT 2], yS 3 33 .mov [oT 7], yS 4 34 (.ixS 1) [oT 32, oT 33], yS 5 35 (.ld none) [oT 34], yS 6 36 .call [oF 59, oT 30, oT 31, oT 35], yS 7 37 (.un .not) [oT 36]]) (.cond (oT 37) (.seq (.reg [yS 0 6 .mov [oC (.bool false)]]) .ret) .skip))) (.reg [yS 0 28 .mov [oT 7], yS 1 29 (.bin .add 0) [oT 28, oC (nv 1)], yS 2 7 .mov [oT 29]])))))) (.seq (.reg [yS 0 6 .mov [oC (.bool true)]]) .ret))))
theorem xd55_ok : compF Try.prog 55 = some ⟨38, [(.tmp 6)], xd55.er⟩ := by kernel_rfl
def g55 (f0 n1 rows2 : Value) (H : AH) (R : Value → AH → Prop) : Prop :=
 @letH (H ++ [.cells (cellsL f0) 61 none false]) ⟨fun H1 =>
 @bindO (xbin .lss 0 n1 (nv 1)) ⟨fun v9 =>
 @guardJ (asNB v9) (fun J1 => J1 n1 H1) H1 ⟨fun v11 H2 =>
 @guardJ (asNB v9) (fun J2 => @bindO (xbin .gtr 0 v11 (nv 24)) ⟨fun v12 =>
 J2 v12 H2⟩) H2 ⟨fun v12a H3 =>
 @pickK v9 (.bool true) v12a ⟨fun v13 =>
 @guardJ (asNB v13) (fun J3 => J3 rows2 H3) H3 ⟨fun v15 H4 =>
 @guardJ (asNB v13) (fun J4 => @bindO (xpure .lenS [v15]) ⟨fun v16 =>
 J4 v16 H4⟩) H4 ⟨fun v16a H5 =>
 @guardJ (asNB v13) (fun J5 => @bindO (xbin .gtr 0 v16a (nv 64)) ⟨fun v17 =>
 J5 v17 H5⟩) H5 ⟨fun v17a H6 =>
 @pickK v13 (.bool true) v17a ⟨fun v18 =>
 @guardJ (asNB v18) (fun J6 => @bindO (xload (some 3) H6 [(.pointer (some ⟨H.length, 0, none⟩))]) ⟨fun v20 =>
 J6 v20 H6⟩) H6 ⟨fun v20a H7 =>
 @guardJ (asNB v18) (fun J7 => @cG 105 [v20a] H7 ⟨fun v21 H8 =>
 J7 v21 H8⟩) H7 ⟨fun v21a H9 =>
 @guardJ (asNB v18) (fun J8 => @bindO (eun .not v21a) ⟨fun v22 =>
 J8 v22 H9⟩) H9 ⟨fun v22a H10 =>
 @pickK v18 (.bool true) v22a ⟨fun v23 =>
 @condK v23 ⟨fun q => if q = true then R (.bool false) H10 else
 @loopV1 (nv 0) H10 ⟨fun i7 H11 K9 =>
 @bindO (xpure .lenS [rows2]) ⟨fun v26 =>
 @bindO (xbin .lss 0 i7 v26) ⟨fun v27 =>
 @condK v27 ⟨fun q => if q = true then @bindO (xload (some 3) H11 [(.pointer (some ⟨H.length, 0, none⟩))]) ⟨fun v30 =>
 @bindO (xpure (.ixS 1) [rows2, i7]) ⟨fun v34 =>
 @bindO (xload none H11 [v34]) ⟨fun v35 =>
 @cG 59 [v30, n1, v35] H11 ⟨fun v36 H12 =>
 @bindO (eun .not v36) ⟨fun v37 =>
 @condK v37 ⟨fun q => if q = true then R (.bool false) H12 else
 @bindO (xbin .add 0 i7 (nv 1)) ⟨fun v29 =>
 K9 v29 H12⟩⟩⟩⟩⟩⟩⟩ else
 R (.bool true) H11⟩⟩⟩⟩⟩⟩⟩⟩⟩⟩⟩⟩⟩⟩⟩⟩⟩⟩
theorem g55_of {f0 n1 rows2 : Value} {H : AH} {R : Value → AH → Prop} (h : g55 f0 n1 rows2 H R) : FN Try.prog 55 [f0, n1, rows2] H R :=
  FN.of_XD mixed xd55_ok (by kernel_rfl) (Nat.le_of_ble_eq_true rfl) (cast (by kernel_rfl) h)
def xd56 : XD := (.seq (.reg [yS 0 4 .mov [oC (.bool false)]]) (.seq (.reg [yS 0 5 .mov [oC (.int .i64 (-1))]]) (.seq (.seq (.reg [yS 0 6 .mov [oC (nv 0)]]) (.block 0 (.loop [5, 6] 18889465931478580854768 (.seq (.seq (.reg [yS 0 9 .mov [oT 6], yS 1 10 .mov [oT 1], yS 2 11 .lenS [oT 10], yS 3 12 (.bin .lss 0) [oT 9, oT 11]]) (.cond (oT 12) .skip (.exit 0))) (.seq (.block 1 (.seq (.seq (.reg [yS 0 15 .mov [oT 1], yS 1 16 .mov [oT 6], yS 2 17 (.ixS 1) [oT 15, oT 16], yS 3 18 (.ld none) [oT 17], yS 4 19 .lenS [oT 18], yS 5 20 .mov [oT 0], yS 6 21 (.bin .neq 0) [oT 19, oT 20]]) (.cond (oT 21) (.seq (.reg [yS 0 4 .mov [oC (.bool false)]]) .ret) .skip)) (.seq (.reg [yS 0 22 .mov [oT 1], yS 1 23 .mov [oT 6], yS 2 24 (.ixS 1) [oT 22, oT 23], yS 3 25 (.ld none) [oT 24], yS 4 26 .call [oF 65, oT 25], yS 5 7 .mov [oT 26]]) (.seq (.seq (.reg [yS 0 27 .mov [oT 7], yS 1 28 .mov [oT 5], yS 2 29 (.bin .leq 0) [oT 27, oT 28], yS 3 30 .mov [oT 29], yG (some (30, false)) 4 (some 31) .mov [oT 7], yG (some (30, false)) 5 (some 32) .mov [oT 0], yG (some (30, false)) 6 (some 33) (.bin .geq 0) [oT 31, oT 32], yS 7 34 .pick [oT 30, oC (.bool true), oT 33], yS 8 35 .mov [oT 34], yG (some (35, false)) 9 (some 36) .mov [oT 1], yG (some (35, false)) 10 (some 37) .mov [oT 6], yG (some (35, false)) 11 (some 38) (.ixS 1) [oT 36, oT 37], yG (some (35, false)) 12 (some 39) (.ld none) [oT 38], yG (some (35, false)) 13 (some 40) .mov [oT 7], yG (some (35, false)) 14 (some 41) (.ixS 1) [oT 39, oT 40], yG (some (35, false)) 15 (some 42) (.ld none) [oT 41], yG (some (35, false)) 16 (some 43) (.bin .neq 0) [oT 42, oC (nv 1)], yS 17 44 .pick [oT 35, oC (.bool true), oT 43]]) (.cond (oT 44) (.seq (.reg [yS 0 4 .mov [oC (.bool false)]]) .ret) .skip)) (.seq (.reg [yS 0 45 .mov [oT 7], yS 1 5 .mov [oT 45]]) (.seq (.reg [yS 0 8 .mov [oC (nv 0)]]) (.block 2 (.loop [8] 18889465861109836677392 (.seq (.seq (.reg [yS 0 46 .mov [oT 8], yS 1 47 .mov [oT 1], yS 2 48 .lenS [oT 47], yS 3 49 (.bin .lss 0) [oT 46, oT 48]]) (.cond (oT 49) .skip (.exit 2))) (.seq (.block 3 (.seq (.reg [yS 0 52 .mov [oT 1], yS 1 53 .mov [oT 8], yS 2 54 (.ixS 1) [oT 52, oT 53], yS 3 55 (.ld none) [oT 54], yS 4 56 .lenS [oT 55], yS 5 57 .mov [oT 0], yS 6 58 (.bin .neq 0) [oT 56, oT 57], yS 7 59 .mov [oT 58], yG (some (59, false)) 8 (some 60) .mov [oT 8], yG (some (59, false)) 9 (some 61) .mov [oT 6], yG (some (59, false)) 10 (some 62) (.bin .neq 0) [oT 60, oT 61], yG (some (59, false)) 11 (some 63) .mov [oT 62], yG (some (63, true)) 12 (some 64) .mov [oT 1], yG (some (63, true)) 13 (some 65) .mov [oT 8], yG (some (63, true)) 14 (some 66) (.ixS 1) [oT 64, oT 65], yG (some (63, true)) 15 (some 67) (.ld none) [oT 66], yG (some (63, true)) 16 (some 68) .mov [oT 7], yG (some (63, true)) 17 (some 69) (.ixS 1) [oT 67, oT 68], yG (some (63, true)) 18 (some 70) (.ld none) [oT 69], yG (some (63, true)) 19 (some 71) (.bin .neq 0) [oT 70, oC (nv 0)], yG (some (59, false)) 20 (some 72) .pick [oT 63, oT 71, oC (.bool false)], yS 21 73 .pick [oT 59, oC (.bool true), oT 72]]) (.cond (oT 73) (.seq (.reg [yS 0 4 .mov [oC (.bool false)]]) .ret) .skip))) (.reg [yS 0 50 .mov [oT 8], yS 1 51 (.bin .add 0) [oT 50, oC (nv 1)], yS 2 8 .mov [oT 51]]))))))))))) (.reg [yS 0 13 .mov [oT 6], yS 1 14 (.bin .add 0) [oT 13, oC (nv 1)], yS 2 6 .mov [oT 14]])))))) (.seq (.reg [yS 0 4 .mov [oC (.bool true)]]) .ret))))
theorem xd56_ok : compF Try.prog 56 = some ⟨74, [(.tmp 4)], xd56.er⟩ := by kernel_rfl
def g56 (n0 l1 : Value) (H : AH) (R : Value → AH → Prop) : Prop :=
 @loopV2 (.int .i64 (-1)) (nv 0) H ⟨fun last5 i6 H1 K1 =>
 @bindO (xpure .lenS [l1]) ⟨fun v11 =>
 @bindO (xbin .lss 0 i6 v11) ⟨fun v12 =>
 @condK v12 ⟨fun q => if q = true then @bindO (xpure (.ixS 1) [l1, i6]) ⟨fun v17 =>
 @bindO (xload none H1 [v17]) ⟨fun v18 =>
 @bindO (xpure .lenS [v18]) ⟨fun v19 =>
 @bindO (xbin .neq 0 v19 n0) ⟨fun v21 =>
 @condK v21 ⟨fun q => if q = true then R (.bool false) H1 else
 @bindO (xpure (.ixS 1) [l1, i6]) ⟨fun v24 =>
 @bindO (xload none H1 [v24]) ⟨fun v25 =>
 @cG 65 [v25] H1 ⟨fun v26 H2 =>
 @bindO (xbin .leq 0 v26 last5) ⟨fun v29 =>
 @guardJ (asNB v29) (fun J2 => J2 v26 H2) H2 ⟨fun v31 H3 =>
 @guardJ (asNB v29) (fun J3 => J3 n0 H3) H3 ⟨fun v32 H4 =>
 @guardJ (asNB v29) (fun J4 => @bindO (xbin .geq 0 v31 v32) ⟨fun v33 =>
 J4 v33 H4⟩) H4 ⟨fun v33a H5 =>
 @pickK v29 (.bool true) v33a ⟨fun v34 =>
 @guardJ (asNB v34) (fun J5 => J5 l1 H5) H5 ⟨fun v36 H6 =>
 @guardJ (asNB v34) (fun J6 => J6 i6 H6) H6 ⟨fun v37 H7 =>
 @guardJ (asNB v34) (fun J7 => @bindO (xpure (.ixS 1) [v36, v37]) ⟨fun v38 =>
 J7 v38 H7⟩) H7 ⟨fun v38a H8 =>
 @guardJ (asNB v34) (fun J8 => @bindO (xload none H8 [v38a]) ⟨fun v39 =>
 J8 v39 H8⟩) H8 ⟨fun v39a H9 =>
 @guardJ (asNB v34) (fun J9 => J9 v26 H9) H9 ⟨fun v40 H10 =>
 @guardJ (asNB v34) (fun J10 => @bindO (xpure (.ixS 1) [v39a, v40]) ⟨fun v41 =>
 J10 v41 H10⟩) H10 ⟨fun v41a H11 =>
 @guardJ (asNB v34) (fun J11 => @bindO (xload none H11 [v41a]) ⟨fun v42 =>
 J11 v42 H11⟩) H11 ⟨fun v42a H12 =>
 @guardJ (asNB v34) (fun J12 => @bindO (xbin .neq 0 v42a (nv 1)) ⟨fun v43 =>
 J12 v43 H12⟩) H12 ⟨fun v43a H13 =>
 @pickK v34 (.bool true) v43a ⟨fun v44 =>
 @condK v44 ⟨fun q => if q = true then R (.bool false) H13 else
 @loopV1 (nv 0) H13 ⟨fun k8 H14 K13 =>
 @bindO (xpure .lenS [l1]) ⟨fun v48 =>
 @bindO (xbin .lss 0 k8 v48) ⟨fun v49 =>
 @condK v49 ⟨fun q => if q = true then @bindO (xpure (.ixS 1) [l1, k8]) ⟨fun v54 =>
 @bindO (xload none H14 [v54]) ⟨fun v55 =>
 @bindO (xpure .lenS [v55]) ⟨fun v56 =>
 @bindO (xbin .neq 0 v56 n0) ⟨fun v58 =>
 @guardJ (asNB v58) (fun J14 => J14 k8 H14) H14 ⟨fun v60 H15 =>
 @guardJ (asNB v58) (fun J15 => J15 i6 H15) H15 ⟨fun v61 H16 =>
 @guardJ (asNB v58) (fun J16 => @bindO (xbin .neq 0 v60 v61) ⟨fun v62 =>
 J16 v62 H16⟩) H16 ⟨fun v62a H17 =>
 @guardJ (asNB v58) (fun J17 => J17 v62a H17) H17 ⟨fun v63 H18 =>
 @guardJ (asB v63) (fun J18 => J18 l1 H18) H18 ⟨fun v64 H19 =>
 @guardJ (asB v63) (fun J19 => J19 k8 H19) H19 ⟨fun v65 H20 =>
 @guardJ (asB v63) (fun J20 => @bindO (xpure (.ixS 1) [v64, v65]) ⟨fun v66 =>
 J20 v66 H20⟩) H20 ⟨fun v66a H21 =>
 @guardJ (asB v63) (fun J21 => @bindO (xload none H21 [v66a]) ⟨fun v67 =>
 J21 v67 H21⟩) H21 ⟨fun v67a H22 =>
 @guardJ (asB v63) (fun J22 => J22 v26 H22) H22 ⟨fun v68 H23 =>
 @guardJ (asB v63) (fun J23 => @bindO (xpure (.ixS 1) [v67a, v68]) ⟨fun v69 =>
 J23 v69 H23⟩) H23 ⟨fun v69a H24 =>
 @guardJ (asB v63) (fun J24 => @bindO (xload none H24 [v69a]) ⟨fun v70 =>
 J24 v70 H24⟩) H24 ⟨fun v70a H25 =>
 @guardJ (asB v63) (fun J25 => @bindO (xbin .neq 0 v70a (nv 0)) ⟨fun v71 =>
 J25 v71 H25⟩) H25 ⟨fun v71a H26 =>
 @guardJ (asNB v58) (fun J26 => @pickK v63 v71a (.bool false) ⟨fun v72 =>
 J26 v72 H26⟩) H26 ⟨fun v72a H27 =>
 @pickK v58 (.bool true) v72a ⟨fun v73 =>
 @condK v73 ⟨fun q => if q = true then R (.bool false) H27 else
 @bindO (xbin .add 0 k8 (nv 1)) ⟨fun v51 =>
 K13 v51 H27⟩⟩⟩⟩⟩⟩⟩⟩⟩⟩⟩⟩⟩⟩⟩⟩⟩⟩⟩⟩ else
 @bindO (xbin .add 0 i6 (nv 1)) ⟨fun v14 =>
 K1 v26 v14 H14⟩⟩⟩⟩⟩⟩⟩⟩⟩⟩⟩⟩⟩⟩⟩⟩⟩⟩⟩⟩⟩⟩⟩⟩⟩⟩⟩⟩ else
 R (.bool true) H1⟩⟩⟩⟩
theorem g56_of {n0 l1 : Value} {H : AH} {R : Value → AH → Prop} (h : g56 n0 l1 H R) : FN Try.prog 56 [n0, l1] H R :=
  FN.of_XD mixed xd56_ok (by kernel_rfl) (Nat.le_of_ble_eq_true rfl) (cast (by kernel_rfl) h)
def xd57 : XD := (.seq (.reg [yS 0 4 (.box 61) [oT 0], yS 1 8 .mov [oC (.slice none 0 0)]]) (.seq (.reg [yS 0 11 (.bsl [] 0 [] 3) [], yS 1 9 .mov [oT 11]]) (.seq (.seq (.reg [yS 0 10 .mov [oC (nv 0)]]) (.block 0 (.loop [9, 10] 536868352 (.seq (.seq (.reg [yS 0 12 .mov [oT 10], yS 1 13 .mov [oT 2], yS 2 14 .lenS [oT 13], yS 3 15 (.bin .lss 0) [oT 12, oT 14]]) (.cond (oT 15) .skip (.exit 0))) (.seq (.block 1 (.reg [yS 0 18 .mov [oT 9], yS 1 19 .mov [oT 3], yS 2 20 .mov [oT 2], yS 3 21 .mov [oT 10], yS 4 22 (.ixS 1) [oT 20, oT 21], yS 5 23 (.ld none) [oT 22], yS 6 24 .call [oF 65, oT 23], yS 7 25 (.ixS 1) [oT 19, oT 24], yS 8 26 (.ld none) [oT 25], yS 9 27 (.bsl [(nv 0)] 1 [(0, 1)] 3) [oT 26], yS 10 28 (.app 3 1 8) [oT 18, oT 27], yS 11 9 .mov [oT 28]])) (.reg [yS 0 16 .mov [oT 10], yS 1 17 (.bin .add 0) [oT 16, oC (nv 1)], yS 2 10 .mov [oT 17]])))))) (.seq (.reg [yS 0 29 (.ld (some 3)) [oT 4], yS 1 30 .mov [oT 1], yS 2 31 .mov [oT 2], yS 3 32 .mov [oT 9], yS 4 33 .call [oF 60, oT 29, oT 30, oT 31, oT 32], yS 5 8 .mov [oT 33]]) .ret))))
theorem xd57_ok : compF Try.prog 57 = some ⟨34, [(.tmp 8)], xd57.er⟩ := by kernel_rfl
def g57 (f0 n1 l2 v3 : Value) (H : AH) (R : Value → AH → Prop) : Prop :=
 @letH (H ++ [.cells (cellsL f0) 61 none false]) ⟨fun H1 =>
 @bindL (xfill [] [] []) ⟨fun cv11 => @letH (H1 ++ [.cells cv11 3 none false]) ⟨fun H2 =>
 @loopV2 (.slice (some ⟨H1.length, 0, none⟩) 0 0) (nv 0) H2 ⟨fun c9 i10 H3 K1 =>
 @bindO (xpure .lenS [l2]) ⟨fun v14 =>
 @bindO (xbin .lss 0 i10 v14) ⟨fun v15 =>
 @condK v15 ⟨fun q => if q = true then @bindO (xpure (.ixS 1) [l2, i10]) ⟨fun v22 =>
 @bindO (xload none H3 [v22]) ⟨fun v23 =>
 @cG 65 [v23] H3 ⟨fun v24 H4 =>
 @bindO (xpure (.ixS 1) [v3, v24]) ⟨fun v25 =>
 @bindO (xload none H4 [v25]) ⟨fun v26 =>
 @bindL (xfill [(nv 0)] [(0, 1)] [v26]) ⟨fun cv27 => @letH (H4 ++ [.cells cv27 3 none false]) ⟨fun H5 =>
 @bindP (xact (.app 3 1 8) H5 [c9, (.slice (some ⟨H4.length, 0, none⟩) 1 1)]) ⟨fun v28 H6 =>
 @bindO (xbin .add 0 i10 (nv 1)) ⟨fun v17 =>
 K1 v28 v17 H6⟩⟩⟩⟩⟩⟩⟩⟩⟩ else
 @bindO (xload (some 3) H3 [(.pointer (some ⟨H.length, 0, none⟩))]) ⟨fun v29 =>
 @cG 60 [v29, n1, l2, c9] H3 ⟨fun v33 H7 =>
 R v33 H7⟩⟩⟩⟩⟩⟩⟩⟩⟩
theorem g57_of {f0 n1 l2 v3 : Value} {H : AH} {R : Value → AH → Prop} (h : g57 f0 n1 l2 v3 H R) : FN Try.prog 57 [f0, n1, l2, v3] H R :=
  FN.of_XD mixed xd57_ok (by kernel_rfl) (Nat.le_of_ble_eq_true rfl) (cast (by kernel_rfl) h)
def xd58 : XD := (.seq (.reg [yS 0 4 .mov [oC (.slice none 0 0)]]) (.seq (.reg [yS 0 9 (.bsl [] 0 [] 26) [], yS 1 5 .mov [oT 9]]) (.seq (.seq (.reg [yS 0 6 .mov [oC (nv 0)]]) (.block 0 (.loop [5, 6] 68719476192 (.seq (.seq (.reg [yS 0 10 .mov [oT 6], yS 1 11 .mov [oT 0], yS 2 12 (.bin .lss 0) [oT 10, oT 11]]) (.cond (oT 12) .skip (.exit 0))) (.seq (.block 1 (.seq (.reg [yS 0 15 (.bsl [] 0 [] 3) [], yS 1 7 .mov [oT 15]]) (.seq (.seq (.reg [yS 0 8 .mov [oC (nv 0)]]) (.block 2 (.loop [7, 8] 4294902144 (.seq (.seq (.reg [yS 0 16 .mov [oT 8], yS 1 17 .mov [oT 1], yS 2 18 .lenS [oT 17], yS 3 19 (.bin .lss 0) [oT 16, oT 18]]) (.cond (oT 19) .skip (.exit 2))) (.seq (.block 3 (.reg [yS 0 22 .mov [oT 7], yS 1 23 .mov [oT 1], yS 2 24 .mov [oT 8], yS 3 25 (.ixS 1) [oT 23, oT 24], yS 4 26 (.ld none) [oT 25], yS 5 27 .mov [oT 6], yS 6 28 (.ixS 1) [oT 26, oT 27], yS 7 29 (.ld none) [oT 28], yS 8 30 (.bsl [(nv 0)] 1 [(0, 1)] 3) [oT 29], yS 9 31 (.app 3 1 8) [oT 22, oT 30], yS 10 7 .mov [oT 31]])) (.reg [yS 0 20 .mov [oT 8], yS 1 21 (.bin .add 0) [oT 20, oC (nv 1)], yS 2 8 .mov [oT 21]])))))) (.reg [yS 0 32 .mov [oT 5], yS 1 33 .mov [oT 7], yS 2 34 (.bsl [(.slice none 0 0)] 1 [(0, 1)] 26) [oT 33], yS 3 35 (.app 26 1 24) [oT 32, oT 34], yS 4 5 .mov [oT 35]])))) (.reg [yS 0 13 .mov [oT 6], yS 1 14 (.bin .add 0) [oT 13, oC (nv 1)], yS 2 6 .mov [oT 14]])))))) (.seq (.reg [yS 0 36 .mov [oT 5], yS 1 4 .mov [oT 36]]) .ret))))
theorem xd58_ok : compF Try.prog 58 = some ⟨37, [(.tmp 4)], xd58.er⟩ := by kernel_rfl
def g58 (n0 rows1 : Value) (H : AH) (R : Value → AH → Prop) : Prop :=
 @bindL (xfill [] [] []) ⟨fun cv9 => @letH (H ++ [.cells cv9 26 none false]) ⟨fun H1 =>
 @loopV2 (.slice (some ⟨H.length, 0, none⟩) 0 0) (nv 0) H1 ⟨fun out5 j6 H2 K1 =>
 @bindO (xbin .lss 0 j6 n0) ⟨fun v12 =>
 @condK v12 ⟨fun q => if q = true then @bindL (xfill [] [] []) ⟨fun cv15 => @letH (H2 ++ [.cells cv15 3 none false]) ⟨fun H3 =>
 @loopV2 (.slice (some ⟨H2.length, 0, none⟩) 0 0) (nv 0) H3 ⟨fun v7 i8 H4 K2 =>
 @bindO (xpure .lenS [rows1]) ⟨fun v18 =>
 @bindO (xbin .lss 0 i8 v18) ⟨fun v19 =>
 @condK v19 ⟨fun q => if q = true then @bindO (xpure (.ixS 1) [rows1, i8]) ⟨fun v25 =>
 @bindO (xload none H4 [v25]) ⟨fun v26 =>
 @bindO (xpure (.ixS 1) [v26, j6]) ⟨fun v28 =>
 @bindO (xload none H4 [v28]) ⟨fun v29 =>
 @bindL (xfill [(nv 0)] [(0, 1)] [v29]) ⟨fun cv30 => @letH (H4 ++ [.cells cv30 3 none false]) ⟨fun H5 =>
 @bindP (xact (.app 3 1 8) H5 [v7, (.slice (some ⟨H4.length, 0, none⟩) 1 1)]) ⟨fun v31 H6 =>
 @bindO (xbin .add 0 i8 (nv 1)) ⟨fun v21 =>
 K2 v31 v21 H6⟩⟩⟩⟩⟩⟩⟩⟩ else
 @bindL (xfill [(.slice none 0 0)] [(0, 1)] [v7]) ⟨fun cv34 => @letH (H4 ++ [.cells cv34 26 none false]) ⟨fun H7 =>
 @bindP (xact (.app 26 1 24) H7 [out5, (.slice (some ⟨H4.length, 0, none⟩) 1 1)]) ⟨fun v35 H8 =>
 @bindO (xbin .add 0 j6 (nv 1)) ⟨fun v14 =>
 K1 v35 v14 H8⟩⟩⟩⟩⟩⟩⟩⟩⟩⟩ else
 R out5 H2⟩⟩⟩⟩⟩
theorem g58_of {n0 rows1 : Value} {H : AH} {R : Value → AH → Prop} (h : g58 n0 rows1 H R) : FN Try.prog 58 [n0, rows1] H R :=
  FN.of_XD mixed xd58_ok (by kernel_rfl) (Nat.le_of_ble_eq_true rfl) (cast (by kernel_rfl) h)
def xd59 : XD := (.seq (.reg [yS 0 3 (.box 61) [oT 0], yS 1 6 .mov [oC (.bool false)]]) (.seq (.seq (.reg [yS 0 8 .mov [oT 2], yS 1 9 .lenS [oT 8], yS 2 10 .mov [oT 1], yS 3 11 (.bin .neq 0) [oT 9, oT 10]]) (.cond (oT 11) (.seq (.reg [yS 0 6 .mov [oC (.bool false)]]) .ret) .skip)) (.seq (.seq (.reg [yS 0 7 .mov [oC (nv 0)]]) (.block 0 (.loop [7] 2147479744 (.seq (.seq (.reg [yS 0 12 .mov [oT 7], yS 1 13 .mov [oT 1], yS 2 14 (.bin .lss 0) [oT 12, oT 13]]) (.cond (oT 14) .skip (.exit 0))) (.seq (.block 1 (.seq (.reg [yS 0 17 .mov [oT 2], yS 1 18 .mov [oT 7], yS 2 19 (.ixS 1) [oT 17, oT 18], yS 3 20 (.ld none) [oT 19], yS 4 21 (.bin .lss 0) [oT 20, oC (nv 0)], yS 5 22 .mov [oT 21], yG (some (22, false)) 6 (some 23) .mov [oT 2], yG (some (22, false)) 7 (some 24) .mov [oT 7], yG (some (22, false)) 8 (some 25) (.ixS 1) [oT 23, oT 24], ⟨(some (22, false)), (.ld none), [oT 25], some 26, 9, true, []⟩, yG (some (22, false)) 10 (some 27) (.ld (some 3)) [oT 3], ⟨(some (22, false)), .call, [oF 62, oT 27], some 28, 11, false, [9]⟩, yG (some (22, false)) 12 (some 29) (.bin .geq 0) [oT 26, oT 28], yS 13 30 .pick [oT 22, oC (.bool true), oT 29]]) (.cond (oT 30) (.seq (.reg [yS 0 6 .mov [oC (.bool false)]]) .ret) .skip))) (.reg [yS 0 15 .mov [oT 7], yS 1 16 (.bin .add 0) [oT 15, oC (nv 1)], yS 2 7 .mov [oT 16]])))))) (.seq (.reg [yS 0 6 .mov [oC (.bool true)]]) .ret))))
theorem xd59_ok : compF Try.prog 59 = some ⟨31, [(.tmp 6)], xd59.er⟩ := by kernel_rfl
def g59 (f0 n1 v2 : Value) (H : AH) (R : Value → AH → Prop) : Prop :=
 @letH (H ++ [.cells (cellsL f0) 61 none false]) ⟨fun H1 =>
 @bindO (xpure .lenS [v2]) ⟨fun v9 =>
 @bindO (xbin .neq 0 v9 n1) ⟨fun v11 =>
 @condK v11 ⟨fun q => if q = true then R (.bool false) H1 else
 @loopV1 (nv 0) H1 ⟨fun i7 H2 K1 =>
 @bindO (xbin .lss 0 i7 n1) ⟨fun v14 =>
 @condK v14 ⟨fun q => if q = true then @bindO (xpure (.ixS 1) [v2, i7]) ⟨fun v19 =>
 @bindO (xload none H2 [v19]) ⟨fun v20 =>
 @bindO (xbin .lss 0 v20 (nv 0)) ⟨fun v21 =>
 @guardJ (asNB v21) (fun J2 => J2 v2 H2) H2 ⟨fun v23 H3 =>
 @guardJ (asNB v21) (fun J3 => J3 i7 H3) H3 ⟨fun v24 H4 =>
 @guardJ (asNB v21) (fun J4 => @bindO (xpure (.ixS 1) [v23, v24]) ⟨fun v25 =>
 J4 v25 H4⟩) H4 ⟨fun v25a H5 =>
 @guardJ (asNB v21) (fun J5 => @bindO (xload none H5 [v25a]) ⟨fun v26 =>
 J5 v26 H5⟩) H5 ⟨fun v26a H6 => @letD (bif (asNB v21) then ⟨9, none, [v25a], v26a⟩ :: [] else []) ⟨fun D1 =>
 @guardJ (asNB v21) (fun J6 => @bindO (xload (some 3) H6 [(.pointer (some ⟨H.length, 0, none⟩))]) ⟨fun v27 =>
 J6 v27 H6⟩) H6 ⟨fun v27a H7 =>
 @guardJ (asNB v21) (fun J7 => @cG 62 [v27a] H7 ⟨fun v28 H8 =>
 (chkX [9] D1 H8 ∧ J7 v28 H8)⟩) H7 ⟨fun v28a H9 =>
 @guardJ (asNB v21) (fun J8 => @bindO (xbin .geq 0 v26a v28a) ⟨fun v29 =>
 J8 v29 H9⟩) H9 ⟨fun v29a H10 =>
 @pickK v21 (.bool true) v29a ⟨fun v30 =>
 @condK v30 ⟨fun q => if q = true then R (.bool false) H10 else
 @bindO (xbin .add 0 i7 (nv 1)) ⟨fun v16 =>
 K1 v16 H10⟩⟩⟩⟩⟩⟩⟩⟩⟩⟩⟩⟩⟩⟩ else
 R (.bool true) H2⟩⟩⟩⟩⟩⟩⟩
theorem g59_of {f0 n1 v2 : Value} {H : AH} {R : Value → AH → Prop} (h : g59 f0 n1 v2 H R) : FN Try.prog 59 [f0, n1, v2] H R :=
  FN.of_XD mixed xd59_ok (by kernel_rfl) (Nat.le_of_ble_eq_true rfl) (cast (by kernel_rfl) h)
def xd60 : XD := (.seq (.reg [yS 0 4 (.box 61) [oT 0], yS 1 8 .mov [oC (.slice none 0 0)]]) (.seq (.reg [yS 0 11 .mov [oT 1], yS 1 12 .call [oF 64, oT 11], yS 2 9 .mov [oT 12]]) (.seq (.seq (.reg [yS 0 10 .mov [oC (nv 0)]]) (.block 0 (.loop [9, 10] 1073735168 (.seq (.seq (.reg [yS 0 13 .mov [oT 10], yS 1 14 .mov [oT 2], yS 2 15 .lenS [oT 14], yS 3 16 (.bin .lss 0) [oT 13, oT 15]]) (.cond (oT 16) .skip (.exit 0))) (.seq (.block 1 (.reg [yS 0 19 (.ld (some 3)) [oT 4], yS 1 20 .mov [oT 9], yS 2 21 .mov [oT 3], yS 3 22 .mov [oT 10], yS 4 23 (.ixS 1) [oT 21, oT 22], yS 5 24 (.ld none) [oT 23], yS 6 25 .mov [oT 2], yS 7 26 .mov [oT 10], yS 8 27 (.ixS 1) [oT 25, oT 26], yS 9 28 (.ld none) [oT 27], yS 10 29 .call [oF 61, oT 19, oT 20, oT 24, oT 28], yS 11 9 .mov [oT 29]])) (.reg [yS 0 17 .mov [oT 10], yS 1 18 (.bin .add 0) [oT 17, oC (nv 1)], yS 2 10 .mov [oT 18]])))))) (.seq (.reg [yS 0 30 .mov [oT 9], yS 1 8 .mov [oT 30]]) .ret))))
theorem xd60_ok : compF Try.prog 60 = some ⟨31, [(.tmp 8)], xd60.er⟩ := by kernel_rfl
def g60 (f0 n1 rows2 c3 : Value) (H : AH) (R : Value → AH → Prop) : Prop :=
 @letH (H ++ [.cells (cellsL f0) 61 none false]) ⟨fun H1 =>
 @cG 64 [n1] H1 ⟨fun v12 H2 =>
 @loopV2 v12 (nv 0) H2 ⟨fun v9 i10 H3 K1 =>
 @bindO (xpure .lenS [rows2]) ⟨fun v15 =>
 @bindO (xbin .lss 0 i10 v15) ⟨fun v16 =>
 @condK v16 ⟨fun q => if q = true then @bindO (xload (some 3) H3 [(.pointer (some ⟨H.length, 0, none⟩))]) ⟨fun v19 =>
 @bindO (xpure (.ixS 1) [c3, i10]) ⟨fun v23 =>
 @bindO (xload none H3 [v23]) ⟨fun v24 =>
 @bindO (xpure (.ixS 1) [rows2, i10]) ⟨fun v27 =>
 @bindO (xload none H3 [v27]) ⟨fun v28 =>
 @cG 61 [v19, v9, v24, v28] H3 ⟨fun v29 H4 =>
 @bindO (xbin .add 0 i10 (nv 1)) ⟨fun v18 =>
 K1 v29 v18 H4⟩⟩⟩⟩⟩⟩⟩ else
 R v9 H3⟩⟩⟩⟩⟩⟩
theorem g60_of {f0 n1 rows2 c3 : Value} {H : AH} {R : Value → AH → Prop} (h : g60 f0 n1 rows2 c3 H R) : FN Try.prog 60 [f0, n1, rows2, c3] H R :=
  FN.of_XD mixed xd60_ok (by kernel_rfl) (Nat.le_of_ble_eq_true rfl) (cast (by kernel_rfl) h)
def xd61 : XD := (.seq (.reg [yS 0 4 (.box 61) [oT 0], yS 1 8 .mov [oC (.slice none 0 0)]]) (.seq (.reg [yS 0 11 (.bsl [] 0 [] 3) [], yS 1 9 .mov [oT 11]]) (.seq (.seq (.reg [yS 0 10 .mov [oC (nv 0)]]) (.block 0 (.loop [9, 10] 17179866624 (.seq (.seq (.reg [yS 0 12 .mov [oT 10], yS 1 13 .mov [oT 1], yS 2 14 .lenS [oT 13], yS 3 15 (.bin .lss 0) [oT 12, oT 14]]) (.cond (oT 15) .skip (.exit 0))) (.seq (.block 1 (.reg [yS 0 18 .mov [oT 9], ⟨none, (.ld (some 3)), [oT 4], some 19, 1, true, []⟩, yS 2 20 .mov [oT 1], yS 3 21 .mov [oT 10], yS 4 22 (.ixS 1) [oT 20, oT 21], ⟨none, (.ld none), [oT 22], some 23, 5, true, []⟩, yS 6 24 (.ld (some 3)) [oT 4], yS 7 25 .mov [oT 2], yS 8 26 .mov [oT 3], yS 9 27 .mov [oT 10], yS 10 28 (.ixS 1) [oT 26, oT 27], yS 11 29 (.ld none) [oT 28], ⟨none, .call, [oF 107, oT 24, oT 25, oT 29], some 30, 12, false, [5, 1]⟩, yS 13 31 .call [oF 106, oT 19, oT 23, oT 30], yS 14 32 (.bsl [(nv 0)] 1 [(0, 1)] 3) [oT 31], yS 15 33 (.app 3 1 8) [oT 18, oT 32], yS 16 9 .mov [oT 33]])) (.reg [yS 0 16 .mov [oT 10], yS 1 17 (.bin .add 0) [oT 16, oC (nv 1)], yS 2 10 .mov [oT 17]])))))) (.seq (.reg [yS 0 34 .mov [oT 9], yS 1 8 .mov [oT 34]]) .ret))))
theorem xd61_ok : compF Try.prog 61 = some ⟨35, [(.tmp 8)], xd61.er⟩ := by kernel_rfl
def g61 (f0 v1 c2 w3 : Value) (H : AH) (R : Value → AH → Prop) : Prop :=
 @letH (H ++ [.cells (cellsL f0) 61 none false]) ⟨fun H1 =>
 @bindL (xfill [] [] []) ⟨fun cv11 => @letH (H1 ++ [.cells cv11 3 none false]) ⟨fun H2 =>
 @loopV2 (.slice (some ⟨H1.length, 0, none⟩) 0 0) (nv 0) H2 ⟨fun out9 i10 H3 K1 =>
 @bindO (xpure .lenS [v1]) ⟨fun v14 =>
 @bindO (xbin .lss 0 i10 v14) ⟨fun v15 =>
 @condK v15 ⟨fun q => if q = true then @bindO (xload (some 3) H3 [(.pointer (some ⟨H.length, 0, none⟩))]) ⟨fun v19 =>
 @bindO (xpure (.ixS 1) [v1, i10]) ⟨fun v22 =>
 @bindO (xload none H3 [v22]) ⟨fun v23 =>
 @bindO (xload (some 3) H3 [(.pointer (some ⟨H.length, 0, none⟩))]) ⟨fun v24 =>
 @bindO (xpure (.ixS 1) [w3, i10]) ⟨fun v28 =>
 @bindO (xload none H3 [v28]) ⟨fun v29 =>
 @cG 107 [v24, c2, v29] H3 ⟨fun v30 H4 =>
 (chkX [5, 1] (⟨5, none, [v22], v23⟩ :: (⟨1, (some 3), [(.pointer (some ⟨H.length, 0, none⟩))], v19⟩ :: [])) H4 ∧ @cG 106 [v19, v23, v30] H4 ⟨fun v31 H5 =>
 @bindL (xfill [(nv 0)] [(0, 1)] [v31]) ⟨fun cv32 => @letH (H5 ++ [.cells cv32 3 none false]) ⟨fun H6 =>
 @bindP (xact (.app 3 1 8) H6 [out9, (.slice (some ⟨H5.length, 0, none⟩) 1 1)]) ⟨fun v33 H7 =>
 @bindO (xbin .add 0 i10 (nv 1)) ⟨fun v17 =>
 K1 v33 v17 H7⟩⟩⟩⟩⟩)⟩⟩⟩⟩⟩⟩⟩ else
 R out9 H3⟩⟩⟩⟩⟩⟩⟩
theorem g61_of {f0 v1 c2 w3 : Value} {H : AH} {R : Value → AH → Prop} (h : g61 f0 v1 c2 w3 H R) : FN Try.prog 61 [f0, v1, c2, w3] H R :=
  FN.of_XD mixed xd61_ok (by kernel_rfl) (Nat.le_of_ble_eq_true rfl) (cast (by kernel_rfl) h)
def xd63 : XD := (.seq (.reg [yS 0 3 (.box 61) [oT 0], yS 1 6 .mov [oC (.slice none 0 0)]]) (.seq (.reg [⟨none, (.ld (some 3)), [oT 3], some 7, 0, true, []⟩, yS 1 8 .mov [oT 2], yS 2 9 .lenS [oT 8], yS 4 11 .mov [oT 1], yS 5 12 .mov [oT 2], ⟨none, .call, [oF 64, oT 9], some 10, 3, false, [0]⟩, yS 6 13 .call [oF 61, oT 7, oT 10, oT 11, oT 12], yS 7 6 .mov [oT 13]]) .ret))
theorem xd63_ok : compF Try.prog 63 = some ⟨14, [(.tmp 6)], xd63.er⟩ := by kernel_rfl
def g63 (f0 c1 v2 : Value) (H : AH) (R : Value → AH → Prop) : Prop :=
 @letH (H ++ [.cells (cellsL f0) 61 none false]) ⟨fun H1 =>
 @bindO (xload (some 3) H1 [(.pointer (some ⟨H.length, 0, none⟩))]) ⟨fun v7 =>
 @bindO (xpure .lenS [v2]) ⟨fun v9 =>
 @cG 64 [v9] H1 ⟨fun v10 H2 =>
 (chkX [0] (⟨0, (some 3), [(.pointer (some ⟨H.length, 0, none⟩))], v7⟩ :: []) H2 ∧ @cG 61 [v7, v10, c1, v2] H2 ⟨fun v13 H3 =>
 R v13 H3⟩)⟩⟩⟩⟩
theorem g63_of {f0 c1 v2 : Value} {H : AH} {R : Value → AH → Prop} (h : g63 f0 c1 v2 H R) : FN Try.prog 63 [f0, c1, v2] H R :=
  FN.of_XD mixed xd63_ok (by kernel_rfl) (Nat.le_of_ble_eq_true rfl) (cast (by kernel_rfl) h)
def xd64 : XD := (.seq (.reg [yS 0 2 .mov [oC (.slice none 0 0)]]) (.seq (.reg [yS 0 3 .mov [oT 0], yS 1 4 (.make (nv 0) 1 8 3) [oT 3, oT 3], yS 2 2 .mov [oT 4]]) .ret))
theorem xd64_ok : compF Try.prog 64 = some ⟨5, [(.tmp 2)], xd64.er⟩ := by kernel_rfl
def g64 (n0 : Value) (H : AH) (R : Value → AH → Prop) : Prop :=
 @bindN (xnew (.make (nv 0) 1 8 3) [n0, n0]) ⟨fun cv4 ev4 mkv4 => @letH (H ++ [.cells cv4 ev4 none false]) ⟨fun H1 =>
 R (mkv4 H.length) H1⟩⟩
theorem g64_of {n0 : Value} {H : AH} {R : Value → AH → Prop} (h : g64 n0 H R) : FN Try.prog 64 [n0] H R :=
  FN.of_XD mixed xd64_ok (by kernel_rfl) (Nat.le_of_ble_eq_true rfl) (cast (by kernel_rfl) h)
def xd65 : XD := (.seq (.reg [yS 0 2 .mov [oC (nv 0)]]) (.seq (.reg [yS 0 3 .mov [oC (nv 0)]]) (.seq (.block 0 (.loop [3] 131064 (.seq (.seq (.reg [yS 0 4 .mov [oT 3], yS 1 5 .mov [oT 0], yS 2 6 .lenS [oT 5], yS 3 7 (.bin .lss 0) [oT 4, oT 6], yS 4 8 .mov [oT 7], yG (some (8, true)) 5 (some 9) .mov [oT 0], yG (some (8, true)) 6 (some 10) .mov [oT 3], yG (some (8, true)) 7 (some 11) (.ixS 1) [oT 9, oT 10], yG (some (8, true)) 8 (some 12) (.ld none) [oT 11], yG (some (8, true)) 9 (some 13) (.bin .eql 0) [oT 12, oC (nv 0)], yS 10 14 .pick [oT 8, oT 13, oC (.bool false)]]) (.cond (oT 14) .skip (.exit 0))) (.block 1 (.reg [yS 0 15 .mov [oT 3], yS 1 16 (.bin .add 0) [oT 15, oC (nv 1)], yS 2 3 .mov [oT 16]]))))) (.seq (.reg [yS 0 17 .mov [oT 3], yS 1 2 .mov [oT 17]]) .ret))))
theorem xd65_ok : compF Try.prog 65 = some ⟨18, [(.tmp 2)], xd65.er⟩ := by kernel_rfl
def g65 (v0 : Value) (H : AH) (R : Value → AH → Prop) : Prop :=
 @loopV1 (nv 0) H ⟨fun i3 H1 K1 =>
 @bindO (xpure .lenS [v0]) ⟨fun v6 =>
 @bindO (xbin .lss 0 i3 v6) ⟨fun v7 =>
 @guardJ (asB v7) (fun J2 => J2 v0 H1) H1 ⟨fun v9 H2 =>
 @guardJ (asB v7) (fun J3 => J3 i3 H2) H2 ⟨fun v10 H3 =>
 @guardJ (asB v7) (fun J4 => @bindO (xpure (.ixS 1) [v9, v10]) ⟨fun v11 =>
 J4 v11 H3⟩) H3 ⟨fun v11a H4 =>
 @guardJ (asB v7) (fun J5 => @bindO (xload none H4 [v11a]) ⟨fun v12 =>
 J5 v12 H4⟩) H4 ⟨fun v12a H5 =>
 @guardJ (asB v7) (fun J6 => @bindO (xbin .eql 0 v12a (nv 0)) ⟨fun v13 =>
 J6 v13 H5⟩) H5 ⟨fun v13a H6 =>
 @pickK v7 v13a (.bool false) ⟨fun v14 =>
 @condK v14 ⟨fun q => if q = true then @bindO (xbin .add 0 i3 (nv 1)) ⟨fun v16 =>
 K1 v16 H6⟩ else
 R i3 H6⟩⟩⟩⟩⟩⟩⟩⟩⟩⟩
theorem g65_of {v0 : Value} {H : AH} {R : Value → AH → Prop} (h : g65 v0 H R) : FN Try.prog 65 [v0] H R :=
  FN.of_XD mixed xd65_ok (by kernel_rfl) (Nat.le_of_ble_eq_true rfl) (cast (by kernel_rfl) h)
def xd66 : XD := (.seq (.reg [yS 0 3 (.box 61) [oT 0], yS 1 6 .mov [oC (nv 0)]]) (.seq (.reg [yS 0 7 .mov [oC (nv 0)]]) (.seq (.seq (.reg [yS 0 8 .mov [oC (nv 0)]]) (.block 0 (.loop [7, 8] 268435328 (.seq (.seq (.reg [yS 0 9 .mov [oT 8], yS 1 10 .mov [oT 1], yS 2 11 .lenS [oT 10], yS 3 12 (.bin .lss 0) [oT 9, oT 11]]) (.cond (oT 12) .skip (.exit 0))) (.seq (.block 1 (.reg [⟨none, (.ld (some 3)), [oT 3], some 15, 0, true, []⟩, yS 1 16 .mov [oT 7], yS 2 17 (.ld (some 3)) [oT 3], yS 3 18 .mov [oT 1], yS 4 19 .mov [oT 8], yS 5 20 (.ixS 1) [oT 18, oT 19], yS 6 21 (.ld none) [oT 20], yS 7 22 .mov [oT 2], yS 8 23 .mov [oT 8], yS 9 24 (.ixS 1) [oT 22, oT 23], yS 10 25 (.ld none) [oT 24], ⟨none, .call, [oF 107, oT 17, oT 21, oT 25], some 26, 11, false, [0]⟩, yS 12 27 .call [oF 106, oT 15, oT 16, oT 26], yS 13 7 .mov [oT 27]])) (.reg [yS 0 13 .mov [oT 8], yS 1 14 (.bin .add 0) [oT 13, oC (nv 1)], yS 2 8 .mov [oT 14]])))))) (.seq (.reg [yS 0 28 .mov [oT 7], yS 1 6 .mov [oT 28]]) .ret))))
theorem xd66_ok : compF Try.prog 66 = some ⟨29, [(.tmp 6)], xd66.er⟩ := by kernel_rfl
def g66 (f0 v1 w2 : Value) (H : AH) (R : Value → AH → Prop) : Prop :=
 @letH (H ++ [.cells (cellsL f0) 61 none false]) ⟨fun H1 =>
 @loopV2 (nv 0) (nv 0) H1 ⟨fun s7 i8 H2 K1 =>
 @bindO (xpure .lenS [v1]) ⟨fun v11 =>
 @bindO (xbin .lss 0 i8 v11) ⟨fun v12 =>
 @condK v12 ⟨fun q => if q = true then @bindO (xload (some 3) H2 [(.pointer (some ⟨H.length, 0, none⟩))]) ⟨fun v15 =>
 @bindO (xload (some 3) H2 [(.pointer (some ⟨H.length, 0, none⟩))]) ⟨fun v17 =>
 @bindO (xpure (.ixS 1) [v1, i8]) ⟨fun v20 =>
 @bindO (xload none H2 [v20]) ⟨fun v21 =>
 @bindO (xpure (.ixS 1) [w2, i8]) ⟨fun v24 =>
 @bindO (xload none H2 [v24]) ⟨fun v25 =>
 @cG 107 [v17, v21, v25] H2 ⟨fun v26 H3 =>
 (chkX [0] (⟨0, (some 3), [(.pointer (some ⟨H.length, 0, none⟩))], v15⟩ :: []) H3 ∧ @cG 106 [v15, s7, v26] H3 ⟨fun v27 H4 =>
 @bindO (xbin .add 0 i8 (nv 1)) ⟨fun v14 =>
 K1 v27 v14 H4⟩⟩)⟩⟩⟩⟩⟩⟩⟩ else
 R s7 H2⟩⟩⟩⟩⟩
theorem g66_of {f0 v1 w2 : Value} {H : AH} {R : Value → AH → Prop} (h : g66 f0 v1 w2 H R) : FN Try.prog 66 [f0, v1, w2] H R :=
  FN.of_XD mixed xd66_ok (by kernel_rfl) (Nat.le_of_ble_eq_true rfl) (cast (by kernel_rfl) h)
def xd67 : XD := (.seq (.reg [yS 0 2 (.new [(nv 0), (nv 0), (.slice none 0 0)] 61) []]) (.seq (.reg [yS 0 6 .call [oF 109], yS 1 3 .mov [oT 6]]) (.seq (.reg [yS 0 8 .mov [oT 3], yS 1 9 .mov [oT 0], yS 2 10 (.conv .i64) [oT 9], yS 3 11 .mov [oT 3], yS 4 12 .lenS [oT 11], yS 5 13 (.bin .rem 0) [oT 10, oT 12], yS 6 14 (.ixS 1) [oT 8, oT 13], yS 7 15 (.ld none) [oT 14], yS 8 16 .call [oF 110, oT 15], yS 9 7 .mov [oT 16], yS 10 17 (.ext 0) [oT 7], yS 11 18 (.ext 1) [oT 7], yS 12 4 (.new [(nv 0), (nv 0), (.slice none 0 0)] 61) [], yN 13 (.st 3) [oT 4, oT 17], yS 14 5 .mov [oT 18]]) (.seq (.reg [yS 0 19 (.ld (some 3)) [oT 4], yN 1 (.st 3) [oT 2, oT 19]]) .ret))))
theorem xd67_ok : compF Try.prog 67 = some ⟨20, [(.cell 2 (some 3))], xd67.er⟩ := by kernel_rfl
def g67 (q0 : Value) (H : AH) (R : Value → AH → Prop) : Prop :=
 @letH (H ++ [.cells [(nv 0), (nv 0), (.slice none 0 0)] 61 none false]) ⟨fun H1 =>
 @cG 109 [] H1 ⟨fun v6 H2 =>
 @bindO (xpure (.conv .i64) [q0]) ⟨fun v10 =>
 @bindO (xpure .lenS [v6]) ⟨fun v12 =>
 @bindO (xbin .rem 0 v10 v12) ⟨fun v13 =>
 @bindO (xpure (.ixS 1) [v6, v13]) ⟨fun v14 =>
 @bindO (xload none H2 [v14]) ⟨fun v15 =>
 @cG 110 [v15] H2 ⟨fun v16 H3 =>
 @bindO (xpure (.ext 0) [v16]) ⟨fun v17 =>
 @bindO (xpure (.ext 1) [v16]) ⟨fun v18 =>
 @letH (H3 ++ [.cells [(nv 0), (nv 0), (.slice none 0 0)] 61 none false]) ⟨fun H4 =>
 @bindP (xact (.st 3) H4 [(.pointer (some ⟨H3.length, 0, none⟩)), v17]) ⟨fun _v H5 =>
 @bindO (xload (some 3) H5 [(.pointer (some ⟨H3.length, 0, none⟩))]) ⟨fun v19 =>
 @bindP (xact (.st 3) H5 [(.pointer (some ⟨H.length, 0, none⟩)), v19]) ⟨fun _v H6 =>
 @bindO (xload (some 3) H6 [(.pointer (some ⟨H.length, 0, none⟩))]) ⟨fun r0 => R r0 H6⟩⟩⟩⟩⟩⟩⟩⟩⟩⟩⟩⟩⟩⟩⟩
theorem g67_of {q0 : Value} {H : AH} {R : Value → AH → Prop} (h : g67 q0 H R) : FN Try.prog 67 [q0] H R :=
  FN.of_XD mixed xd67_ok (by kernel_rfl) (Nat.le_of_ble_eq_true rfl) (cast (by kernel_rfl) h)
def xd68 : XD := (.seq (.reg [yS 0 4 .mov [oC (.slice none 0 0)]]) (.seq (.reg [yS 0 6 .mov [oT 0], yS 1 7 (.make (nv 0) 1 8 3) [oT 6, oT 6], yS 2 5 .mov [oT 7]]) (.seq (.reg [yS 0 8 .mov [oT 5], yS 1 9 .mov [oT 1], yS 2 10 (.ixS 1) [oT 8, oT 9], yN 3 (.st 1) [oT 10, oC (nv 1)]]) (.seq (.reg [yS 0 11 .mov [oT 5], yS 1 4 .mov [oT 11]]) .ret))))
theorem xd68_ok : compF Try.prog 68 = some ⟨12, [(.tmp 4)], xd68.er⟩ := by kernel_rfl
def g68 (n0 i1 : Value) (H : AH) (R : Value → AH → Prop) : Prop :=
 @bindN (xnew (.make (nv 0) 1 8 3) [n0, n0]) ⟨fun cv7 ev7 mkv7 => @letH (H ++ [.cells cv7 ev7 none false]) ⟨fun H1 =>
 @bindO (xpure (.ixS 1) [(mkv7 H.length), i1]) ⟨fun v10 =>
 @bindP (xact (.st 1) H1 [v10, (nv 1)]) ⟨fun _v H2 =>
 R (mkv7 H.length) H2⟩⟩⟩⟩
theorem g68_of {n0 i1 : Value} {H : AH} {R : Value → AH → Prop} (h : g68 n0 i1 H R) : FN Try.prog 68 [n0, i1] H R :=
  FN.of_XD mixed xd68_ok (by kernel_rfl) (Nat.le_of_ble_eq_true rfl) (cast (by kernel_rfl) h)
def xd90 : XD := (.seq (.reg [yS 0 3 .mov [oC (.bool false)]]) (.seq (.reg [yS 0 4 .mov [oT 0], yS 1 5 (.bin .lss 0) [oT 4, oC (nv 0)], yS 2 6 .mov [oT 5], yG (some (6, false)) 3 (some 7) .mov [oT 0], yG (some (6, false)) 4 (some 8) (.ld none) [oT 1], yG (some (6, false)) 5 (some 9) (.bin .geq 0) [oT 7, oT 8], yS 6 10 .pick [oT 6, oC (.bool true), oT 9], yS 7 3 .mov [oT 10]]) .ret))
theorem xd90_ok : compF Try.prog 90 = some ⟨11, [(.tmp 3)], xd90.er⟩ := by kernel_rfl
def g90 (x0 v1 : Value) (H : AH) (R : Value → AH → Prop) : Prop :=
 @bindO (xbin .lss 0 x0 (nv 0)) ⟨fun v5 =>
 @guardJ (asNB v5) (fun J1 => J1 x0 H) H ⟨fun v7 H1 =>
 @guardJ (asNB v5) (fun J2 => @bindO (xload none H1 [v1]) ⟨fun v8 =>
 J2 v8 H1⟩) H1 ⟨fun v8a H2 =>
 @guardJ (asNB v5) (fun J3 => @bindO (xbin .geq 0 v7 v8a) ⟨fun v9 =>
 J3 v9 H2⟩) H2 ⟨fun v9a H3 =>
 @pickK v5 (.bool true) v9a ⟨fun v10 =>
 R v10 H3⟩⟩⟩⟩⟩
theorem g90_of {x0 v1 : Value} {H : AH} {R : Value → AH → Prop} (h : g90 x0 v1 H R) : FN Try.prog 90 [x0, v1] H R :=
  FN.of_XD mixed xd90_ok (by kernel_rfl) (Nat.le_of_ble_eq_true rfl) (cast (by kernel_rfl) h)
def xd91 : XD := (.seq (.reg [yS 0 2 (.box 61) [oT 0], yS 1 4 .mov [oC (.pointer none)]]) (.seq (.reg [yS 0 9 (.ld (some 3)) [oT 2], yS 1 10 (.bld [(nv 0), (nv 0), (.slice none 0 0), (.slice none 0 0)] [(0, 3)]) [oT 9], yS 2 11 (.box 134) [oT 10], yS 3 5 .mov [oT 11]]) (.seq (.seq (.reg [yS 0 12 .mov [oT 1], yS 1 13 .lenS [oT 12], yS 2 14 .mov [oC (nv 0)]]) (.block 0 (.loop [14] 34359722368 (.seq (.reg [yS 0 15 (.bin .lss 0) [oT 14, oT 13]]) (.seq (.cond (oT 15) .skip (.exit 0)) (.seq (.block 1 (.seq (.reg [yS 0 16 (.ixS 1) [oT 12, oT 14], yS 1 17 (.ld none) [oT 16], yS 2 7 .mov [oT 17]]) (.seq (.reg [yS 0 18 .mov [oT 7], yS 1 19 .lenS [oT 18], yS 2 20 (.make (nv 0) 1 8 3) [oT 19, oT 19], yS 3 8 .mov [oT 20]]) (.seq (.reg [yS 0 21 .mov [oT 8], yS 1 22 .mov [oT 7], yS 2 23 (.cpy 1) [oT 21, oT 22]]) (.reg [yS 0 24 .mov [oT 5], yS 1 25 .mov [oT 5], yS 2 26 .nilc [oT 25], yS 3 27 (.fld 3) [oT 26], yS 4 28 (.ld none) [oT 27], yS 5 29 .mov [oT 8], yS 6 30 (.bsl [(.slice none 0 0)] 1 [(0, 1)] 26) [oT 29], yS 7 31 (.app 26 1 24) [oT 28, oT 30], yS 8 32 .nilc [oT 24], yS 9 33 (.fld 3) [oT 32], yN 10 (.st 1) [oT 33, oT 31]]))))) (.reg [yS 0 34 (.bin .add 0) [oT 14, oC (nv 1)], yS 1 14 .mov [oT 34]]))))))) (.seq (.reg [yS 0 35 .mov [oT 5], yS 1 4 .mov [oT 35]]) .ret))))
theorem xd91_ok : compF Try.prog 91 = some ⟨36, [(.tmp 4)], xd91.er⟩ := by kernel_rfl
def g91 (f0 rows1 : Value) (H : AH) (R : Value → AH → Prop) : Prop :=
 @letH (H ++ [.cells (cellsL f0) 61 none false]) ⟨fun H1 =>
 @bindO (xload (some 3) H1 [(.pointer (some ⟨H.length, 0, none⟩))]) ⟨fun v9 =>
 @bindL (xfill [(nv 0), (nv 0), (.slice none 0 0), (.slice none 0 0)] [(0, 3)] [v9]) ⟨fun v10 =>
 @letH (H1 ++ [.cells (cellsL (.agg v10.toArray)) 134 none false]) ⟨fun H2 =>
 @bindO (xpure .lenS [rows1]) ⟨fun v13 =>
 @loopV1 (nv 0) H2 ⟨fun v14 H3 K1 =>
 @bindO (xbin .lss 0 v14 v13) ⟨fun v15 =>
 @condK v15 ⟨fun q => if q = true then @bindO (xpure (.ixS 1) [rows1, v14]) ⟨fun v16 =>
 @bindO (xload none H3 [v16]) ⟨fun v17 =>
 @bindO (xpure .lenS [v17]) ⟨fun v19 =>
 @bindN (xnew (.make (nv 0) 1 8 3) [v19, v19]) ⟨fun cv20 ev20 mkv20 => @letH (H3 ++ [.cells cv20 ev20 none false]) ⟨fun H4 =>
 @bindP (xact (.cpy 1) H4 [(mkv20 H3.length), v17]) ⟨fun v23 H5 =>
 @bindO (xpure .nilc [(.pointer (some ⟨H1.length, 0, none⟩))]) ⟨fun v26 =>
 @bindO (xpure (.fld 3) [v26]) ⟨fun v27 =>
 @bindO (xload none H5 [v27]) ⟨fun v28 =>
 @bindL (xfill [(.slice none 0 0)] [(0, 1)] [(mkv20 H3.length)]) ⟨fun cv30 => @letH (H5 ++ [.cells cv30 26 none false]) ⟨fun H6 =>
 @bindP (xact (.app 26 1 24) H6 [v28, (.slice (some ⟨H5.length, 0, none⟩) 1 1)]) ⟨fun v31 H7 =>
 @bindO (xpure .nilc [(.pointer (some ⟨H1.length, 0, none⟩))]) ⟨fun v32 =>
 @bindO (xpure (.fld 3) [v32]) ⟨fun v33 =>
 @bindP (xact (.st 1) H7 [v33, v31]) ⟨fun _v H8 =>
 @bindO (xbin .add 0 v14 (nv 1)) ⟨fun v34 =>
 K1 v34 H8⟩⟩⟩⟩⟩⟩⟩⟩⟩⟩⟩⟩⟩⟩⟩⟩ else
 R (.pointer (some ⟨H1.length, 0, none⟩)) H3⟩⟩⟩⟩⟩⟩⟩⟩
theorem g91_of {f0 rows1 : Value} {H : AH} {R : Value → AH → Prop} (h : g91 f0 rows1 H R) : FN Try.prog 91 [f0, rows1] H R :=
  FN.of_XD mixed xd91_ok (by kernel_rfl) (Nat.le_of_ble_eq_true rfl) (cast (by kernel_rfl) h)
def xd92 : XD := (.seq (.reg [yS 0 4 .mov [oC (.slice none 0 0)]]) (.seq (.reg [yS 0 5 .mov [oC (.slice none 0 0)]]) (.seq (.seq (.reg [yS 0 12 .mov [oT 1], yS 1 13 .mov [oC (nv 0)]]) (.block 0 (.loop [5, 13] 170141183460469231731687303715884101600 (.seq (.reg [yS 0 14 (.bin .lss 0) [oT 13, oT 12]]) (.seq (.cond (oT 14) .skip (.exit 0)) (.seq (.block 1 (.seq (.reg [yS 0 15 .mov [oT 13], yS 1 6 .mov [oT 15]]) (.seq (.reg [yS 0 16 .mov [oT 5], yS 1 17 .lenS [oT 16], yS 2 7 .mov [oT 17]]) (.seq (.reg [yS 0 18 .mov [oT 7], yS 1 8 .mov [oT 18]]) (.seq (.block 2 (.loop [8] 2199022731520 (.seq (.seq (.reg [yS 0 19 .mov [oT 8], yS 1 20 .mov [oT 0], yS 2 21 .nilc [oT 20], yS 3 22 (.fld 3) [oT 21], yS 4 23 (.ld none) [oT 22], yS 5 24 .lenS [oT 23], yS 6 25 (.bin .lss 0) [oT 19, oT 24], yS 7 26 .mov [oT 25], yG (some (26, true)) 8 (some 27) .mov [oT 0], yG (some (26, true)) 9 (some 28) .nilc [oT 27], yG (some (26, true)) 10 (some 29) (.fld 3) [oT 28], yG (some (26, true)) 11 (some 30) (.ld none) [oT 29], yG (some (26, true)) 12 (some 31) .mov [oT 8], yG (some (26, true)) 13 (some 32) (.ixS 1) [oT 30, oT 31], yG (some (26, true)) 14 (some 33) (.ld none) [oT 32], yG (some (26, true)) 15 (some 34) .mov [oT 6], yG (some (26, true)) 16 (some 35) (.ixS 1) [oT 33, oT 34], yG (some (26, true)) 17 (some 36) (.ld none) [oT 35], yG (some (26, true)) 18 (some 37) (.bin .eql 0) [oT 36, oC (nv 0)], yS 19 38 .pick [oT 26, oT 37, oC (.bool false)]]) (.cond (oT 38) .skip (.exit 2))) (.block 3 (.reg [yS 0 39 .mov [oT 8], yS 1 40 (.bin .add 0) [oT 39, oC (nv 1)], yS 2 8 .mov [oT 40]]))))) (.seq (.seq (.reg [yS 0 41 .mov [oT 8], yS 1 42 .mov [oT 0], yS 2 43 .nilc [oT 42], yS 3 44 (.fld 3) [oT 43], yS 4 45 (.ld none) [oT 44], yS 5 46 .lenS [oT 45], yS 6 47 (.bin .eql 0) [oT 41, oT 46]]) (.cond (oT 47) (.exit 1) .skip)) (.seq (.reg [yS 0 48 .mov [oT 0], yS 1 49 .nilc [oT 48], yS 2 50 (.fld 3) [oT 49], yS 3 51 (.ld none) [oT 50], yS 4 52 .mov [oT 8], yS 5 53 .mov [oT 0], yS 6 54 .nilc [oT 53], yS 7 55 (.fld 3) [oT 54], yS 8 56 (.ld none) [oT 55], yS 9 57 .mov [oT 7], yS 10 58 .mov [oT 0], yS 11 59 .nilc [oT 58], yS 12 60 (.fld 3) [oT 59], yS 13 61 (.ld none) [oT 60], yS 14 62 .mov [oT 7], yS 15 63 (.ixS 1) [oT 61, oT 62], yS 16 64 (.ld none) [oT 63], yS 17 65 .mov [oT 0], yS 18 66 .nilc [oT 65], yS 19 67 (.fld 3) [oT 66], yS 20 68 (.ld none) [oT 67], yS 21 69 .mov [oT 8], yS 22 70 (.ixS 1) [oT 68, oT 69], yS 23 71 (.ld none) [oT 70], yS 24 72 (.ixS 1) [oT 51, oT 52], yN 25 (.st 1) [oT 72, oT 64], yS 26 73 (.ixS 1) [oT 56, oT 57], yN 27 (.st 1) [oT 73, oT 71]]) (.seq (.reg [yS 0 75 .mov [oT 0], yS 1 76 .nilc [oT 75], yS 2 77 (.fld 0) [oT 76], yS 3 78 (.ld (some 3)) [oT 77], yS 4 79 .mov [oT 0], yS 5 80 .nilc [oT 79], yS 6 81 (.fld 3) [oT 80], yS 7 82 (.ld none) [oT 81], yS 8 83 .mov [oT 7], yS 9 84 (.ixS 1) [oT 82, oT 83], yS 10 85 (.ld none) [oT 84], yS 11 86 .mov [oT 6], yS 12 87 (.ixS 1) [oT 85, oT 86], yS 13 88 (.ld none) [oT 87], yS 14 89 .call [oF 138, oT 78, oT 88], yS 15 74 .mov [oT 89], yS 16 90 (.ext 0) [oT 74], yS 17 91 (.ext 1) [oT 74], yS 18 9 .mov [oT 90], yS 19 10 .mov [oT 91]]) (.seq (.reg [yS 0 92 .mov [oT 0], yS 1 93 .mov [oT 7], yS 2 94 .mov [oT 9], yS 3 95 .call [oF 139, oT 92, oT 93, oT 94]]) (.seq (.seq (.reg [yS 0 96 .mov [oT 0], yS 1 97 .nilc [oT 96], yS 2 98 (.fld 3) [oT 97], yS 3 99 (.ld none) [oT 98], yS 4 100 .lenS [oT 99], yS 5 101 .mov [oC (nv 0)]]) (.block 4 (.loop [101] 5316909447838463035156425247714969600 (.seq (.reg [yS 0 102 (.bin .lss 0) [oT 101, oT 100]]) (.seq (.cond (oT 102) .skip (.exit 4)) (.seq (.block 5 (.seq (.reg [yS 0 103 .mov [oT 101], yS 1 11 .mov [oT 103]]) (.seq (.reg [yS 0 104 .mov [oT 11], yS 1 105 .mov [oT 7], yS 2 106 (.bin .neq 0) [oT 104, oT 105]]) (.cond (oT 106) (.reg [yS 0 107 .mov [oT 0], yS 1 108 .mov [oT 11], yS 2 109 .mov [oT 0], yS 3 110 .nilc [oT 109], yS 4 111 (.fld 3) [oT 110], yS 5 112 (.ld none) [oT 111], yS 6 113 .mov [oT 11], yS 7 114 (.ixS 1) [oT 112, oT 113], yS 8 115 (.ld none) [oT 114], yS 9 116 .mov [oT 6], yS 10 117 (.ixS 1) [oT 115, oT 116], yS 11 118 (.ld none) [oT 117], yS 12 119 .mov [oT 7], yS 13 120 .call [oF 140, oT 107, oT 108, oT 118, oT 119]]) .skip)))) (.reg [yS 0 121 (.bin .add 0) [oT 101, oC (nv 1)], yS 1 101 .mov [oT 121]]))))))) (.reg [yS 0 122 .mov [oT 5], yS 1 123 .mov [oT 6], yS 2 124 (.bsl [(nv 0)] 1 [(0, 1)] 3) [oT 123], yS 3 125 (.app 3 1 8) [oT 122, oT 124], yS 4 5 .mov [oT 125]]))))))))))) (.reg [yS 0 126 (.bin .add 0) [oT 13, oC (nv 1)], yS 1 13 .mov [oT 126]]))))))) (.seq (.reg [yS 0 127 .mov [oT 5], yS 1 4 .mov [oT 127]]) .ret))))
theorem xd92_ok : compF Try.prog 92 = some ⟨128, [(.tmp 4)], xd92.er⟩ := by kernel_rfl
def g92 (m0 width1 : Value) (H : AH) (R : Value → AH → Prop) : Prop :=
 @loopV2 (.slice none 0 0) (nv 0) H ⟨fun pivots5 v13 H1 K1 =>
 @bindO (xbin .lss 0 v13 width1) ⟨fun v14 =>
 @condK v14 ⟨fun q => if q = true then @bindO (xpure .lenS [pivots5]) ⟨fun v17 =>
 @loopV1 v17 H1 ⟨fun i8 H2 K2 =>
 @bindO (xpure .nilc [m0]) ⟨fun v21 =>
 @bindO (xpure (.fld 3) [v21]) ⟨fun v22 =>
 @bindO (xload none H2 [v22]) ⟨fun v23 =>
 @bindO (xpure .lenS [v23]) ⟨fun v24 =>
 @bindO (xbin .lss 0 i8 v24) ⟨fun v25 =>
 @guardJ (asB v25) (fun J3 => J3 m0 H2) H2 ⟨fun v27 H3 =>
 @guardJ (asB v25) (fun J4 => @bindO (xpure .nilc [v27]) ⟨fun v28 =>
 J4 v28 H3⟩) H3 ⟨fun v28a H4 =>
 @guardJ (asB v25) (fun J5 => @bindO (xpure (.fld 3) [v28a]) ⟨fun v29 =>
 J5 v29 H4⟩) H4 ⟨fun v29a H5 =>
 @guardJ (asB v25) (fun J6 => @bindO (xload none H5 [v29a]) ⟨fun v30 =>
 J6 v30 H5⟩) H5 ⟨fun v30a H6 =>
 @guardJ (asB v25) (fun J7 => J7 i8 H6) H6 ⟨fun v31 H7 =>
 @guardJ (asB v25) (fun J8 => @bindO (xpure (.ixS 1) [v30a, v31]) ⟨fun v32 =>
 J8 v32 H7⟩) H7 ⟨fun v32a H8 =>
 @guardJ (asB v25) (fun J9 => @bindO (xload none H8 [v32a]) ⟨fun v33 =>
 J9 v33 H8⟩) H8 ⟨fun v33a H9 =>
 @guardJ (asB v25) (fun J10 => J10 v13 H9) H9 ⟨fun v34 H10 =>
 @guardJ (asB v25) (fun J11 => @bindO (xpure (.ixS 1) [v33a, v34]) ⟨fun v35 =>
 J11 v35 H10⟩) H10 ⟨fun v35a H11 =>
 @guardJ (asB v25) (fun J12 => @bindO (xload none H11 [v35a]) ⟨fun v36 =>
 J12 v36 H11⟩) H11 ⟨fun v36a H12 =>
 @guardJ (asB v25) (fun J13 => @bindO (xbin .eql 0 v36a (nv 0)) ⟨fun v37 =>
 J13 v37 H12⟩) H12 ⟨fun v37a H13 =>
 @pickK v25 v37a (.bool false) ⟨fun v38 =>
 @condK v38 ⟨fun q => if q = true then @bindO (xbin .add 0 i8 (nv 1)) ⟨fun v40 =>
 K2 v40 H13⟩ else
 @bindO (xpure .nilc [m0]) ⟨fun v43 =>
 @bindO (xpure (.fld 3) [v43]) ⟨fun v44 =>
 @bindO (xload none H13 [v44]) ⟨fun v45 =>
 @bindO (xpure .lenS [v45]) ⟨fun v46 =>
 @bindO (xbin .eql 0 i8 v46) ⟨fun v47 =>
 @condK v47 ⟨fun q => if q = true then @bindO (xbin .add 0 v13 (nv 1)) ⟨fun v126 =>
 K1 pivots5 v126 H13⟩ else
 @bindO (xpure .nilc [m0]) ⟨fun v49 =>
 @bindO (xpure (.fld 3) [v49]) ⟨fun v50 =>
 @bindO (xload none H13 [v50]) ⟨fun v51 =>
 @bindO (xpure .nilc [m0]) ⟨fun v54 =>
 @bindO (xpure (.fld 3) [v54]) ⟨fun v55 =>
 @bindO (xload none H13 [v55]) ⟨fun v56 =>
 @bindO (xpure .nilc [m0]) ⟨fun v59 =>
 @bindO (xpure (.fld 3) [v59]) ⟨fun v60 =>
 @bindO (xload none H13 [v60]) ⟨fun v61 =>
 @bindO (xpure (.ixS 1) [v61, v17]) ⟨fun v63 =>
 @bindO (xload none H13 [v63]) ⟨fun v64 =>
 @bindO (xpure .nilc [m0]) ⟨fun v66 =>
 @bindO (xpure (.fld 3) [v66]) ⟨fun v67 =>
 @bindO (xload none H13 [v67]) ⟨fun v68 =>
 @bindO (xpure (.ixS 1) [v68, i8]) ⟨fun v70 =>
 @bindO (xload none H13 [v70]) ⟨fun v71 =>
 @bindO (xpure (.ixS 1) [v51, i8]) ⟨fun v72 =>
 @bindP (xact (.st 1) H13 [v72, v64]) ⟨fun _v H14 =>
 @bindO (xpure (.ixS 1) [v56, v17]) ⟨fun v73 =>
 @bindP (xact (.st 1) H14 [v73, v71]) ⟨fun _v H15 =>
 @bindO (xpure .nilc [m0]) ⟨fun v76 =>
 @bindO (xpure (.fld 0) [v76]) ⟨fun v77 =>
 @bindO (xload (some 3) H15 [v77]) ⟨fun v78 =>
 @bindO (xpure .nilc [m0]) ⟨fun v80 =>
 @bindO (xpure (.fld 3) [v80]) ⟨fun v81 =>
 @bindO (xload none H15 [v81]) ⟨fun v82 =>
 @bindO (xpure (.ixS 1) [v82, v17]) ⟨fun v84 =>
 @bindO (xload none H15 [v84]) ⟨fun v85 =>
 @bindO (xpure (.ixS 1) [v85, v13]) ⟨fun v87 =>
 @bindO (xload none H15 [v87]) ⟨fun v88 =>
 @cG 138 [v78, v88] H15 ⟨fun v89 H16 =>
 @bindO (xpure (.ext 0) [v89]) ⟨fun v90 =>
 @bindO (xpure (.ext 1) [v89]) ⟨fun v91 =>
 @cG 139 [m0, v17, v90] H16 ⟨fun v95 H17 =>
 @bindO (xpure .nilc [m0]) ⟨fun v97 =>
 @bindO (xpure (.fld 3) [v97]) ⟨fun v98 =>
 @bindO (xload none H17 [v98]) ⟨fun v99 =>
 @bindO (xpure .lenS [v99]) ⟨fun v100 =>
 @loopV1 (nv 0) H17 ⟨fun v101 H18 K14 =>
 @bindO (xbin .lss 0 v101 v100) ⟨fun v102 =>
 @condK v102 ⟨fun q => if q = true then @bindO (xbin .neq 0 v101 v17) ⟨fun v106 =>
 @condK v106 ⟨fun q => if q = true then @bindO (xpure .nilc [m0]) ⟨fun v110 =>
 @bindO (xpure (.fld 3) [v110]) ⟨fun v111 =>
 @bindO (xload none H18 [v111]) ⟨fun v112 =>
 @bindO (xpure (.ixS 1) [v112, v101]) ⟨fun v114 =>
 @bindO (xload none H18 [v114]) ⟨fun v115 =>
 @bindO (xpure (.ixS 1) [v115, v13]) ⟨fun v117 =>
 @bindO (xload none H18 [v117]) ⟨fun v118 =>
 @cG 140 [m0, v101, v118, v17] H18 ⟨fun v120 H19 =>
 @bindO (xbin .add 0 v101 (nv 1)) ⟨fun v121 =>
 K14 v121 H19⟩⟩⟩⟩⟩⟩⟩⟩⟩ else
 @bindO (xbin .add 0 v101 (nv 1)) ⟨fun v121a =>
 K14 v121a H18⟩⟩⟩ else
 @bindL (xfill [(nv 0)] [(0, 1)] [v13]) ⟨fun cv124 => @letH (H18 ++ [.cells cv124 3 none false]) ⟨fun H20 =>
 @bindP (xact (.app 3 1 8) H20 [pivots5, (.slice (some ⟨H18.length, 0, none⟩) 1 1)]) ⟨fun v125 H21 =>
 @bindO (xbin .add 0 v13 (nv 1)) ⟨fun v126a =>
 K1 v125 v126a H21⟩⟩⟩⟩⟩⟩⟩⟩⟩⟩⟩⟩⟩⟩⟩⟩⟩⟩⟩⟩⟩⟩⟩⟩⟩⟩⟩⟩⟩⟩⟩⟩⟩⟩⟩⟩⟩⟩⟩⟩⟩⟩⟩⟩⟩⟩⟩⟩⟩⟩⟩⟩⟩⟩⟩⟩⟩⟩⟩⟩⟩⟩⟩⟩⟩⟩⟩⟩⟩⟩⟩ else
 R pivots5 H1⟩⟩⟩
theorem g92_of {m0 width1 : Value} {H : AH} {R : Value → AH → Prop} (h : g92 m0 width1 H R) : FN Try.prog 92 [m0, width1] H R :=
  FN.of_XD mixed xd92_ok (by kernel_rfl) (Nat.le_of_ble_eq_true rfl) (cast (by kernel_rfl) h)
def xd93 : XD := (.seq (.reg [yS 0 2 .mov [oC (nv 0)]]) (.seq (.seq (.reg [yS 0 3 .mov [oT 0], yS 1 4 .lenS [oT 3], yS 2 5 (.bin .eql 0) [oT 4, oC (nv 0)]]) (.cond (oT 5) (.seq (.reg [yS 0 2 .mov [oC (nv 0)]]) .ret) .skip)) (.seq (.reg [yS 0 6 .mov [oT 0], yS 1 7 (.ixS 1) [oT 6, oC (nv 0)], yS 2 8 (.ld none) [oT 7], yS 3 9 .lenS [oT 8], yS 4 2 .mov [oT 9]]) .ret)))
theorem xd93_ok : compF Try.prog 93 = some ⟨10, [(.tmp 2)], xd93.er⟩ := by kernel_rfl
def g93 (rows0 : Value) (H : AH) (R : Value → AH → Prop) : Prop :=
 @bindO (xpure .lenS [rows0]) ⟨fun v4 =>
 @bindO (xbin .eql 0 v4 (nv 0)) ⟨fun v5 =>
 @condK v5 ⟨fun q => if q = true then R (nv 0) H else
 @bindO (xpure (.ixS 1) [rows0, (nv 0)]) ⟨fun v7 =>
 @bindO (xload none H [v7]) ⟨fun v8 =>
 @bindO (xpure .lenS [v8]) ⟨fun v9 =>
 R v9 H⟩⟩⟩⟩⟩⟩
theorem g93_of {rows0 : Value} {H : AH} {R : Value → AH → Prop} (h : g93 rows0 H R) : FN Try.prog 93 [rows0] H R :=
  FN.of_XD mixed xd93_ok (by kernel_rfl) (Nat.le_of_ble_eq_true rfl) (cast (by kernel_rfl) h)
def xd94 : XD := (.seq (.reg [yS 0 3 (.box 61) [oT 0], yS 1 6 .mov [oC (.slice none 0 0)]]) (.seq (.reg [yS 0 14 (.ld (some 3)) [oT 3], yS 1 15 .mov [oT 1], yS 2 16 .mov [oT 2], yS 3 17 .call [oF 101, oT 14, oT 15, oT 16], yS 4 7 .mov [oT 17]]) (.seq (.reg [yS 0 18 .mov [oT 7], yS 1 19 .call [oF 65, oT 18], yS 2 8 .mov [oT 19]]) (.seq (.seq (.reg [yS 0 20 .mov [oT 8], yS 1 21 .mov [oT 7], yS 2 22 .lenS [oT 21], yS 3 23 (.bin .eql 0) [oT 20, oT 22]]) (.cond (oT 23) (.seq (.reg [yS 0 24 .mov [oT 1], yS 1 6 .mov [oT 24]]) .ret) .skip)) (.seq (.reg [yS 0 26 (.ld (some 3)) [oT 3], yS 1 27 .mov [oT 7], yS 2 28 .mov [oT 8], yS 3 29 (.ixS 1) [oT 27, oT 28], yS 4 30 (.ld none) [oT 29], yS 5 31 .call [oF 141, oT 26, oT 30], yS 6 25 .mov [oT 31], yS 7 32 (.ext 0) [oT 25], yS 8 33 (.ext 1) [oT 25], yS 9 9 .mov [oT 32], yS 10 10 .mov [oT 33]]) (.seq (.reg [yS 0 34 (.ld (some 3)) [oT 3], yS 1 35 .mov [oT 9], yS 2 36 .mov [oT 7], yS 3 37 .call [oF 63, oT 34, oT 35, oT 36], yS 4 7 .mov [oT 37]]) (.seq (.reg [yS 0 38 (.bsl [] 0 [] 26) [], yS 1 11 .mov [oT 38]]) (.seq (.reg [yS 0 12 .mov [oC (.bool false)]]) (.seq (.seq (.reg [yS 0 13 .mov [oC (nv 0)]]) (.block 0 (.loop [11, 12, 13] 604462909806764831553536 (.seq (.seq (.reg [yS 0 39 .mov [oT 13], yS 1 40 .mov [oT 1], yS 2 41 .lenS [oT 40], yS 3 42 (.bin .lss 0) [oT 39, oT 41]]) (.cond (oT 42) .skip (.exit 0))) (.seq (.block 1 (.join [11, 12] 1152886320234764288 (.seq (.reg [yS 0 45 .mov [oT 12], yS 1 46 (.un .not) [oT 45], yS 2 47 .mov [oT 46], yG (some (47, true)) 3 (some 48) .mov [oT 1], yG (some (47, true)) 4 (some 49) .mov [oT 13], yG (some (47, true)) 5 (some 50) (.ixS 1) [oT 48, oT 49], yG (some (47, true)) 6 (some 51) (.ld none) [oT 50], yG (some (47, true)) 7 (some 52) .call [oF 65, oT 51], yG (some (47, true)) 8 (some 53) .mov [oT 8], yG (some (47, true)) 9 (some 54) (.bin .gtr 0) [oT 52, oT 53], yS 10 55 .pick [oT 47, oT 54, oC (.bool false)]]) (.cond (oT 55) (.seq (.reg [yS 0 56 .mov [oT 11], yS 1 57 .mov [oT 7], yS 2 58 (.bsl [(.slice none 0 0)] 1 [(0, 1)] 26) [oT 57], yS 3 59 (.app 26 1 24) [oT 56, oT 58], yS 4 11 .mov [oT 59]]) (.reg [yS 0 12 .mov [oC (.bool true)]])) .skip)) (.reg [yS 0 60 .mov [oT 11], ⟨none, (.ld (some 3)), [oT 3], some 61, 1, true, []⟩, yS 2 62 .mov [oT 1], yS 3 63 .mov [oT 13], yS 4 64 (.ixS 1) [oT 62, oT 63], ⟨none, (.ld none), [oT 64], some 65, 5, true, []⟩, yS 6 66 (.ld (some 3)) [oT 3], yS 7 67 .mov [oT 1], yS 8 68 .mov [oT 13], yS 9 69 (.ixS 1) [oT 67, oT 68], yS 10 70 (.ld none) [oT 69], yS 11 71 .mov [oT 8], yS 12 72 (.ixS 1) [oT 70, oT 71], yS 13 73 (.ld none) [oT 72], yS 15 75 .mov [oT 7], ⟨none, .call, [oF 142, oT 66, oT 73], some 74, 14, false, [5, 1]⟩, yS 16 76 .call [oF 61, oT 61, oT 65, oT 74, oT 75], yS 17 77 (.bsl [(.slice none 0 0)] 1 [(0, 1)] 26) [oT 76], yS 18 78 (.app 26 1 24) [oT 60, oT 77], yS 19 11 .mov [oT 78]]))) (.reg [yS 0 43 .mov [oT 13], yS 1 44 (.bin .add 0) [oT 43, oC (nv 1)], yS 2 13 .mov [oT 44]])))))) (.join [11] 38081163317860819003246592 (.seq (.reg [yS 0 79 .mov [oT 12], yS 1 80 (.un .not) [oT 79]]) (.cond (oT 80) (.reg [yS 0 81 .mov [oT 11], yS 1 82 .mov [oT 7], yS 2 83 (.bsl [(.slice none 0 0)] 1 [(0, 1)] 26) [oT 82], yS 3 84 (.app 26 1 24) [oT 81, oT 83], yS 4 11 .mov [oT 84]]) .skip)) (.seq (.reg [yS 0 85 .mov [oT 11], yS 1 6 .mov [oT 85]]) .ret)))))))))))
theorem xd94_ok : compF Try.prog 94 = some ⟨86, [(.tmp 6)], xd94.er⟩ := by kernel_rfl
def g94 (f0 basis1 v2 : Value) (H : AH) (R : Value → AH → Prop) : Prop :=
 @letH (H ++ [.cells (cellsL f0) 61 none false]) ⟨fun H1 =>
 @bindO (xload (some 3) H1 [(.pointer (some ⟨H.length, 0, none⟩))]) ⟨fun v14 =>
 @cG 101 [v14, basis1, v2] H1 ⟨fun v17 H2 =>
 @cG 65 [v17] H2 ⟨fun v19 H3 =>
 @bindO (xpure .lenS [v17]) ⟨fun v22 =>
 @bindO (xbin .eql 0 v19 v22) ⟨fun v23 =>
 @condK v23 ⟨fun q => if q = true then R basis1 H3 else
 @bindO (xload (some 3) H3 [(.pointer (some ⟨H.length, 0, none⟩))]) ⟨fun v26 =>
 @bindO (xpure (.ixS 1) [v17, v19]) ⟨fun v29 =>
 @bindO (xload none H3 [v29]) ⟨fun v30 =>
 @cG 141 [v26, v30] H3 ⟨fun v31 H4 =>
 @bindO (xpure (.ext 0) [v31]) ⟨fun v32 =>
 @bindO (xpure (.ext 1) [v31]) ⟨fun v33 =>
 @bindO (xload (some 3) H4 [(.pointer (some ⟨H.length, 0, none⟩))]) ⟨fun v34 =>
 @cG 63 [v34, v32, v17] H4 ⟨fun v37 H5 =>
 @bindL (xfill [] [] []) ⟨fun cv38 => @letH (H5 ++ [.cells cv38 26 none false]) ⟨fun H6 =>
 @loopV3 (.slice (some ⟨H5.length, 0, none⟩) 0 0) (.bool false) (nv 0) H6 ⟨fun out11 done12 i13 H7 K1 =>
 @bindO (xpure .lenS [basis1]) ⟨fun v41 =>
 @bindO (xbin .lss 0 i13 v41) ⟨fun v42 =>
 @condK v42 ⟨fun q => if q = true then @joinV2 (fun J2 => @bindO (eun .not done12) ⟨fun v46 =>
 @guardJ (asB v46) (fun J3 => J3 basis1 H7) H7 ⟨fun v48 H8 =>
 @guardJ (asB v46) (fun J4 => J4 i13 H8) H8 ⟨fun v49 H9 =>
 @guardJ (asB v46) (fun J5 => @bindO (xpure (.ixS 1) [v48, v49]) ⟨fun v50 =>
 J5 v50 H9⟩) H9 ⟨fun v50a H10 =>
 @guardJ (asB v46) (fun J6 => @bindO (xload none H10 [v50a]) ⟨fun v51 =>
 J6 v51 H10⟩) H10 ⟨fun v51a H11 =>
 @guardJ (asB v46) (fun J7 => @cG 65 [v51a] H11 ⟨fun v52 H12 =>
 J7 v52 H12⟩) H11 ⟨fun v52a H13 =>
 @guardJ (asB v46) (fun J8 => J8 v19 H13) H13 ⟨fun v53 H14 =>
 @guardJ (asB v46) (fun J9 => @bindO (xbin .gtr 0 v52a v53) ⟨fun v54 =>
 J9 v54 H14⟩) H14 ⟨fun v54a H15 =>
 @pickK v46 v54a (.bool false) ⟨fun v55 =>
 @condK v55 ⟨fun q => if q = true then @bindL (xfill [(.slice none 0 0)] [(0, 1)] [v37]) ⟨fun cv58 => @letH (H15 ++ [.cells cv58 26 none false]) ⟨fun H16 =>
 @bindP (xact (.app 26 1 24) H16 [out11, (.slice (some ⟨H15.length, 0, none⟩) 1 1)]) ⟨fun v59 H17 =>
 J2 v59 (.bool true) H17⟩⟩⟩ else
 J2 out11 done12 H15⟩⟩⟩⟩⟩⟩⟩⟩⟩⟩) ⟨fun out11a done12a H18 =>
 @bindO (xload (some 3) H18 [(.pointer (some ⟨H.length, 0, none⟩))]) ⟨fun v61 =>
 @bindO (xpure (.ixS 1) [basis1, i13]) ⟨fun v64 =>
 @bindO (xload none H18 [v64]) ⟨fun v65 =>
 @bindO (xload (some 3) H18 [(.pointer (some ⟨H.length, 0, none⟩))]) ⟨fun v66 =>
 @bindO (xpure (.ixS 1) [basis1, i13]) ⟨fun v69 =>
 @bindO (xload none H18 [v69]) ⟨fun v70 =>
 @bindO (xpure (.ixS 1) [v70, v19]) ⟨fun v72 =>
 @bindO (xload none H18 [v72]) ⟨fun v73 =>
 @cG 142 [v66, v73] H18 ⟨fun v74 H19 =>
 (chkX [5, 1] (⟨5, none, [v64], v65⟩ :: (⟨1, (some 3), [(.pointer (some ⟨H.length, 0, none⟩))], v61⟩ :: [])) H19 ∧ @cG 61 [v61, v65, v74, v37] H19 ⟨fun v76 H20 =>
 @bindL (xfill [(.slice none 0 0)] [(0, 1)] [v76]) ⟨fun cv77 => @letH (H20 ++ [.cells cv77 26 none false]) ⟨fun H21 =>
 @bindP (xact (.app 26 1 24) H21 [out11a, (.slice (some ⟨H20.length, 0, none⟩) 1 1)]) ⟨fun v78 H22 =>
 @bindO (xbin .add 0 i13 (nv 1)) ⟨fun v44 =>
 K1 v78 done12a v44 H22⟩⟩⟩⟩⟩)⟩⟩⟩⟩⟩⟩⟩⟩⟩⟩ else
 @joinV1 (fun J10 => @bindO (eun .not done12) ⟨fun v80 =>
 @condK v80 ⟨fun q => if q = true then @bindL (xfill [(.slice none 0 0)] [(0, 1)] [v37]) ⟨fun cv83 => @letH (H7 ++ [.cells cv83 26 none false]) ⟨fun H23 =>
 @bindP (xact (.app 26 1 24) H23 [out11, (.slice (some ⟨H7.length, 0, none⟩) 1 1)]) ⟨fun v84 H24 =>
 J10 v84 H24⟩⟩⟩ else
 J10 out11 H7⟩⟩) ⟨fun out11b H25 =>
 R out11b H25⟩⟩⟩⟩⟩⟩⟩⟩⟩⟩⟩⟩⟩⟩⟩⟩⟩⟩⟩⟩⟩⟩
theorem g94_of {f0 basis1 v2 : Value} {H : AH} {R : Value → AH → Prop} (h : g94 f0 basis1 v2 H R) : FN Try.prog 94 [f0, basis1, v2] H R :=
  FN.of_XD mixed xd94_ok (by kernel_rfl) (Nat.le_of_ble_eq_true rfl) (cast (by kernel_rfl) h)
def xd95 : XD := (.seq (.reg [yS 0 4 .mov [oC (.bool false)]]) (.seq (.reg [yS 0 5 .mov [oT 0], yS 1 6 .mov [oT 1], yS 2 7 .call [oF 143, oT 5, oT 6], yS 3 8 (.bin .geq 0) [oT 7, oC (nv 0)], yS 4 4 .mov [oT 8]]) .ret))
theorem xd95_ok : compF Try.prog 95 = some ⟨9, [(.tmp 4)], xd95.er⟩ := by kernel_rfl
def g95 (s0 v1 : Value) (H : AH) (R : Value → AH → Prop) : Prop :=
 @cG 143 [s0, v1] H ⟨fun v7 H1 =>
 @bindO (xbin .geq 0 v7 (nv 0)) ⟨fun v8 =>
 R v8 H1⟩⟩
theorem g95_of {s0 v1 : Value} {H : AH} {R : Value → AH → Prop} (h : g95 s0 v1 H R) : FN Try.prog 95 [s0, v1] H R :=
  FN.of_XD mixed xd95_ok (by kernel_rfl) (Nat.le_of_ble_eq_true rfl) (cast (by kernel_rfl) h)
def xd99 : XD := (.seq (.reg [yS 0 4 (.box 61) [oT 0], yS 1 8 .mov [oC (.slice none 0 0)], yS 2 9 .mov [oC (nv 0)]]) (.seq (.reg [yS 0 10 .mov [oC (.slice none 0 0)]]) (.seq (.seq (.reg [yS 0 18 .mov [oT 3], yS 1 19 .lenS [oT 18], yS 2 20 .mov [oC (nv 0)]]) (.block 0 (.loop [10, 20] 1072698368 (.seq (.reg [yS 0 21 (.bin .lss 0) [oT 20, oT 19]]) (.seq (.cond (oT 21) .skip (.exit 0)) (.seq (.block 1 (.seq (.reg [yS 0 22 (.ixS 1) [oT 18, oT 20], yS 1 23 (.ld none) [oT 22], yS 2 12 .mov [oT 23]]) (.reg [yS 0 24 .mov [oT 10], yS 1 25 .mov [oT 12], yS 2 26 (.bsl [(nv 0)] 1 [(0, 1)] 3) [oT 25], yS 3 27 (.bsl [(.slice none 0 0)] 1 [(0, 1)] 26) [oT 26], yS 4 28 (.app 26 1 24) [oT 24, oT 27], yS 5 10 .mov [oT 28]]))) (.reg [yS 0 29 (.bin .add 0) [oT 20, oC (nv 1)], yS 1 20 .mov [oT 29]]))))))) (.seq (.reg [⟨none, (.ld (some 3)), [oT 4], some 30, 0, true, []⟩, yS 1 31 .mov [oT 2], yS 2 32 .mov [oT 10], ⟨none, .call, [oF 103, oT 31, oT 32], some 33, 3, false, [0]⟩, yS 4 34 .call [oF 91, oT 30, oT 33], yS 5 13 .mov [oT 34]]) (.seq (.reg [yS 0 35 .mov [oT 1], yS 1 36 (.make (nv 0) 1 8 3) [oT 35, oT 35], yS 2 14 .mov [oT 36]]) (.seq (.reg [yS 0 37 .mov [oT 13], yS 1 38 .mov [oT 1], yS 2 39 .call [oF 92, oT 37, oT 38], yS 3 15 .mov [oT 39]]) (.seq (.seq (.reg [yS 0 40 .mov [oT 13], yS 1 41 .nilc [oT 40], yS 2 42 (.fld 3) [oT 41], yS 3 43 (.ld none) [oT 42], yS 4 44 .lenS [oT 43], yS 5 45 .mov [oC (nv 0)]]) (.block 2 (.loop [45] 4722366447685273322240 (.seq (.reg [yS 0 46 (.bin .lss 0) [oT 45, oT 44]]) (.seq (.cond (oT 46) .skip (.exit 2)) (.seq (.block 3 (.seq (.reg [yS 0 47 .mov [oT 45], yS 1 48 (.ixS 1) [oT 43, oT 45], yS 2 49 (.ld none) [oT 48], yS 3 16 .mov [oT 47], yS 4 17 .mov [oT 49]]) (.block 4 (.seq (.reg [yS 0 51 .mov [oT 16], yS 1 52 .mov [oT 15], yS 2 53 .lenS [oT 52], yS 3 54 (.bin .lss 0) [oT 51, oT 53], yS 4 50 .mov [oT 54]]) (.cond (oT 50) (.reg [yS 0 55 .mov [oT 14], yS 1 56 .mov [oT 15], yS 2 57 .mov [oT 16], yS 3 58 (.ixS 1) [oT 56, oT 57], yS 4 59 (.ld none) [oT 58], yS 5 60 .mov [oT 17], yS 6 61 .mov [oT 1], yS 7 62 (.ixS 1) [oT 60, oT 61], yS 8 63 (.ld none) [oT 62], yS 9 64 (.ixS 1) [oT 55, oT 59], yN 10 (.st 1) [oT 64, oT 63]]) (.seq (.reg [yS 0 66 .mov [oT 17], yS 1 67 .mov [oT 1], yS 2 68 (.ixS 1) [oT 66, oT 67], yS 3 69 (.ld none) [oT 68], yS 4 70 (.bin .neq 0) [oT 69, oC (nv 0)], yS 5 65 .mov [oT 70]]) (.cond (oT 65) (.seq (.reg [yS 0 8 .mov [oC (.slice none 0 0)], yS 1 9 .mov [oC (nv 4)]]) .ret) .skip))))))) (.reg [yS 0 71 (.bin .add 0) [oT 45, oC (nv 1)], yS 1 45 .mov [oT 71]]))))))) (.seq (.reg [yS 0 72 .mov [oT 14], yS 1 8 .mov [oT 72], yS 2 9 .mov [oC (nv 0)]]) .ret))))))))
theorem xd99_ok : compF Try.prog 99 = some ⟨73, [(.tmp 8), (.tmp 9)], xd99.er⟩ := by kernel_rfl
def g99 (f0 n1 rows2 b3 : Value) (H : AH) (R : Value → AH → Prop) : Prop :=
 @letH (H ++ [.cells (cellsL f0) 61 none false]) ⟨fun H1 =>
 @bindO (xpure .lenS [b3]) ⟨fun v19 =>
 @loopV2 (.slice none 0 0) (nv 0) H1 ⟨fun right10 v20 H2 K1 =>
 @bindO (xbin .lss 0 v20 v19) ⟨fun v21 =>
 @condK v21 ⟨fun q => if q = true then @bindO (xpure (.ixS 1) [b3, v20]) ⟨fun v22 =>
 @bindO (xload none H2 [v22]) ⟨fun v23 =>
 @bindL (xfill [(nv 0)] [(0, 1)] [v23]) ⟨fun cv26 => @letH (H2 ++ [.cells cv26 3 none false]) ⟨fun H3 =>
 @bindL (xfill [(.slice none 0 0)] [(0, 1)] [(.slice (some ⟨H2.length, 0, none⟩) 1 1)]) ⟨fun cv27 => @letH (H3 ++ [.cells cv27 26 none false]) ⟨fun H4 =>
 @bindP (xact (.app 26 1 24) H4 [right10, (.slice (some ⟨H3.length, 0, none⟩) 1 1)]) ⟨fun v28 H5 =>
 @bindO (xbin .add 0 v20 (nv 1)) ⟨fun v29 =>
 K1 v28 v29 H5⟩⟩⟩⟩⟩⟩⟩⟩ else
 @bindO (xload (some 3) H2 [(.pointer (some ⟨H.length, 0, none⟩))]) ⟨fun v30 =>
 @cG 103 [rows2, right10] H2 ⟨fun v33 H6 =>
 (chkX [0] (⟨0, (some 3), [(.pointer (some ⟨H.length, 0, none⟩))], v30⟩ :: []) H6 ∧ @cG 91 [v30, v33] H6 ⟨fun v34 H7 =>
 @bindN (xnew (.make (nv 0) 1 8 3) [n1, n1]) ⟨fun cv36 ev36 mkv36 => @letH (H7 ++ [.cells cv36 ev36 none false]) ⟨fun H8 =>
 @cG 92 [v34, n1] H8 ⟨fun v39 H9 =>
 @bindO (xpure .nilc [v34]) ⟨fun v41 =>
 @bindO (xpure (.fld 3) [v41]) ⟨fun v42 =>
 @bindO (xload none H9 [v42]) ⟨fun v43 =>
 @bindO (xpure .lenS [v43]) ⟨fun v44 =>
 @loopV1 (nv 0) H9 ⟨fun v45 H10 K2 =>
 @bindO (xbin .lss 0 v45 v44) ⟨fun v46 =>
 @condK v46 ⟨fun q => if q = true then @bindO (xpure (.ixS 1) [v43, v45]) ⟨fun v48 =>
 @bindO (xload none H10 [v48]) ⟨fun v49 =>
 @bindO (xpure .lenS [v39]) ⟨fun v53 =>
 @bindO (xbin .lss 0 v45 v53) ⟨fun v54 =>
 @condK v54 ⟨fun q => if q = true then @bindO (xpure (.ixS 1) [v39, v45]) ⟨fun v58 =>
 @bindO (xload none H10 [v58]) ⟨fun v59 =>
 @bindO (xpure (.ixS 1) [v49, n1]) ⟨fun v62 =>
 @bindO (xload none H10 [v62]) ⟨fun v63 =>
 @bindO (xpure (.ixS 1) [(mkv36 H7.length), v59]) ⟨fun v64 =>
 @bindP (xact (.st 1) H10 [v64, v63]) ⟨fun _v H11 =>
 @bindO (xbin .add 0 v45 (nv 1)) ⟨fun v71 =>
 K2 v71 H11⟩⟩⟩⟩⟩⟩⟩ else
 @bindO (xpure (.ixS 1) [v49, n1]) ⟨fun v68 =>
 @bindO (xload none H10 [v68]) ⟨fun v69 =>
 @bindO (xbin .neq 0 v69 (nv 0)) ⟨fun v70 =>
 @condK v70 ⟨fun q => if q = true then R (.tuple [(.slice none 0 0), (nv 4)].toArray) H10 else
 @bindO (xbin .add 0 v45 (nv 1)) ⟨fun v71a =>
 K2 v71a H10⟩⟩⟩⟩⟩⟩⟩⟩⟩⟩ else
 R (.tuple [(mkv36 H7.length), (nv 0)].toArray) H10⟩⟩⟩⟩⟩⟩⟩⟩⟩⟩⟩)⟩⟩⟩⟩⟩⟩⟩
theorem g99_of {f0 n1 rows2 b3 : Value} {H : AH} {R : Value → AH → Prop} (h : g99 f0 n1 rows2 b3 H R) : FN Try.prog 99 [f0, n1, rows2, b3] H R :=
  FN.of_XD mixed xd99_ok (by kernel_rfl) (Nat.le_of_ble_eq_true rfl) (cast (by kernel_rfl) h)
def xd100 : XD := (.seq (.reg [yS 0 2 .mov [oC (.slice none 0 0)]]) (.seq (.seq (.reg [yS 0 3 .mov [oT 0], yS 1 4 (.bin .eql 2) [oT 3, oC (.slice none 0 0)]]) (.cond (oT 4) (.seq (.reg [yS 0 2 .mov [oC (.slice none 0 0)]]) .ret) .skip)) (.seq (.reg [yS 0 5 (.bsl [] 0 [] 26) [], yS 1 6 .mov [oT 0], yS 2 7 (.app 26 1 24) [oT 5, oT 6], yS 3 2 .mov [oT 7]]) .ret)))
theorem xd100_ok : compF Try.prog 100 = some ⟨8, [(.tmp 2)], xd100.er⟩ := by kernel_rfl
def g100 (s0 : Value) (H : AH) (R : Value → AH → Prop) : Prop :=
 @bindO (xbin .eql 2 s0 (.slice none 0 0)) ⟨fun v4 =>
 @condK v4 ⟨fun q => if q = true then R (.slice none 0 0) H else
 @bindL (xfill [] [] []) ⟨fun cv5 => @letH (H ++ [.cells cv5 26 none false]) ⟨fun H1 =>
 @bindP (xact (.app 26 1 24) H1 [(.slice (some ⟨H.length, 0, none⟩) 0 0), s0]) ⟨fun v7 H2 =>
 R v7 H2⟩⟩⟩⟩⟩
theorem g100_of {s0 : Value} {H : AH} {R : Value → AH → Prop} (h : g100 s0 H R) : FN Try.prog 100 [s0] H R :=
  FN.of_XD mixed xd100_ok (by kernel_rfl) (Nat.le_of_ble_eq_true rfl) (cast (by kernel_rfl) h)
def xd101 : XD := (.seq (.reg [yS 0 3 (.box 61) [oT 0], yS 1 6 .mov [oC (.slice none 0 0)]]) (.seq (.seq (.reg [yS 0 7 .mov [oC (nv 0)]]) (.block 0 (.loop [2, 7] 2147483524 (.seq (.seq (.reg [yS 0 8 .mov [oT 7], yS 1 9 .mov [oT 1], yS 2 10 .lenS [oT 9], yS 3 11 (.bin .lss 0) [oT 8, oT 10]]) (.cond (oT 11) .skip (.exit 0))) (.seq (.block 1 (.reg [⟨none, (.ld (some 3)), [oT 3], some 14, 0, true, []⟩, yS 1 15 .mov [oT 2], ⟨none, (.ld (some 3)), [oT 3], some 16, 2, true, []⟩, yS 3 17 .mov [oT 2], yS 4 18 .mov [oT 1], yS 5 19 .mov [oT 7], yS 6 20 (.ixS 1) [oT 18, oT 19], yS 7 21 (.ld none) [oT 20], yS 12 26 .mov [oT 1], yS 13 27 .mov [oT 7], yS 14 28 (.ixS 1) [oT 26, oT 27], ⟨none, (.ld none), [oT 28], some 29, 15, true, []⟩, ⟨none, .call, [oF 65, oT 21], some 22, 8, false, [15, 2, 0]⟩, yS 9 23 (.ixS 1) [oT 17, oT 22], yS 10 24 (.ld none) [oT 23], ⟨none, .call, [oF 142, oT 16, oT 24], some 25, 11, false, [15, 0]⟩, yS 16 30 .call [oF 61, oT 14, oT 15, oT 25, oT 29], yS 17 2 .mov [oT 30]])) (.reg [yS 0 12 .mov [oT 7], yS 1 13 (.bin .add 0) [oT 12, oC (nv 1)], yS 2 7 .mov [oT 13]])))))) (.seq (.reg [yS 0 31 .mov [oT 2], yS 1 6 .mov [oT 31]]) .ret)))
theorem xd101_ok : compF Try.prog 101 = some ⟨32, [(.tmp 6)], xd101.er⟩ := by kernel_rfl
def g101 (f0 basis1 v2 : Value) (H : AH) (R : Value → AH → Prop) : Prop :=
 @letH (H ++ [.cells (cellsL f0) 61 none false]) ⟨fun H1 =>
 @loopV2 v2 (nv 0) H1 ⟨fun v2a i7 H2 K1 =>
 @bindO (xpure .lenS [basis1]) ⟨fun v10 =>
 @bindO (xbin .lss 0 i7 v10) ⟨fun v11 =>
 @condK v11 ⟨fun q => if q = true then @bindO (xload (some 3) H2 [(.pointer (some ⟨H.length, 0, none⟩))]) ⟨fun v14 =>
 @bindO (xload (some 3) H2 [(.pointer (some ⟨H.length, 0, none⟩))]) ⟨fun v16 =>
 @bindO (xpure (.ixS 1) [basis1, i7]) ⟨fun v20 =>
 @bindO (xload none H2 [v20]) ⟨fun v21 =>
 @bindO (xpure (.ixS 1) [basis1, i7]) ⟨fun v28 =>
 @bindO (xload none H2 [v28]) ⟨fun v29 =>
 @cG 65 [v21] H2 ⟨fun v22 H3 =>
 (chkX [15, 2, 0] (⟨15, none, [v28], v29⟩ :: (⟨2, (some 3), [(.pointer (some ⟨H.length, 0, none⟩))], v16⟩ :: (⟨0, (some 3), [(.pointer (some ⟨H.length, 0, none⟩))], v14⟩ :: []))) H3 ∧ @bindO (xpure (.ixS 1) [v2a, v22]) ⟨fun v23 =>
 @bindO (xload none H3 [v23]) ⟨fun v24 =>
 @cG 142 [v16, v24] H3 ⟨fun v25 H4 =>
 (chkX [15, 0] (⟨15, none, [v28], v29⟩ :: (⟨2, (some 3), [(.pointer (some ⟨H.length, 0, none⟩))], v16⟩ :: (⟨0, (some 3), [(.pointer (some ⟨H.length, 0, none⟩))], v14⟩ :: []))) H4 ∧ @cG 61 [v14, v2a, v25, v29] H4 ⟨fun v30 H5 =>
 @bindO (xbin .add 0 i7 (nv 1)) ⟨fun v13 =>
 K1 v30 v13 H5⟩⟩)⟩⟩⟩)⟩⟩⟩⟩⟩⟩⟩ else
 R v2a H2⟩⟩⟩⟩⟩
theorem g101_of {f0 basis1 v2 : Value} {H : AH} {R : Value → AH → Prop} (h : g101 f0 basis1 v2 H R) : FN Try.prog 101 [f0, basis1, v2] H R :=
  FN.of_XD mixed xd101_ok (by kernel_rfl) (Nat.le_of_ble_eq_true rfl) (cast (by kernel_rfl) h)
def xd102 : XD := (.seq (.reg [yS 0 2 .mov [oC (.slice none 0 0)]]) (.seq (.reg [yS 0 3 .mov [oC (nv 0)]]) (.seq (.seq (.reg [yS 0 9 .mov [oT 0], yS 1 10 .lenS [oT 9], yS 2 11 .mov [oC (nv 0)]]) (.block 0 (.loop [3, 11] 8386600 (.seq (.reg [yS 0 12 (.bin .lss 0) [oT 11, oT 10]]) (.seq (.cond (oT 12) .skip (.exit 0)) (.seq (.block 1 (.seq (.reg [yS 0 13 (.ixS 1) [oT 9, oT 11], yS 1 14 (.ld none) [oT 13], yS 2 5 .mov [oT 14]]) (.seq (.reg [yS 0 15 .mov [oT 3], yS 1 16 .mov [oT 5], yS 2 17 .lenS [oT 16], yS 3 18 (.bin .add 0) [oT 15, oT 17], yS 4 3 .mov [oT 18]]) (.seq (.reg [yS 0 19 .mov [oT 3], yS 1 20 (.bin .lss 0) [oT 19, oC (nv 0)]]) (.cond (oT 20) (.reg [yS 0 21 .bad [oC (.string (.mk #[108, 101, 110, 32, 111, 117, 116, 32, 111, 102, 32, 114, 97, 110, 103, 101]))], yN 1 .bad [oT 21]]) .skip))))) (.reg [yS 0 22 (.bin .add 0) [oT 11, oC (nv 1)], yS 1 11 .mov [oT 22]]))))))) (.seq (.reg [yS 0 23 .mov [oT 3], yS 1 24 .call [oF 149, oC (.slice none 0 0), oT 23], yS 2 6 .mov [oT 24]]) (.seq (.seq (.reg [yS 0 25 .mov [oT 0], yS 1 26 .lenS [oT 25], yS 2 27 .mov [oC (nv 0)]]) (.block 2 (.loop [6, 27] 34225520960 (.seq (.reg [yS 0 28 (.bin .lss 0) [oT 27, oT 26]]) (.seq (.cond (oT 28) .skip (.exit 2)) (.seq (.block 3 (.seq (.reg [yS 0 29 (.ixS 1) [oT 25, oT 27], yS 1 30 (.ld none) [oT 29], yS 2 8 .mov [oT 30]]) (.reg [yS 0 31 .mov [oT 6], yS 1 32 .mov [oT 8], yS 2 33 (.app 26 1 24) [oT 31, oT 32], yS 3 6 .mov [oT 33]]))) (.reg [yS 0 34 (.bin .add 0) [oT 27, oC (nv 1)], yS 1 27 .mov [oT 34]]))))))) (.seq (.reg [yS 0 35 .mov [oT 6], yS 1 2 .mov [oT 35]]) .ret))))))
theorem xd102_ok : compF Try.prog 102 = some ⟨36, [(.tmp 2)], xd102.er⟩ := by kernel_rfl
def g102 (slices0 : Value) (H : AH) (R : Value → AH → Prop) : Prop :=
 @bindO (xpure .lenS [slices0]) ⟨fun v10 =>
 @loopV2 (nv 0) (nv 0) H ⟨fun size3 v11 H1 K1 =>
 @bindO (xbin .lss 0 v11 v10) ⟨fun v12 =>
 @condK v12 ⟨fun q => if q = true then @bindO (xpure (.ixS 1) [slices0, v11]) ⟨fun v13 =>
 @bindO (xload none H1 [v13]) ⟨fun v14 =>
 @bindO (xpure .lenS [v14]) ⟨fun v17 =>
 @bindO (xbin .add 0 size3 v17) ⟨fun v18 =>
 @bindO (xbin .lss 0 v18 (nv 0)) ⟨fun v20 =>
 @condK v20 ⟨fun q => if q = true then @bindO (xpure .bad [(.string (.mk #[108, 101, 110, 32, 111, 117, 116, 32, 111, 102, 32, 114, 97, 110, 103, 101]))]) ⟨fun v21 =>
 @bindO (xpure .bad [v21]) ⟨fun _v =>
 @bindO (xbin .add 0 v11 (nv 1)) ⟨fun v22 =>
 K1 v18 v22 H1⟩⟩⟩ else
 @bindO (xbin .add 0 v11 (nv 1)) ⟨fun v22a =>
 K1 v18 v22a H1⟩⟩⟩⟩⟩⟩⟩ else
 @cG 149 [(.slice none 0 0), size3] H1 ⟨fun v24 H2 =>
 @bindO (xpure .lenS [slices0]) ⟨fun v26 =>
 @loopV2 v24 (nv 0) H2 ⟨fun newslice6 v27 H3 K2 =>
 @bindO (xbin .lss 0 v27 v26) ⟨fun v28 =>
 @condK v28 ⟨fun q => if q = true then @bindO (xpure (.ixS 1) [slices0, v27]) ⟨fun v29 =>
 @bindO (xload none H3 [v29]) ⟨fun v30 =>
 @bindP (xact (.app 26 1 24) H3 [newslice6, v30]) ⟨fun v33 H4 =>
 @bindO (xbin .add 0 v27 (nv 1)) ⟨fun v34 =>
 K2 v33 v34 H4⟩⟩⟩⟩ else
 R newslice6 H3⟩⟩⟩⟩⟩⟩⟩⟩⟩
theorem g102_of {slices0 : Value} {H : AH} {R : Value → AH → Prop} (h : g102 slices0 H R) : FN Try.prog 102 [slices0] H R :=
  FN.of_XD mixed xd102_ok (by kernel_rfl) (Nat.le_of_ble_eq_true rfl) (cast (by kernel_rfl) h)
def xd103 : XD := (.seq (.reg [yS 0 4 .mov [oC (.slice none 0 0)]]) (.seq (.reg [yS 0 5 .mov [oC (.slice none 0 0)]]) (.seq (.seq (.reg [yS 0 7 .mov [oT 0], yS 1 8 .lenS [oT 7], yS 2 9 .mov [oC (nv 0)]]) (.block 0 (.loop [5, 9] 67108448 (.seq (.reg [yS 0 10 (.bin .lss 0) [oT 9, oT 8]]) (.seq (.cond (oT 10) .skip (.exit 0)) (.seq (.block 1 (.seq (.reg [yS 0 11 .mov [oT 9], yS 1 6 .mov [oT 11]]) (.reg [yS 0 12 .mov [oT 5], yS 1 13 .mov [oT 0], yS 2 14 .mov [oT 6], yS 3 15 (.ixS 1) [oT 13, oT 14], yS 4 16 (.ld none) [oT 15], yS 5 17 .mov [oT 1], yS 6 18 .mov [oT 6], yS 7 19 (.ixS 1) [oT 17, oT 18], yS 8 20 (.ld none) [oT 19], yS 9 21 (.bsl [(.slice none 0 0), (.slice none 0 0)] 2 [(0, 1), (1, 1)] 26) [oT 16, oT 20], yS 10 22 .call [oF 150, oT 21], yS 11 23 (.bsl [(.slice none 0 0)] 1 [(0, 1)] 26) [oT 22], yS 12 24 (.app 26 1 24) [oT 12, oT 23], yS 13 5 .mov [oT 24]]))) (.reg [yS 0 25 (.bin .add 0) [oT 9, oC (nv 1)], yS 1 9 .mov [oT 25]]))))))) (.seq (.reg [yS 0 26 .mov [oT 5], yS 1 4 .mov [oT 26]]) .ret))))
theorem xd103_ok : compF Try.prog 103 = some ⟨27, [(.tmp 4)], xd103.er⟩ := by kernel_rfl
def g103 (a0 b1 : Value) (H : AH) (R : Value → AH → Prop) : Prop :=
 @bindO (xpure .lenS [a0]) ⟨fun v8 =>
 @loopV2 (.slice none 0 0) (nv 0) H ⟨fun out5 v9 H1 K1 =>
 @bindO (xbin .lss 0 v9 v8) ⟨fun v10 =>
 @condK v10 ⟨fun q => if q = true then @bindO (xpure (.ixS 1) [a0, v9]) ⟨fun v15 =>
 @bindO (xload none H1 [v15]) ⟨fun v16 =>
 @bindO (xpure (.ixS 1) [b1, v9]) ⟨fun v19 =>
 @bindO (xload none H1 [v19]) ⟨fun v20 =>
 @bindL (xfill [(.slice none 0 0), (.slice none 0 0)] [(0, 1), (1, 1)] [v16, v20]) ⟨fun cv21 => @letH (H1 ++ [.cells cv21 26 none false]) ⟨fun H2 =>
 @cG 150 [(.slice (some ⟨H1.length, 0, none⟩) 2 2)] H2 ⟨fun v22 H3 =>
 @bindL (xfill [(.slice none 0 0)] [(0, 1)] [v22]) ⟨fun cv23 => @letH (H3 ++ [.cells cv23 26 none false]) ⟨fun H4 =>
 @bindP (xact (.app 26 1 24) H4 [out5, (.slice (some ⟨H3.length, 0, none⟩) 1 1)]) ⟨fun v24 H5 =>
 @bindO (xbin .add 0 v9 (nv 1)) ⟨fun v25 =>
 K1 v24 v25 H5⟩⟩⟩⟩⟩⟩⟩⟩⟩⟩⟩ else
 R out5 H1⟩⟩⟩⟩
theorem g103_of {a0 b1 : Value} {H : AH} {R : Value → AH → Prop} (h : g103 a0 b1 H R) : FN Try.prog 103 [a0, b1] H R :=
  FN.of_XD mixed xd103_ok (by kernel_rfl) (Nat.le_of_ble_eq_true rfl) (cast (by kernel_rfl) h)
def xd104 : XD := (.seq (.reg [yS 0 2 (.box 61) [oT 0], yS 1 4 .mov [oC (.slice none 0 0)], yS 2 5 .mov [oC (nv 0)]]) (.seq (.reg [yS 0 12 .mov [oT 1], yS 1 13 .lenS [oT 12], yS 2 6 .mov [oT 13]]) (.seq (.reg [yS 0 14 .mov [oT 6], yS 1 15 (.make (.slice none 0 0) 1 24 26) [oT 14, oT 14], yS 2 7 .mov [oT 15]]) (.seq (.seq (.reg [yS 0 16 .mov [oT 7], yS 1 17 .lenS [oT 16], yS 2 18 .mov [oC (nv 0)]]) (.block 0 (.loop [18] 8589672704 (.seq (.reg [yS 0 19 (.bin .lss 0) [oT 18, oT 17]]) (.seq (.cond (oT 19) .skip (.exit 0)) (.seq (.block 1 (.seq (.reg [yS 0 20 .mov [oT 18], yS 1 8 .mov [oT 20]]) (.seq (.reg [yS 0 21 .mov [oT 7], yS 1 22 .mov [oT 8], yS 2 23 .mov [oT 6], yS 3 24 (.make (nv 0) 1 8 3) [oT 23, oT 23], yS 4 25 (.ixS 1) [oT 21, oT 22], yN 5 (.st 1) [oT 25, oT 24]]) (.reg [yS 0 26 .mov [oT 7], yS 1 27 .mov [oT 8], yS 2 28 (.ixS 1) [oT 26, oT 27], yS 3 29 (.ld none) [oT 28], yS 4 30 .mov [oT 8], yS 5 31 (.ixS 1) [oT 29, oT 30], yN 6 (.st 1) [oT 31, oC (nv 1)]])))) (.reg [yS 0 32 (.bin .add 0) [oT 18, oC (nv 1)], yS 1 18 .mov [oT 32]]))))))) (.seq (.reg [⟨none, (.ld (some 3)), [oT 2], some 33, 0, true, []⟩, yS 1 34 .mov [oT 1], yS 2 35 .mov [oT 7], ⟨none, .call, [oF 103, oT 34, oT 35], some 36, 3, false, [0]⟩, yS 4 37 .call [oF 91, oT 33, oT 36], yS 5 9 .mov [oT 37]]) (.seq (.seq (.reg [yS 0 38 .mov [oT 9], yS 1 39 .mov [oT 6], yS 2 40 .call [oF 92, oT 38, oT 39], yS 3 41 .lenS [oT 40], yS 4 42 .mov [oT 6], yS 5 43 (.bin .lss 0) [oT 41, oT 42]]) (.cond (oT 43) (.seq (.reg [yS 0 4 .mov [oC (.slice none 0 0)], yS 1 5 .mov [oC (nv 4)]]) .ret) .skip)) (.seq (.seq (.reg [yS 0 44 .mov [oT 9], yS 1 45 .nilc [oT 44], yS 2 46 (.fld 3) [oT 45], yS 3 47 (.ld none) [oT 46], yS 4 48 .lenS [oT 47], yS 5 49 .mov [oC (nv 0)]]) (.block 2 (.loop [49] 2305280059260275712 (.seq (.reg [yS 0 50 (.bin .lss 0) [oT 49, oT 48]]) (.seq (.cond (oT 50) .skip (.exit 2)) (.seq (.block 3 (.seq (.reg [yS 0 51 .mov [oT 49], yS 1 52 (.ixS 1) [oT 47, oT 49], yS 2 53 (.ld none) [oT 52], yS 3 10 .mov [oT 51], yS 4 11 .mov [oT 53]]) (.reg [yS 0 54 .mov [oT 7], yS 1 55 .mov [oT 10], yS 2 56 .mov [oT 11], yS 3 57 .mov [oT 6], yS 4 58 (.slS 1 true false) [oT 56, oT 57], yS 5 59 (.ixS 1) [oT 54, oT 55], yN 6 (.st 1) [oT 59, oT 58]]))) (.reg [yS 0 60 (.bin .add 0) [oT 49, oC (nv 1)], yS 1 49 .mov [oT 60]]))))))) (.seq (.reg [yS 0 61 .mov [oT 7], yS 1 4 .mov [oT 61], yS 2 5 .mov [oC (nv 0)]]) .ret))))))))
theorem xd104_ok : compF Try.prog 104 = some ⟨62, [(.tmp 4), (.tmp 5)], xd104.er⟩ := by kernel_rfl
def g104 (f0 m1 : Value) (H : AH) (R : Value → AH → Prop) : Prop :=
 @letH (H ++ [.cells (cellsL f0) 61 none false]) ⟨fun H1 =>
 @bindO (xpure .lenS [m1]) ⟨fun v13 =>
 @bindN (xnew (.make (.slice none 0 0) 1 24 26) [v13, v13]) ⟨fun cv15 ev15 mkv15 => @letH (H1 ++ [.cells cv15 ev15 none false]) ⟨fun H2 =>
 @bindO (xpure .lenS [(mkv15 H1.length)]) ⟨fun v17 =>
 @loopV1 (nv 0) H2 ⟨fun v18 H3 K1 =>
 @bindO (xbin .lss 0 v18 v17) ⟨fun v19 =>
 @condK v19 ⟨fun q => if q = true then @bindN (xnew (.make (nv 0) 1 8 3) [v13, v13]) ⟨fun cv24 ev24 mkv24 => @letH (H3 ++ [.cells cv24 ev24 none false]) ⟨fun H4 =>
 @bindO (xpure (.ixS 1) [(mkv15 H1.length), v18]) ⟨fun v25 =>
 @bindP (xact (.st 1) H4 [v25, (mkv24 H3.length)]) ⟨fun _v H5 =>
 @bindO (xpure (.ixS 1) [(mkv15 H1.length), v18]) ⟨fun v28 =>
 @bindO (xload none H5 [v28]) ⟨fun v29 =>
 @bindO (xpure (.ixS 1) [v29, v18]) ⟨fun v31 =>
 @bindP (xact (.st 1) H5 [v31, (nv 1)]) ⟨fun _v H6 =>
 @bindO (xbin .add 0 v18 (nv 1)) ⟨fun v32 =>
 K1 v32 H6⟩⟩⟩⟩⟩⟩⟩⟩⟩ else
 @bindO (xload (some 3) H3 [(.pointer (some ⟨H.length, 0, none⟩))]) ⟨fun v33 =>
 @cG 103 [m1, (mkv15 H1.length)] H3 ⟨fun v36 H7 =>
 (chkX [0] (⟨0, (some 3), [(.pointer (some ⟨H.length, 0, none⟩))], v33⟩ :: []) H7 ∧ @cG 91 [v33, v36] H7 ⟨fun v37 H8 =>
 @cG 92 [v37, v13] H8 ⟨fun v40 H9 =>
 @bindO (xpure .lenS [v40]) ⟨fun v41 =>
 @bindO (xbin .lss 0 v41 v13) ⟨fun v43 =>
 @condK v43 ⟨fun q => if q = true then R (.tuple [(.slice none 0 0), (nv 4)].toArray) H9 else
 @bindO (xpure .nilc [v37]) ⟨fun v45 =>
 @bindO (xpure (.fld 3) [v45]) ⟨fun v46 =>
 @bindO (xload none H9 [v46]) ⟨fun v47 =>
 @bindO (xpure .lenS [v47]) ⟨fun v48 =>
 @loopV1 (nv 0) H9 ⟨fun v49 H10 K2 =>
 @bindO (xbin .lss 0 v49 v48) ⟨fun v50 =>
 @condK v50 ⟨fun q => if q = true then @bindO (xpure (.ixS 1) [v47, v49]) ⟨fun v52 =>
 @bindO (xload none H10 [v52]) ⟨fun v53 =>
 @bindO (xpure (.slS 1 true false) [v53, v13]) ⟨fun v58 =>
 @bindO (xpure (.ixS 1) [(mkv15 H1.length), v49]) ⟨fun v59 =>
 @bindP (xact (.st 1) H10 [v59, v58]) ⟨fun _v H11 =>
 @bindO (xbin .add 0 v49 (nv 1)) ⟨fun v60 =>
 K2 v60 H11⟩⟩⟩⟩⟩⟩ else
 R (.tuple [(mkv15 H1.length), (nv 0)].toArray) H10⟩⟩⟩⟩⟩⟩⟩⟩⟩⟩⟩⟩)⟩⟩⟩⟩⟩⟩⟩⟩⟩⟩
theorem g104_of {f0 m1 : Value} {H : AH} {R : Value → AH → Prop} (h : g104 f0 m1 H R) : FN Try.prog 104 [f0, m1] H R :=
  FN.of_XD mixed xd104_ok (by kernel_rfl) (Nat.le_of_ble_eq_true rfl) (cast (by kernel_rfl) h)
def xd139 : XD := (.seq (.reg [yS 0 8 .mov [oT 0], yS 1 9 .nilc [oT 8], yS 2 10 (.fld 3) [oT 9], yS 3 11 (.ld none) [oT 10], yS 4 12 .mov [oT 1], yS 5 13 (.ixS 1) [oT 11, oT 12], yS 6 14 (.ld none) [oT 13], yS 7 15 .lenS [oT 14], yS 8 16 .mov [oC (nv 0)]]) (.block 0 (.loop [16] 274877841600 (.seq (.reg [yS 0 17 (.bin .lss 0) [oT 16, oT 15]]) (.seq (.cond (oT 17) .skip (.exit 0)) (.seq (.block 1 (.seq (.reg [yS 0 18 .mov [oT 16], yS 1 19 (.ixS 1) [oT 14, oT 16], yS 2 20 (.ld none) [oT 19], yS 3 6 .mov [oT 18], yS 4 7 .mov [oT 20]]) (.reg [yS 0 21 .mov [oT 0], yS 1 22 .nilc [oT 21], yS 2 23 (.fld 3) [oT 22], ⟨none, (.ld none), [oT 23], some 24, 3, true, []⟩, yS 4 25 .mov [oT 1], yS 5 26 (.ixS 1) [oT 24, oT 25], ⟨none, (.ld none), [oT 26], some 27, 6, true, []⟩, yS 7 28 .mov [oT 6], yS 8 29 .mov [oT 0], yS 9 30 .nilc [oT 29], yS 10 31 (.fld 0) [oT 30], yS 11 32 (.ld (some 3)) [oT 31], yS 12 33 .mov [oT 2], yS 13 34 .mov [oT 7], ⟨none, .call, [oF 98, oT 32, oT 33, oT 34], some 35, 14, false, [6, 3]⟩, yS 15 36 (.ixS 1) [oT 27, oT 28], yN 16 (.st 1) [oT 36, oT 35]]))) (.reg [yS 0 37 (.bin .add 0) [oT 16, oC (nv 1)], yS 1 16 .mov [oT 37]])))))))
theorem xd139_ok : compF Try.prog 139 = some ⟨38, [], xd139.er⟩ := by kernel_rfl
def g139 (m0 i1 c2 : Value) (H : AH) (R : Value → AH → Prop) : Prop :=
 @bindO (xpure .nilc [m0]) ⟨fun v9 =>
 @bindO (xpure (.fld 3) [v9]) ⟨fun v10 =>
 @bindO (xload none H [v10]) ⟨fun v11 =>
 @bindO (xpure (.ixS 1) [v11, i1]) ⟨fun v13 =>
 @bindO (xload none H [v13]) ⟨fun v14 =>
 @bindO (xpure .lenS [v14]) ⟨fun v15 =>
 @loopV1 (nv 0) H ⟨fun v16 H1 K1 =>
 @bindO (xbin .lss 0 v16 v15) ⟨fun v17 =>
 @condK v17 ⟨fun q => if q = true then @bindO (xpure (.ixS 1) [v14, v16]) ⟨fun v19 =>
 @bindO (xload none H1 [v19]) ⟨fun v20 =>
 @bindO (xpure .nilc [m0]) ⟨fun v22 =>
 @bindO (xpure (.fld 3) [v22]) ⟨fun v23 =>
 @bindO (xload none H1 [v23]) ⟨fun v24 =>
 @bindO (xpure (.ixS 1) [v24, i1]) ⟨fun v26 =>
 @bindO (xload none H1 [v26]) ⟨fun v27 =>
 @bindO (xpure .nilc [m0]) ⟨fun v30 =>
 @bindO (xpure (.fld 0) [v30]) ⟨fun v31 =>
 @bindO (xload (some 3) H1 [v31]) ⟨fun v32 =>
 @cG 98 [v32, c2, v20] H1 ⟨fun v35 H2 =>
 (chkX [6, 3] (⟨6, none, [v26], v27⟩ :: (⟨3, none, [v23], v24⟩ :: [])) H2 ∧ @bindO (xpure (.ixS 1) [v27, v16]) ⟨fun v36 =>
 @bindP (xact (.st 1) H2 [v36, v35]) ⟨fun _v H3 =>
 @bindO (xbin .add 0 v16 (nv 1)) ⟨fun v37 =>
 K1 v37 H3⟩⟩⟩)⟩⟩⟩⟩⟩⟩⟩⟩⟩⟩⟩ else
 R (.tuple [].toArray) H1⟩⟩⟩⟩⟩⟩⟩⟩⟩
theorem g139_of {m0 i1 c2 : Value} {H : AH} {R : Value → AH → Prop} (h : g139 m0 i1 c2 H R) : FN Try.prog 139 [m0, i1, c2] H R :=
  FN.of_XD mixed xd139_ok (by kernel_rfl) (Nat.le_of_ble_eq_true rfl) (cast (by kernel_rfl) h)
def xd140 : XD := (.seq (.seq (.reg [yS 0 10 .mov [oT 2], yS 1 11 (.bin .eql 0) [oT 10, oC (nv 0)]]) (.cond (oT 11) .ret .skip)) (.seq (.reg [yS 0 12 .mov [oT 0], yS 1 13 .nilc [oT 12], yS 2 14 (.fld 3) [oT 13], yS 3 15 (.ld none) [oT 14], yS 4 16 .mov [oT 3], yS 5 17 (.ixS 1) [oT 15, oT 16], yS 6 18 (.ld none) [oT 17], yS 7 19 .lenS [oT 18], yS 8 20 .mov [oC (nv 0)]]) (.block 0 (.loop [20] 576460752302375680 (.seq (.reg [yS 0 21 (.bin .lss 0) [oT 20, oT 19]]) (.seq (.cond (oT 21) .skip (.exit 0)) (.seq (.block 1 (.seq (.reg [yS 0 22 .mov [oT 20], yS 1 23 (.ixS 1) [oT 18, oT 20], yS 2 24 (.ld none) [oT 23], yS 3 8 .mov [oT 22], yS 4 9 .mov [oT 24]]) (.seq (.reg [yS 0 25 .mov [oT 9], yS 1 26 (.bin .neq 0) [oT 25, oC (nv 0)]]) (.cond (oT 26) (.reg [yS 0 27 .mov [oT 0], yS 1 28 .nilc [oT 27], yS 2 29 (.fld 3) [oT 28], ⟨none, (.ld none), [oT 29], some 30, 3, true, []⟩, yS 4 31 .mov [oT 1], yS 5 32 (.ixS 1) [oT 30, oT 31], ⟨none, (.ld none), [oT 32], some 33, 6, true, []⟩, yS 7 34 .mov [oT 8], yS 8 35 .mov [oT 0], yS 9 36 .nilc [oT 35], yS 10 37 (.fld 0) [oT 36], ⟨none, (.ld (some 3)), [oT 37], some 38, 11, true, []⟩, yS 12 39 .mov [oT 0], yS 13 40 .nilc [oT 39], yS 14 41 (.fld 3) [oT 40], ⟨none, (.ld none), [oT 41], some 42, 15, true, []⟩, yS 16 43 .mov [oT 1], yS 17 44 (.ixS 1) [oT 42, oT 43], ⟨none, (.ld none), [oT 44], some 45, 18, true, []⟩, yS 19 46 .mov [oT 8], yS 20 47 (.ixS 1) [oT 45, oT 46], ⟨none, (.ld none), [oT 47], some 48, 21, true, []⟩, yS 22 49 .mov [oT 0], yS 23 50 .nilc [oT 49], yS 24 51 (.fld 0) [oT 50], yS 25 52 (.ld (some 3)) [oT 51], yS 26 53 .mov [oT 2], yS 27 54 .mov [oT 9], ⟨none, .call, [oF 98, oT 52, oT 53, oT 54], some 55, 28, false, [21, 18, 15, 11, 6, 3]⟩, ⟨none, .call, [oF 144, oT 38, oT 48, oT 55], some 56, 29, false, [6, 3]⟩, yS 30 57 (.ixS 1) [oT 33, oT 34], yN 31 (.st 1) [oT 57, oT 56]]) .skip)))) (.reg [yS 0 58 (.bin .add 0) [oT 20, oC (nv 1)], yS 1 20 .mov [oT 58]]))))))))
theorem xd140_ok : compF Try.prog 140 = some ⟨59, [], xd140.er⟩ := by kernel_rfl
def g140 (m0 i1 c2 j3 : Value) (H : AH) (R : Value → AH → Prop) : Prop :=
 @bindO (xbin .eql 0 c2 (nv 0)) ⟨fun v11 =>
 @condK v11 ⟨fun q => if q = true then R (.tuple [].toArray) H else
 @bindO (xpure .nilc [m0]) ⟨fun v13 =>
 @bindO (xpure (.fld 3) [v13]) ⟨fun v14 =>
 @bindO (xload none H [v14]) ⟨fun v15 =>
 @bindO (xpure (.ixS 1) [v15, j3]) ⟨fun v17 =>
 @bindO (xload none H [v17]) ⟨fun v18 =>
 @bindO (xpure .lenS [v18]) ⟨fun v19 =>
 @loopV1 (nv 0) H ⟨fun v20 H1 K1 =>
 @bindO (xbin .lss 0 v20 v19) ⟨fun v21 =>
 @condK v21 ⟨fun q => if q = true then @bindO (xpure (.ixS 1) [v18, v20]) ⟨fun v23 =>
 @bindO (xload none H1 [v23]) ⟨fun v24 =>
 @bindO (xbin .neq 0 v24 (nv 0)) ⟨fun v26 =>
 @condK v26 ⟨fun q => if q = true then @bindO (xpure .nilc [m0]) ⟨fun v28 =>
 @bindO (xpure (.fld 3) [v28]) ⟨fun v29 =>
 @bindO (xload none H1 [v29]) ⟨fun v30 =>
 @bindO (xpure (.ixS 1) [v30, i1]) ⟨fun v32 =>
 @bindO (xload none H1 [v32]) ⟨fun v33 =>
 @bindO (xpure .nilc [m0]) ⟨fun v36 =>
 @bindO (xpure (.fld 0) [v36]) ⟨fun v37 =>
 @bindO (xload (some 3) H1 [v37]) ⟨fun v38 =>
 @bindO (xpure .nilc [m0]) ⟨fun v40 =>
 @bindO (xpure (.fld 3) [v40]) ⟨fun v41 =>
 @bindO (xload none H1 [v41]) ⟨fun v42 =>
 @bindO (xpure (.ixS 1) [v42, i1]) ⟨fun v44 =>
 @bindO (xload none H1 [v44]) ⟨fun v45 =>
 @bindO (xpure (.ixS 1) [v45, v20]) ⟨fun v47 =>
 @bindO (xload none H1 [v47]) ⟨fun v48 =>
 @bindO (xpure .nilc [m0]) ⟨fun v50 =>
 @bindO (xpure (.fld 0) [v50]) ⟨fun v51 =>
 @bindO (xload (some 3) H1 [v51]) ⟨fun v52 =>
 @cG 98 [v52, c2, v24] H1 ⟨fun v55 H2 =>
 (chkX [21, 18, 15, 11, 6, 3] (⟨21, none, [v47], v48⟩ :: (⟨18, none, [v44], v45⟩ :: (⟨15, none, [v41], v42⟩ :: (⟨11, (some 3), [v37], v38⟩ :: (⟨6, none, [v32], v33⟩ :: (⟨3, none, [v29], v30⟩ :: [])))))) H2 ∧ @cG 144 [v38, v48, v55] H2 ⟨fun v56 H3 =>
 (chkX [6, 3] (⟨21, none, [v47], v48⟩ :: (⟨18, none, [v44], v45⟩ :: (⟨15, none, [v41], v42⟩ :: (⟨11, (some 3), [v37], v38⟩ :: (⟨6, none, [v32], v33⟩ :: (⟨3, none, [v29], v30⟩ :: [])))))) H3 ∧ @bindO (xpure (.ixS 1) [v33, v20]) ⟨fun v57 =>
 @bindP (xact (.st 1) H3 [v57, v56]) ⟨fun _v H4 =>
 @bindO (xbin .add 0 v20 (nv 1)) ⟨fun v58 =>
 K1 v58 H4⟩⟩⟩)⟩)⟩⟩⟩⟩⟩⟩⟩⟩⟩⟩⟩⟩⟩⟩⟩⟩⟩⟩⟩ else
 @bindO (xbin .add 0 v20 (nv 1)) ⟨fun v58a =>
 K1 v58a H1⟩⟩⟩⟩⟩ else
 R (.tuple [].toArray) H1⟩⟩⟩⟩⟩⟩⟩⟩⟩⟩⟩
theorem g140_of {m0 i1 c2 j3 : Value} {H : AH} {R : Value → AH → Prop} (h : g140 m0 i1 c2 j3 H R) : FN Try.prog 140 [m0, i1, c2, j3] H R :=
  FN.of_XD mixed xd140_ok (by kernel_rfl) (Nat.le_of_ble_eq_true rfl) (cast (by kernel_rfl) h)
def xd143 : XD := (.seq (.reg [yS 0 4 .mov [oC (nv 0)]]) (.seq (.seq (.reg [yS 0 6 .mov [oT 0], yS 1 7 .lenS [oT 6], yS 2 8 .mov [oC (nv 0)]]) (.block 0 (.loop [8] 524080 (.seq (.reg [yS 0 9 (.bin .lss 0) [oT 8, oT 7]]) (.seq (.cond (oT 9) .skip (.exit 0)) (.seq (.block 1 (.seq (.reg [yS 0 10 .mov [oT 8], yS 1 5 .mov [oT 10]]) (.seq (.reg [yS 0 11 .mov [oT 1], yS 1 12 .mov [oT 0], yS 2 13 .mov [oT 5], yS 3 14 (.ixS 1) [oT 12, oT 13], yS 4 15 (.ld none) [oT 14], yS 5 16 (.bin .eql 0) [oT 11, oT 15]]) (.cond (oT 16) (.seq (.reg [yS 0 17 .mov [oT 5], yS 1 4 .mov [oT 17]]) .ret) .skip)))) (.reg [yS 0 18 (.bin .add 0) [oT 8, oC (nv 1)], yS 1 8 .mov [oT 18]]))))))) (.seq (.reg [yS 0 4 .mov [oC (.int .i64 (-1))]]) .ret)))
theorem xd143_ok : compF Try.prog 143 = some ⟨19, [(.tmp 4)], xd143.er⟩ := by kernel_rfl
def g143 (s0 v1 : Value) (H : AH) (R : Value → AH → Prop) : Prop :=
 @bindO (xpure .lenS [s0]) ⟨fun v7 =>
 @loopV1 (nv 0) H ⟨fun v8 H1 K1 =>
 @bindO (xbin .lss 0 v8 v7) ⟨fun v9 =>
 @condK v9 ⟨fun q => if q = true then @bindO (xpure (.ixS 1) [s0, v8]) ⟨fun v14 =>
 @bindO (xload none H1 [v14]) ⟨fun v15 =>
 @bindO (xbin .eql 0 v1 v15) ⟨fun v16 =>
 @condK v16 ⟨fun q => if q = true then R v8 H1 else
 @bindO (xbin .add 0 v8 (nv 1)) ⟨fun v18 =>
 K1 v18 H1⟩⟩⟩⟩⟩ else
 R (.int .i64 (-1)) H1⟩⟩⟩⟩
theorem g143_of {s0 v1 : Value} {H : AH} {R : Value → AH → Prop} (h : g143 s0 v1 H R) : FN Try.prog 143 [s0, v1] H R :=
  FN.of_XD mixed xd143_ok (by kernel_rfl) (Nat.le_of_ble_eq_true rfl) (cast (by kernel_rfl) h)
def xd149 : XD := (.seq (.reg [yS 0 4 .mov [oC (.slice none 0 0)]]) (.join [] 224 (.seq (.reg [yS 0 5 .mov [oT 1], yS 1 6 (.bin .lss 0) [oT 5, oC (nv 0)]]) (.cond (oT 6) (.reg [yS 0 7 .bad [oC (.string (.mk #[99, 97, 110, 110, 111, 116, 32, 98, 101, 32, 110, 101, 103, 97, 116, 105, 118, 101]))], yN 1 .bad [oT 7]]) .skip)) (.join [0] 67108611 (.seq (.reg [yS 0 8 .mov [oT 1], yS 1 9 .mov [oT 0], yS 2 10 .capN [oT 9], yS 3 11 .mov [oT 0], yS 4 12 .lenS [oT 11], yS 5 13 (.bin .sub 0) [oT 10, oT 12], yS 6 14 (.bin .sub 0) [oT 8, oT 13], yS 7 1 .mov [oT 14]]) (.seq (.reg [yS 0 15 .mov [oT 1], yS 1 16 (.bin .gtr 0) [oT 15, oC (nv 0)]]) (.cond (oT 16) (.reg [yS 0 17 .mov [oT 0], yS 1 18 .mov [oT 0], yS 2 19 .capN [oT 18], yS 3 20 (.slS 1 false true) [oT 17, oT 19], yS 4 21 .mov [oT 1], yS 5 22 (.apz [(.slice none 0 0)] 1 24 26) [oT 20, oT 21], yS 6 23 .mov [oT 0], yS 7 24 .lenS [oT 23], yS 8 25 (.slS 1 false true) [oT 22, oT 24], yS 9 0 .mov [oT 25]]) .skip))) (.seq (.reg [yS 0 26 .mov [oT 0], yS 1 4 .mov [oT 26]]) .ret))))
theorem xd149_ok : compF Try.prog 149 = some ⟨27, [(.tmp 4)], xd149.er⟩ := by kernel_rfl
def g149 (s0 n1 : Value) (H : AH) (R : Value → AH → Prop) : Prop :=
 @joinV0 (fun J1 => @bindO (xbin .lss 0 n1 (nv 0)) ⟨fun v6 =>
 @condK v6 ⟨fun q => if q = true then @bindO (xpure .bad [(.string (.mk #[99, 97, 110, 110, 111, 116, 32, 98, 101, 32, 110, 101, 103, 97, 116, 105, 118, 101]))]) ⟨fun v7 =>
 @bindO (xpure .bad [v7]) ⟨fun _v =>
 J1 H⟩⟩ else
 J1 H⟩⟩) ⟨fun H1 =>
 @joinV1 (fun J2 => @bindO (xpure .capN [s0]) ⟨fun v10 =>
 @bindO (xpure .lenS [s0]) ⟨fun v12 =>
 @bindO (xbin .sub 0 v10 v12) ⟨fun v13 =>
 @bindO (xbin .sub 0 n1 v13) ⟨fun v14 =>
 @bindO (xbin .gtr 0 v14 (nv 0)) ⟨fun v16 =>
 @condK v16 ⟨fun q => if q = true then @bindO (xpure .capN [s0]) ⟨fun v19 =>
 @bindO (xpure (.slS 1 false true) [s0, v19]) ⟨fun v20 =>
 @bindP (xact (.apz [(.slice none 0 0)] 1 24 26) H1 [v20, v14]) ⟨fun v22 H2 =>
 @bindO (xpure .lenS [s0]) ⟨fun v24 =>
 @bindO (xpure (.slS 1 false true) [v22, v24]) ⟨fun v25 =>
 J2 v25 H2⟩⟩⟩⟩⟩ else
 J2 s0 H1⟩⟩⟩⟩⟩⟩) ⟨fun s0a H3 =>
 R s0a H3⟩⟩
theorem g149_of {s0 n1 : Value} {H : AH} {R : Value → AH → Prop} (h : g149 s0 n1 H R) : FN Try.prog 149 [s0, n1] H R :=
  FN.of_XD mixed xd149_ok (by kernel_rfl) (Nat.le_of_ble_eq_true rfl) (cast (by kernel_rfl) h)
def xd150 : XD := (.seq (.reg [yS 0 2 .mov [oC (.slice none 0 0)]]) (.seq (.reg [yS 0 3 .mov [oC (nv 0)]]) (.seq (.seq (.reg [yS 0 9 .mov [oT 0], yS 1 10 .lenS [oT 9], yS 2 11 .mov [oC (nv 0)]]) (.block 0 (.loop [3, 11] 8386600 (.seq (.reg [yS 0 12 (.bin .lss 0) [oT 11, oT 10]]) (.seq (.cond (oT 12) .skip (.exit 0)) (.seq (.block 1 (.seq (.reg [yS 0 13 (.ixS 1) [oT 9, oT 11], yS 1 14 (.ld none) [oT 13], yS 2 5 .mov [oT 14]]) (.seq (.reg [yS 0 15 .mov [oT 3], yS 1 16 .mov [oT 5], yS 2 17 .lenS [oT 16], yS 3 18 (.bin .add 0) [oT 15, oT 17], yS 4 3 .mov [oT 18]]) (.seq (.reg [yS 0 19 .mov [oT 3], yS 1 20 (.bin .lss 0) [oT 19, oC (nv 0)]]) (.cond (oT 20) (.reg [yS 0 21 .bad [oC (.string (.mk #[108, 101, 110, 32, 111, 117, 116, 32, 111, 102, 32, 114, 97, 110, 103, 101]))], yN 1 .bad [oT 21]]) .skip))))) (.reg [yS 0 22 (.bin .add 0) [oT 11, oC (nv 1)], yS 1 11 .mov [oT 22]]))))))) (.seq (.reg [yS 0 23 .mov [oT 3], yS 1 24 .call [oF 178, oC (.slice none 0 0), oT 23], yS 2 6 .mov [oT 24]]) (.seq (.seq (.reg [yS 0 25 .mov [oT 0], yS 1 26 .lenS [oT 25], yS 2 27 .mov [oC (nv 0)]]) (.block 2 (.loop [6, 27] 34225520960 (.seq (.reg [yS 0 28 (.bin .lss 0) [oT 27, oT 26]]) (.seq (.cond (oT 28) .skip (.exit 2)) (.seq (.block 3 (.seq (.reg [yS 0 29 (.ixS 1) [oT 25, oT 27], yS 1 30 (.ld none) [oT 29], yS 2 8 .mov [oT 30]]) (.reg [yS 0 31 .mov [oT 6], yS 1 32 .mov [oT 8], yS 2 33 (.app 3 1 8) [oT 31, oT 32], yS 3 6 .mov [oT 33]]))) (.reg [yS 0 34 (.bin .add 0) [oT 27, oC (nv 1)], yS 1 27 .mov [oT 34]]))))))) (.seq (.reg [yS 0 35 .mov [oT 6], yS 1 2 .mov [oT 35]]) .ret))))))
theorem xd150_ok : compF Try.prog 150 = some ⟨36, [(.tmp 2)], xd150.er⟩ := by kernel_rfl
def g150 (slices0 : Value) (H : AH) (R : Value → AH → Prop) : Prop :=
 @bindO (xpure .lenS [slices0]) ⟨fun v10 =>
 @loopV2 (nv 0) (nv 0) H ⟨fun size3 v11 H1 K1 =>
 @bindO (xbin .lss 0 v11 v10) ⟨fun v12 =>
 @condK v12 ⟨fun q => if q = true then @bindO (xpure (.ixS 1) [slices0, v11]) ⟨fun v13 =>
 @bindO (xload none H1 [v13]) ⟨fun v14 =>
 @bindO (xpure .lenS [v14]) ⟨fun v17 =>
 @bindO (xbin .add 0 size3 v17) ⟨fun v18 =>
 @bindO (xbin .lss 0 v18 (nv 0)) ⟨fun v20 =>
 @condK v20 ⟨fun q => if q = true then @bindO (xpure .bad [(.string (.mk #[108, 101, 110, 32, 111, 117, 116, 32, 111, 102, 32, 114, 97, 110, 103, 101]))]) ⟨fun v21 =>
 @bindO (xpure .bad [v21]) ⟨fun _v =>
 @bindO (xbin .add 0 v11 (nv 1)) ⟨fun v22 =>
 K1 v18 v22 H1⟩⟩⟩ else
 @bindO (xbin .add 0 v11 (nv 1)) ⟨fun v22a =>
 K1 v18 v22a H1⟩⟩⟩⟩⟩⟩⟩ else
 @cG 178 [(.slice none 0 0), size3] H1 ⟨fun v24 H2 =>
 @bindO (xpure .lenS [slices0]) ⟨fun v26 =>
 @loopV2 v24 (nv 0) H2 ⟨fun newslice6 v27 H3 K2 =>
 @bindO (xbin .lss 0 v27 v26) ⟨fun v28 =>
 @condK v28 ⟨fun q => if q = true then @bindO (xpure (.ixS 1) [slices0, v27]) ⟨fun v29 =>
 @bindO (xload none H3 [v29]) ⟨fun v30 =>
 @bindP (xact (.app 3 1 8) H3 [newslice6, v30]) ⟨fun v33 H4 =>
 @bindO (xbin .add 0 v27 (nv 1)) ⟨fun v34 =>
 K2 v33 v34 H4⟩⟩⟩⟩ else
 R newslice6 H3⟩⟩⟩⟩⟩⟩⟩⟩⟩
theorem g150_of {slices0 : Value} {H : AH} {R : Value → AH → Prop} (h : g150 slices0 H R) : FN Try.prog 150 [slices0] H R :=
  FN.of_XD mixed xd150_ok (by kernel_rfl) (Nat.le_of_ble_eq_true rfl) (cast (by kernel_rfl) h)
end Go.Sim
