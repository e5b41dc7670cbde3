/- Part of the proof: ZMoG. -/
import Derived.Test.YtbfpepbfpebmmaaGreatMDisShSToXfS
import Derived.Test.YtbfpepbfpebmmaaGreatMDisShD
import Derived.Test.YtbfpepbfpebmmaaGreatMDisZShMixToZPfFieldI
import Derived.KernelRfl
set_option linter.all false
set_option maxRecDepth 100000
namespace Go.Sim
open Go Go.Proofs
local instance coZMoG:Coe AH Value:=⟨fun H=>.pointer (some ⟨H.length,0,none⟩)⟩
def g12 (x0:Value) (H:AH) (R:Value→AH→Prop):Prop:=
 @letH (H++[.cells (cellsL x0) 24 none false]) ⟨fun H1 =>
 @letH (H1++[.cells [nv 0,nv 0,.slice none 0 0] 29 none false]) ⟨fun H2 =>
 @bindL (xfill [nv 0,nv 0,nv 0,nv 0,nv 0,nv 0] [(0,1),(1,1),(2,1),(3,1),(4,1),(5,1)] [nv 2,nv 3,nv 4,nv 5,nv 7,nv 8]) ⟨fun cv11=>@letH (H2++[.cells cv11 3 none false]) ⟨fun H3 =>
 @bindO (xpure (.fld 0) [H]) ⟨fun v12 =>
 @bindO (xload none H3 [v12]) ⟨fun v13 =>
 @bindO (xbin .rem 0 v13 (.int .u8 6)) ⟨fun v14 =>
 @bindO (xpure (.ixS 1) [(.slice (some ⟨H2.length,0,none⟩) 6 6),v14]) ⟨fun v15 =>
 @bindO (xload none H3 [v15]) ⟨fun v16 =>
 @bindO (xpure (.fld 1) [H]) ⟨fun v17 =>
 @bindO (xload none H3 [v17]) ⟨fun v18 =>
 @bindO (xbin .rem 0 v18 (.int .u8 10)) ⟨fun v19 =>
 @bindO (xpure (.conv .i64) [v19]) ⟨fun v20 =>
 @bindO (xbin .add 0 (nv 1) v20) ⟨fun v21 =>
 @bindL (xfill [nv 0,nv 0,nv 0,nv 0,nv 0,nv 0] [(0,1),(1,1),(2,1),(3,1),(4,1),(5,1)] [nv 8,nv 5,nv 4,nv 3,nv 2,nv 2]) ⟨fun cv22=>@letH (H3++[.cells cv22 3 none false]) ⟨fun H4 =>
 @bindO (xpure (.fld 0) [H]) ⟨fun v23 =>
 @bindO (xload none H4 [v23]) ⟨fun v24 =>
 @bindO (xbin .rem 0 v24 (.int .u8 6)) ⟨fun v25 =>
 @bindO (xpure (.ixS 1) [(.slice (some ⟨H3.length,0,none⟩) 6 6),v25]) ⟨fun v26 =>
 @bindO (xload none H4 [v26]) ⟨fun v27 =>
 @bindO (xpure (.fld 2) [H]) ⟨fun v28 =>
 @bindO (xload none H4 [v28]) ⟨fun v29 =>
 @bindO (xpure (.conv .i64) [v29]) ⟨fun v30 =>
 @bindO (xbin .add 0 v27 (nv 1)) ⟨fun v32 =>
 @bindO (xbin .rem 0 v30 v32) ⟨fun v33 =>
 @bindL (xfill [] [] []) ⟨fun cv34=>@letH (H4++[.cells cv34 31 none false]) ⟨fun H5 =>
 @loopV2 (.slice (some ⟨H4.length,0,none⟩) 0 0) (nv 0) H5 ⟨fun rows7 i8 H6 K1 =>
 @bindO (xbin .lss 0 i8 v33) ⟨fun v37 =>
 @condK v37 ⟨fun q=>if q=true then @cG 60 [v21] H6 ⟨fun v41 H7 =>
 @loopV1 (nv 0) H7 ⟨fun j10 H8 K2 =>
 @bindO (xbin .lss 0 j10 v21) ⟨fun v44 =>
 @condK v44 ⟨fun q=>if q=true then @joinV0 (fun J3=>@bindO (xpure (.fld 3) [H]) ⟨fun v47 =>
 @bindO (xload none H8 [v47]) ⟨fun v48 =>
 @bindO (xpure .lenS [v48]) ⟨fun v49 =>
 @bindO (xbin .gtr 0 v49 (nv 0)) ⟨fun v50 =>
 @condK v50 ⟨fun q=>if q=true then @bindO (xpure (.fld 3) [H]) ⟨fun v53 =>
 @bindO (xload none H8 [v53]) ⟨fun v54 =>
 @bindO (xbin .mul 0 i8 v21) ⟨fun v57 =>
 @bindO (xbin .add 0 v57 j10) ⟨fun v59 =>
 @bindO (xpure (.fld 3) [H]) ⟨fun v60 =>
 @bindO (xload none H8 [v60]) ⟨fun v61 =>
 @bindO (xpure .lenS [v61]) ⟨fun v62 =>
 @bindO (xbin .rem 0 v59 v62) ⟨fun v63 =>
 @bindO (xpure (.ixS 1) [v54,v63]) ⟨fun v64 =>
 @bindO (xload none H8 [v64]) ⟨fun v65 =>
 @bindO (xpure (.conv .i64) [v65]) ⟨fun v66 =>
 @bindO (xbin .rem 0 v66 v16) ⟨fun v68 =>
 @bindO (xpure (.ixS 1) [v41,j10]) ⟨fun v69 =>
 @bindP (xact (.st 1) H8 [v69,v68]) ⟨fun _v H9 =>
 J3 H9⟩⟩⟩⟩⟩⟩⟩⟩⟩⟩⟩⟩⟩⟩ else
 J3 H8⟩⟩⟩⟩⟩) ⟨fun H10 =>
 @bindO (xbin .add 0 j10 (nv 1)) ⟨fun v46 =>
 K2 v46 H10⟩⟩ else
 @joinV0 (fun J4=>@bindO (xbin .lss 0 i8 v21) ⟨fun v72 =>
 @condK v72 ⟨fun q=>if q=true then @bindO (xpure (.ixS 1) [v41,i8]) ⟨fun v75 =>
 @bindP (xact (.st 1) H8 [v75,nv 1]) ⟨fun _v H11 =>
 J4 H11⟩⟩ else
 J4 H8⟩⟩) ⟨fun H12 =>
 @bindL (xfill [.slice none 0 0] [(0,1)] [v41]) ⟨fun cv78=>@letH (H12++[.cells cv78 31 none false]) ⟨fun H13 =>
 @bindP (xact (.app 31 1 24) H13 [rows7,(.slice (some ⟨H12.length,0,none⟩) 1 1)]) ⟨fun v79 H14 =>
 @bindO (xbin .add 0 i8 (nv 1)) ⟨fun v39 =>
 K1 v79 v39 H14⟩⟩⟩⟩⟩⟩⟩⟩⟩ else
 @cG 62 [v16] H6 ⟨fun v83 H15 =>
 @cG 61 [v83,v21,rows7] H15 ⟨fun v86 H16 =>
 @bindL (xfill [nv 0,nv 0,.slice none 0 0] [(0,1),(1,1),(2,1)] [v16,v21,v86]) ⟨fun v87 =>
 @bindP (xact (.st 3) H16 [H1,(.agg v87.toArray)]) ⟨fun _v H17 =>
 @bindO (xload (some 3) H17 [H1]) ⟨fun r0=>R r0 H17⟩⟩⟩⟩⟩⟩⟩⟩⟩⟩⟩⟩⟩⟩⟩⟩⟩⟩⟩⟩⟩⟩⟩⟩⟩⟩⟩⟩⟩⟩⟩⟩⟩⟩⟩⟩
theorem g12_of {x0:Value} {H:AH} {R:Value→AH→Prop} (h:g12 x0 H R):FN Tryz.prog 12 [x0] H R:=
  FN.of_XM (ms:=[(7,[7,8]),(14,[10]),(17,[]),(19,[])]) mixed (cast (by kernel_rfl) h)
def g16 (c0:Value) (H:AH) (R:Value→AH→Prop):Prop:=
 @letH (H++[.cells (cellsL c0) 29 none false]) ⟨fun H1 =>
 @letH (H1++[.cells [nv 0,nv 0,.slice none 0 0,nv 0] 37 none false]) ⟨fun H2 =>
 @bindO (xload (some 3) H2 [H]) ⟨fun v6 =>
 @cG 65 [v6] H2 ⟨fun v7 H3 =>
 @bindO (xpure (.ext 0) [v7]) ⟨fun v8 =>
 @bindO (xpure (.ext 1) [v7]) ⟨fun v9 =>
 @letH (H3++[.cells [nv 0,nv 0,.slice none 0 0] 29 none false]) ⟨fun H4 =>
 @bindP (xact (.st 3) H4 [H3,v8]) ⟨fun _v H5 =>
 @bindO (xload (some 3) H5 [H3]) ⟨fun v10 =>
 @bindL (xfill [nv 0,nv 0,.slice none 0 0,nv 0] [(0,3),(3,1)] [v10,v9]) ⟨fun v12 =>
 @bindP (xact (.st 4) H5 [H1,(.agg v12.toArray)]) ⟨fun _v H6 =>
 @bindO (xload (some 4) H6 [H1]) ⟨fun r0=>R r0 H6⟩⟩⟩⟩⟩⟩⟩⟩⟩⟩⟩⟩
theorem g16_of {c0:Value} {H:AH} {R:Value→AH→Prop} (h:g16 c0 H R):FN Tryz.prog 16 [c0] H R:=
  FN.of_XM (ms:=[]) mixed (cast (by kernel_rfl) h)
def g18 (c0 i1:Value) (H:AH) (R:Value→AH→Prop):Prop:=
 @letH (H++[.cells (cellsL c0) 29 none false]) ⟨fun H1 =>
 @letH (H1++[.cells [nv 0,nv 0,.slice none 0 0,nv 0] 37 none false]) ⟨fun H2 =>
 @bindO (xload (some 3) H2 [H]) ⟨fun v8 =>
 @cG 68 [v8,i1] H2 ⟨fun v10 H3 =>
 @bindO (xpure (.ext 0) [v10]) ⟨fun v11 =>
 @bindO (xpure (.ext 1) [v10]) ⟨fun v12 =>
 @letH (H3++[.cells [nv 0,nv 0,.slice none 0 0] 29 none false]) ⟨fun H4 =>
 @bindP (xact (.st 3) H4 [H3,v11]) ⟨fun _v H5 =>
 @bindO (xload (some 3) H5 [H3]) ⟨fun v13 =>
 @bindL (xfill [nv 0,nv 0,.slice none 0 0,nv 0] [(0,3),(3,1)] [v13,v12]) ⟨fun v15 =>
 @bindP (xact (.st 4) H5 [H1,(.agg v15.toArray)]) ⟨fun _v H6 =>
 @bindO (xload (some 4) H6 [H1]) ⟨fun r0=>R r0 H6⟩⟩⟩⟩⟩⟩⟩⟩⟩⟩⟩⟩
theorem g18_of {c0 i1:Value} {H:AH} {R:Value→AH→Prop} (h:g18 c0 i1 H R):FN Tryz.prog 18 [c0,i1] H R:=
  FN.of_XM (ms:=[]) mixed (cast (by kernel_rfl) h)
def g20 (c0 i1:Value) (H:AH) (R:Value→AH→Prop):Prop:=
 @letH (H++[.cells (cellsL c0) 29 none false]) ⟨fun H1 =>
 @letH (H1++[.cells [nv 0,nv 0,.slice none 0 0,nv 0] 37 none false]) ⟨fun H2 =>
 @bindO (xload (some 3) H2 [H]) ⟨fun v8 =>
 @cG 70 [v8,i1] H2 ⟨fun v10 H3 =>
 @bindO (xpure (.ext 0) [v10]) ⟨fun v11 =>
 @bindO (xpure (.ext 1) [v10]) ⟨fun v12 =>
 @letH (H3++[.cells [nv 0,nv 0,.slice none 0 0] 29 none false]) ⟨fun H4 =>
 @bindP (xact (.st 3) H4 [H3,v11]) ⟨fun _v H5 =>
 @bindO (xload (some 3) H5 [H3]) ⟨fun v13 =>
 @bindL (xfill [nv 0,nv 0,.slice none 0 0,nv 0] [(0,3),(3,1)] [v13,v12]) ⟨fun v15 =>
 @bindP (xact (.st 4) H5 [H1,(.agg v15.toArray)]) ⟨fun _v H6 =>
 @bindO (xload (some 4) H6 [H1]) ⟨fun r0=>R r0 H6⟩⟩⟩⟩⟩⟩⟩⟩⟩⟩⟩⟩
theorem g20_of {c0 i1:Value} {H:AH} {R:Value→AH→Prop} (h:g20 c0 i1 H R):FN Tryz.prog 20 [c0,i1] H R:=
  FN.of_XM (ms:=[]) mixed (cast (by kernel_rfl) h)
def g22 (a0 b1:Value) (H:AH) (R:Value→AH→Prop):Prop:=
 @letH (H++[.cells (cellsL a0) 29 none false]) ⟨fun H1 =>
 @letH (H1++[.cells (cellsL b1) 29 none false]) ⟨fun H2 =>
 @letH (H2++[.cells [nv 0,nv 0,.slice none 0 0,nv 0] 37 none false]) ⟨fun H3 =>
 @bindO (xload (some 3) H3 [H]) ⟨fun v8 =>
 @bindO (xload (some 3) H3 [H1]) ⟨fun v9 =>
 @cG 71 [v8,v9] H3 ⟨fun v10 H4 =>
 @bindO (xpure (.ext 0) [v10]) ⟨fun v11 =>
 @bindO (xpure (.ext 1) [v10]) ⟨fun v12 =>
 @letH (H4++[.cells [nv 0,nv 0,.slice none 0 0] 29 none false]) ⟨fun H5 =>
 @bindP (xact (.st 3) H5 [H4,v11]) ⟨fun _v H6 =>
 @bindO (xload (some 3) H6 [H4]) ⟨fun v13 =>
 @bindL (xfill [nv 0,nv 0,.slice none 0 0,nv 0] [(0,3),(3,1)] [v13,v12]) ⟨fun v15 =>
 @bindP (xact (.st 4) H6 [H2,(.agg v15.toArray)]) ⟨fun _v H7 =>
 @bindO (xload (some 4) H7 [H2]) ⟨fun r0=>R r0 H7⟩⟩⟩⟩⟩⟩⟩⟩⟩⟩⟩⟩⟩⟩
theorem g22_of {a0 b1:Value} {H:AH} {R:Value→AH→Prop} (h:g22 a0 b1 H R):FN Tryz.prog 22 [a0,b1] H R:=
  FN.of_XM (ms:=[]) mixed (cast (by kernel_rfl) h)
def g24 (a0 b1:Value) (H:AH) (R:Value→AH→Prop):Prop:=
 @letH (H++[.cells (cellsL a0) 29 none false]) ⟨fun H1 =>
 @letH (H1++[.cells (cellsL b1) 29 none false]) ⟨fun H2 =>
 @letH (H2++[.cells [nv 0,nv 0,.slice none 0 0,nv 0] 37 none false]) ⟨fun H3 =>
 @bindO (xload (some 3) H3 [H]) ⟨fun v8 =>
 @bindO (xload (some 3) H3 [H1]) ⟨fun v9 =>
 @cG 72 [v8,v9] H3 ⟨fun v10 H4 =>
 @bindO (xpure (.ext 0) [v10]) ⟨fun v11 =>
 @bindO (xpure (.ext 1) [v10]) ⟨fun v12 =>
 @letH (H4++[.cells [nv 0,nv 0,.slice none 0 0] 29 none false]) ⟨fun H5 =>
 @bindP (xact (.st 3) H5 [H4,v11]) ⟨fun _v H6 =>
 @bindO (xload (some 3) H6 [H4]) ⟨fun v13 =>
 @bindL (xfill [nv 0,nv 0,.slice none 0 0,nv 0] [(0,3),(3,1)] [v13,v12]) ⟨fun v15 =>
 @bindP (xact (.st 4) H6 [H2,(.agg v15.toArray)]) ⟨fun _v H7 =>
 @bindO (xload (some 4) H7 [H2]) ⟨fun r0=>R r0 H7⟩⟩⟩⟩⟩⟩⟩⟩⟩⟩⟩⟩⟩⟩
theorem g24_of {a0 b1:Value} {H:AH} {R:Value→AH→Prop} (h:g24 a0 b1 H R):FN Tryz.prog 24 [a0,b1] H R:=
  FN.of_XM (ms:=[]) mixed (cast (by kernel_rfl) h)
def g26 (outer0 inner1:Value) (H:AH) (R:Value→AH→Prop):Prop:=
 @letH (H++[.cells (cellsL outer0) 29 none false]) ⟨fun H1 =>
 @letH (H1++[.cells (cellsL inner1) 29 none false]) ⟨fun H2 =>
 @letH (H2++[.cells [nv 0,nv 0,.slice none 0 0,nv 0] 37 none false]) ⟨fun H3 =>
 @bindO (xload (some 3) H3 [H]) ⟨fun v8 =>
 @bindO (xload (some 3) H3 [H1]) ⟨fun v9 =>
 @cG 73 [v8,v9] H3 ⟨fun v10 H4 =>
 @bindO (xpure (.ext 0) [v10]) ⟨fun v11 =>
 @bindO (xpure (.ext 1) [v10]) ⟨fun v12 =>
 @letH (H4++[.cells [nv 0,nv 0,.slice none 0 0] 29 none false]) ⟨fun H5 =>
 @bindP (xact (.st 3) H5 [H4,v11]) ⟨fun _v H6 =>
 @bindO (xload (some 3) H6 [H4]) ⟨fun v13 =>
 @bindL (xfill [nv 0,nv 0,.slice none 0 0,nv 0] [(0,3),(3,1)] [v13,v12]) ⟨fun v15 =>
 @bindP (xact (.st 4) H6 [H2,(.agg v15.toArray)]) ⟨fun _v H7 =>
 @bindO (xload (some 4) H7 [H2]) ⟨fun r0=>R r0 H7⟩⟩⟩⟩⟩⟩⟩⟩⟩⟩⟩⟩⟩⟩
theorem g26_of {outer0 inner1:Value} {H:AH} {R:Value→AH→Prop} (h:g26 outer0 inner1 H R):FN Tryz.prog 26 [outer0,inner1] H R:=
  FN.of_XM (ms:=[]) mixed (cast (by kernel_rfl) h)
def g28 (c0:Value) (H:AH) (R:Value→AH→Prop):Prop:=
 @letH (H++[.cells (cellsL c0) 29 none false]) ⟨fun H1 =>
 @letH (H1++[.cells [nv 0,nv 0,.slice none 0 0,nv 0] 37 none false]) ⟨fun H2 =>
 @bindO (xload (some 3) H2 [H]) ⟨fun v6 =>
 @cG 75 [v6] H2 ⟨fun v7 H3 =>
 @bindO (xpure (.ext 0) [v7]) ⟨fun v8 =>
 @bindO (xpure (.ext 1) [v7]) ⟨fun v9 =>
 @letH (H3++[.cells [nv 0,nv 0,.slice none 0 0] 29 none false]) ⟨fun H4 =>
 @bindP (xact (.st 3) H4 [H3,v8]) ⟨fun _v H5 =>
 @bindO (xload (some 3) H5 [H3]) ⟨fun v10 =>
 @bindL (xfill [nv 0,nv 0,.slice none 0 0,nv 0] [(0,3),(3,1)] [v10,v9]) ⟨fun v12 =>
 @bindP (xact (.st 4) H5 [H1,(.agg v12.toArray)]) ⟨fun _v H6 =>
 @bindO (xload (some 4) H6 [H1]) ⟨fun r0=>R r0 H6⟩⟩⟩⟩⟩⟩⟩⟩⟩⟩⟩⟩
theorem g28_of {c0:Value} {H:AH} {R:Value→AH→Prop} (h:g28 c0 H R):FN Tryz.prog 28 [c0] H R:=
  FN.of_XM (ms:=[]) mixed (cast (by kernel_rfl) h)
def g32 (x0:Value) (H:AH) (R:Value→AH→Prop):Prop:=
 @letH (H++[.cells (cellsL x0) 24 none false]) ⟨fun H1 =>
 @letH (H1++[.cells [nv 0,nv 0,.slice none 0 0] 29 none false]) ⟨fun H2 =>
 @bindO (xpure (.fld 0) [H]) ⟨fun v3 =>
 @bindP (xact (.st 1) H2 [v3,(.int .u8 2)]) ⟨fun _v H3 =>
 @bindO (xpure (.fld 1) [H]) ⟨fun v4 =>
 @bindO (xload none H3 [v4]) ⟨fun v5 =>
 @bindO (xbin .rem 0 v5 (.int .u8 4)) ⟨fun v6 =>
 @bindO (xpure (.fld 1) [H]) ⟨fun v7 =>
 @bindP (xact (.st 1) H3 [v7,v6]) ⟨fun _v H4 =>
 @bindO (xload (some 4) H4 [H]) ⟨fun v8 =>
 @cG 12 [v8] H4 ⟨fun v9 H5 =>
 @bindP (xact (.st 3) H5 [H1,v9]) ⟨fun _v H6 =>
 @bindO (xload (some 3) H6 [H1]) ⟨fun r0=>R r0 H6⟩⟩⟩⟩⟩⟩⟩⟩⟩⟩⟩⟩⟩
theorem g32_of {x0:Value} {H:AH} {R:Value→AH→Prop} (h:g32 x0 H R):FN Tryz.prog 32 [x0] H R:=
  FN.of_XM (ms:=[]) mixed (cast (by kernel_rfl) h)
def g33 (x0:Value) (H:AH) (R:Value→AH→Prop):Prop:=
 @letH (H++[.cells (cellsL x0) 24 none false]) ⟨fun H1 =>
 @letH (H1++[.cells [nv 0,nv 0,.slice none 0 0] 29 none false]) ⟨fun H2 =>
 @bindO (xpure (.fld 1) [H]) ⟨fun v7 =>
 @bindO (xload none H2 [v7]) ⟨fun v8 =>
 @bindO (xpure (.conv .i64) [v8]) ⟨fun v9 =>
 @bindO (xbin .rem 0 v9 (nv 4)) ⟨fun v10 =>
 @bindO (xbin .add 0 (nv 2) v10) ⟨fun v11 =>
 @bindO (xpure (.fld 3) [H]) ⟨fun v13 =>
 @bindO (xload none H2 [v13]) ⟨fun v14 =>
 @cG 79 [nv 2,v11,v14] H2 ⟨fun v15 H3 =>
 @cG 60 [v11] H3 ⟨fun v17 H4 =>
 @bindO (xpure (.ixS 1) [v15,nv 0]) ⟨fun v19 =>
 @bindP (xact (.st 1) H4 [v19,nv 1]) ⟨fun _v H5 =>
 @bindO (xpure (.fld 2) [H]) ⟨fun v21 =>
 @bindO (xload none H5 [v21]) ⟨fun v22 =>
 @bindO (xpure (.conv .i64) [v22]) ⟨fun v23 =>
 @bindO (xbin .sub 0 v11 (nv 1)) ⟨fun v25 =>
 @bindO (xbin .rem 0 v23 v25) ⟨fun v26 =>
 @bindO (xbin .add 0 (nv 1) v26) ⟨fun v27 =>
 @bindO (xpure (.ixS 1) [v17,v27]) ⟨fun v28 =>
 @bindP (xact (.st 1) H5 [v28,nv 1]) ⟨fun _v H6 =>
 @joinV0 (fun J1=>@bindO (xpure (.fld 3) [H]) ⟨fun v29 =>
 @bindO (xload none H6 [v29]) ⟨fun v30 =>
 @bindO (xpure .lenS [v30]) ⟨fun v31 =>
 @bindO (xbin .gtr 0 v31 (nv 0)) ⟨fun v32 =>
 @condK v32 ⟨fun q=>if q=true then @bindO (xbin .sub 0 v11 (nv 1)) ⟨fun v35 =>
 @bindO (xpure (.fld 3) [H]) ⟨fun v36 =>
 @bindO (xload none H6 [v36]) ⟨fun v37 =>
 @bindO (xpure (.ixS 1) [v37,nv 0]) ⟨fun v38 =>
 @bindO (xload none H6 [v38]) ⟨fun v39 =>
 @bindO (xpure (.conv .i64) [v39]) ⟨fun v40 =>
 @bindO (xbin .quo 0 v40 (nv 2)) ⟨fun v41 =>
 @bindO (xbin .rem 0 v41 (nv 2)) ⟨fun v42 =>
 @bindO (xpure (.ixS 1) [v17,v35]) ⟨fun v43 =>
 @bindP (xact (.st 1) H6 [v43,v42]) ⟨fun _v H7 =>
 J1 H7⟩⟩⟩⟩⟩⟩⟩⟩⟩⟩ else
 J1 H6⟩⟩⟩⟩⟩) ⟨fun H8 =>
 @bindL (xfill [.slice none 0 0,.slice none 0 0] [(0,1),(1,1)] [v15,v17]) ⟨fun cv47=>@letH (H8++[.cells cv47 31 none false]) ⟨fun H9 =>
 @cG 67 [nv 2,v11,(.slice (some ⟨H8.length,0,none⟩) 2 2)] H9 ⟨fun v48 H10 =>
 @bindO (xpure (.prt (some 3) 0) [v48]) ⟨fun v49 =>
 @letH (H10++[.cells [nv 0,nv 0,.slice none 0 0] 29 none false]) ⟨fun H11 =>
 @bindP (xact (.st 3) H11 [H10,v49]) ⟨fun _v H12 =>
 @joinV0 (fun J2=>@bindO (xpure (.fld 2) [H10]) ⟨fun v50 =>
 @bindO (xload none H12 [v50]) ⟨fun v51 =>
 @bindO (xpure .lenS [v51]) ⟨fun v52 =>
 @bindO (xbin .lss 0 v52 (nv 2)) ⟨fun v53 =>
 @condK v53 ⟨fun q=>if q=true then @cG 60 [v11] H12 ⟨fun v55 H13 =>
 @bindO (xpure (.ixS 1) [v55,nv 1]) ⟨fun v57 =>
 @bindP (xact (.st 1) H13 [v57,nv 1]) ⟨fun _v H14 =>
 @bindL (xfill [.slice none 0 0,.slice none 0 0] [(0,1),(1,1)] [v15,v55]) ⟨fun cv61=>@letH (H14++[.cells cv61 31 none false]) ⟨fun H15 =>
 @cG 67 [nv 2,v11,(.slice (some ⟨H14.length,0,none⟩) 2 2)] H15 ⟨fun v62 H16 =>
 @bindO (xpure (.prt (some 3) 0) [v62]) ⟨fun v63 =>
 @bindP (xact (.st 3) H16 [H10,v63]) ⟨fun _v H17 =>
 J2 H17⟩⟩⟩⟩⟩⟩⟩⟩ else
 J2 H12⟩⟩⟩⟩⟩) ⟨fun H18 =>
 @bindO (xload (some 3) H18 [H10]) ⟨fun v64 =>
 @bindP (xact (.st 3) H18 [H1,v64]) ⟨fun _v H19 =>
 @bindO (xload (some 3) H19 [H1]) ⟨fun r0=>R r0 H19⟩⟩⟩⟩⟩⟩⟩⟩⟩⟩⟩⟩⟩⟩⟩⟩⟩⟩⟩⟩⟩⟩⟩⟩⟩⟩⟩⟩⟩⟩⟩⟩
theorem g33_of {x0:Value} {H:AH} {R:Value→AH→Prop} (h:g33 x0 H R):FN Tryz.prog 33 [x0] H R:=
  FN.of_XM (ms:=[(6,[]),(9,[])]) mixed (cast (by kernel_rfl) h)
def g35 (c0:Value) (H:AH) (R:Value→AH→Prop):Prop:=
 @letH (H++[.cells (cellsL c0) 29 none false]) ⟨fun H1 =>
 @bindO (xload (some 3) H1 [H]) ⟨fun v6 =>
 @cG 82 [v6] H1 ⟨fun v7 H2 =>
 @bindO (xpure (.ext 0) [v7]) ⟨fun v8 =>
 @bindO (xpure (.ext 1) [v7]) ⟨fun v9 =>
 R v8 H2⟩⟩⟩⟩⟩
theorem g35_of {c0:Value} {H:AH} {R:Value→AH→Prop} (h:g35 c0 H R):FN Tryz.prog 35 [c0] H R:=
  FN.of_XM (ms:=[]) mixed (cast (by kernel_rfl) h)
def g40 (l0:Value) (H:AH) (R:Value→AH→Prop):Prop:=
 @loopV2 (nv 0) (nv 0) H ⟨fun n3 i4 H1 K1 =>
 @bindO (xpure .lenS [l0]) ⟨fun v7 =>
 @bindO (xbin .lss 0 i4 v7) ⟨fun v8 =>
 @condK v8 ⟨fun q=>if q=true then @joinV1 (fun J2=>@bindO (xpure (.ixS 1) [l0,i4]) ⟨fun v13 =>
 @bindO (xload none H1 [v13]) ⟨fun v14 =>
 @bindO (xbin .neq 0 v14 (nv 0)) ⟨fun v15 =>
 @condK v15 ⟨fun q=>if q=true then @bindO (xbin .add 0 n3 (nv 1)) ⟨fun v17 =>
 J2 v17 H1⟩ else
 J2 n3 H1⟩⟩⟩⟩) ⟨fun n3a H2 =>
 @bindO (xbin .add 0 i4 (nv 1)) ⟨fun v10 =>
 K1 n3a v10 H2⟩⟩ else
 R n3 H1⟩⟩⟩⟩
theorem g40_of {l0:Value} {H:AH} {R:Value→AH→Prop} (h:g40 l0 H R):FN Tryz.prog 40 [l0] H R:=
  FN.of_XM (ms:=[(4,[3,4]),(7,[3])]) mixed (cast (by kernel_rfl) h)
def g42 (c0:Value) (H:AH) (R:Value→AH→Prop):Prop:=
 @letH (H++[.cells (cellsL c0) 29 none false]) ⟨fun H1 =>
 @loopV2 (nv 1) (nv 0) H1 ⟨fun n3 i4 H2 K1 =>
 @bindO (xpure (.fld 2) [H]) ⟨fun v6 =>
 @bindO (xload none H2 [v6]) ⟨fun v7 =>
 @bindO (xpure .lenS [v7]) ⟨fun v8 =>
 @bindO (xbin .lss 0 i4 v8) ⟨fun v9 =>
 @condK v9 ⟨fun q=>if q=true then @bindO (xpure (.fld 0) [H]) ⟨fun v13 =>
 @bindO (xload none H2 [v13]) ⟨fun v14 =>
 @bindO (xbin .mul 0 n3 v14) ⟨fun v15 =>
 @bindO (xpure .min2 [v15,nv 4097]) ⟨fun v16 =>
 @bindO (xbin .add 0 i4 (nv 1)) ⟨fun v11 =>
 K1 v16 v11 H2⟩⟩⟩⟩⟩ else
 R n3 H2⟩⟩⟩⟩⟩⟩⟩
theorem g42_of {c0:Value} {H:AH} {R:Value→AH→Prop} (h:g42 c0 H R):FN Tryz.prog 42 [c0] H R:=
  FN.of_XM (ms:=[(4,[3,4])]) mixed (cast (by kernel_rfl) h)
def g60 (n0:Value) (H:AH) (R:Value→AH→Prop):Prop:=
 @bindN (xnew (.make (nv 0) 1 8 3) [n0,n0]) ⟨fun cv4 ev4 mkv4=>@letH (H++[.cells cv4 ev4 none false]) ⟨fun H1 =>
 R (mkv4 H.length) H1⟩⟩
theorem g60_of {n0:Value} {H:AH} {R:Value→AH→Prop} (h:g60 n0 H R):FN Tryz.prog 60 [n0] H R:=
  FN.of_XM (ms:=[]) mixed (cast (by kernel_rfl) h)
def g61 (f0 n1 rows2:Value) (H:AH) (R:Value→AH→Prop):Prop:=
 @letH (H++[.cells (cellsL f0) 76 none false]) ⟨fun H1 =>
 @bindL (xfill [] [] []) ⟨fun cv16=>@letH (H1++[.cells cv16 31 none false]) ⟨fun H2 =>
 @loopV2 (.slice (some ⟨H1.length,0,none⟩) 0 0) (nv 0) H2 ⟨fun m7 i8 H3 K1 =>
 @bindO (xpure .lenS [rows2]) ⟨fun v19 =>
 @bindO (xbin .lss 0 i8 v19) ⟨fun v20 =>
 @condK v20 ⟨fun q=>if q=true then @bindL (xfill [] [] []) ⟨fun cv24=>@letH (H3++[.cells cv24 3 none false]) ⟨fun H4 =>
 @bindO (xpure (.ixS 1) [rows2,i8]) ⟨fun v27 =>
 @bindO (xload none H4 [v27]) ⟨fun v28 =>
 @bindP (xact (.app 3 1 8) H4 [(.slice (some ⟨H3.length,0,none⟩) 0 0),v28]) ⟨fun v29 H5 =>
 @bindL (xfill [.slice none 0 0] [(0,1)] [v29]) ⟨fun cv30=>@letH (H5++[.cells cv30 31 none false]) ⟨fun H6 =>
 @bindP (xact (.app 31 1 24) H6 [m7,(.slice (some ⟨H5.length,0,none⟩) 1 1)]) ⟨fun v31 H7 =>
 @bindO (xbin .add 0 i8 (nv 1)) ⟨fun v22 =>
 K1 v31 v22 H7⟩⟩⟩⟩⟩⟩⟩⟩⟩ else
 @loopV2 (nv 0) (nv 0) H3 ⟨fun r9 c10 H8 K2 =>
 @bindO (xbin .lss 0 c10 n1) ⟨fun v34 =>
 @guardJ (asB v34) (fun J3=>J3 r9 H8) H8 ⟨fun v36 H9 =>
 @guardJ (asB v34) (fun J4=>J4 m7 H9) H9 ⟨fun v37 H10 =>
 @guardJ (asB v34) (fun J5=>@bindO (xpure .lenS [v37]) ⟨fun v38 =>
 J5 v38 H10⟩) H10 ⟨fun v38a H11 =>
 @guardJ (asB v34) (fun J6=>@bindO (xbin .lss 0 v36 v38a) ⟨fun v39 =>
 J6 v39 H11⟩) H11 ⟨fun v39a H12 =>
 @pickK v34 v39a (.bool false) ⟨fun v40 =>
 @condK v40 ⟨fun q=>if q=true then @joinV1 (fun J7=>@loopV1 r9 H12 ⟨fun p11 H13 K8 =>
 @bindO (xpure .lenS [m7]) ⟨fun v46 =>
 @bindO (xbin .lss 0 p11 v46) ⟨fun v47 =>
 @guardJ (asB v47) (fun J9=>J9 m7 H13) H13 ⟨fun v49 H14 =>
 @guardJ (asB v47) (fun J10=>J10 p11 H14) H14 ⟨fun v50 H15 =>
 @guardJ (asB v47) (fun J11=>@bindO (xpure (.ixS 1) [v49,v50]) ⟨fun v51 =>
 J11 v51 H15⟩) H15 ⟨fun v51a H16 =>
 @guardJ (asB v47) (fun J12=>@bindO (xload none H16 [v51a]) ⟨fun v52 =>
 J12 v52 H16⟩) H16 ⟨fun v52a H17 =>
 @guardJ (asB v47) (fun J13=>J13 c10 H17) H17 ⟨fun v53 H18 =>
 @guardJ (asB v47) (fun J14=>@bindO (xpure (.ixS 1) [v52a,v53]) ⟨fun v54 =>
 J14 v54 H18⟩) H18 ⟨fun v54a H19 =>
 @guardJ (asB v47) (fun J15=>@bindO (xload none H19 [v54a]) ⟨fun v55 =>
 J15 v55 H19⟩) H19 ⟨fun v55a H20 =>
 @guardJ (asB v47) (fun J16=>@bindO (xbin .eql 0 v55a (nv 0)) ⟨fun v56 =>
 J16 v56 H20⟩) H20 ⟨fun v56a H21 =>
 @pickK v47 v56a (.bool false) ⟨fun v57 =>
 @condK v57 ⟨fun q=>if q=true then @bindO (xbin .add 0 p11 (nv 1)) ⟨fun v59 =>
 K8 v59 H21⟩ else
 @bindO (xpure .lenS [m7]) ⟨fun v62 =>
 @bindO (xbin .eql 0 p11 v62) ⟨fun v63 =>
 @condK v63 ⟨fun q=>if q=true then J7 r9 H21 else
 @bindO (xpure (.ixS 1) [m7,p11]) ⟨fun v66 =>
 @bindO (xload none H21 [v66]) ⟨fun v67 =>
 @bindO (xpure (.ixS 1) [m7,r9]) ⟨fun v72 =>
 @bindO (xload none H21 [v72]) ⟨fun v73 =>
 @bindO (xpure (.ixS 1) [m7,p11]) ⟨fun v74 =>
 @bindP (xact (.st 1) H21 [v74,v73]) ⟨fun _v H22 =>
 @bindO (xload (some 3) H22 [H]) ⟨fun v76 =>
 @bindO (xpure (.ixS 1) [v67,c10]) ⟨fun v79 =>
 @bindO (xload none H22 [v79]) ⟨fun v80 =>
 @cG 107 [v76,v80] H22 ⟨fun v81 H23 =>
 @bindO (xpure (.ext 0) [v81]) ⟨fun v82 =>
 @bindO (xpure (.ext 1) [v81]) ⟨fun v83 =>
 @bindO (xload (some 3) H23 [H]) ⟨fun v86 =>
 @cG 74 [v86,v82,v67] H23 ⟨fun v89 H24 =>
 @bindO (xpure (.ixS 1) [m7,r9]) ⟨fun v90 =>
 @bindP (xact (.st 1) H24 [v90,v89]) ⟨fun _v H25 =>
 @loopV1 (nv 0) H25 ⟨fun k15 H26 K17 =>
 @bindO (xpure .lenS [m7]) ⟨fun v93 =>
 @bindO (xbin .lss 0 k15 v93) ⟨fun v94 =>
 @condK v94 ⟨fun q=>if q=true then @joinV0 (fun J18=>@bindO (xbin .neq 0 k15 r9) ⟨fun v99 =>
 @condK v99 ⟨fun q=>if q=true then @bindO (xload (some 3) H26 [H]) ⟨fun v102 =>
 @bindO (xpure (.ixS 1) [m7,k15]) ⟨fun v105 =>
 @bindO (xload none H26 [v105]) ⟨fun v106 =>
 @bindO (xload (some 3) H26 [H]) ⟨fun v107 =>
 @bindO (xload (some 3) H26 [H]) ⟨fun v108 =>
 @bindO (xpure (.ixS 1) [m7,k15]) ⟨fun v111 =>
 @bindO (xload none H26 [v111]) ⟨fun v112 =>
 @bindO (xpure (.ixS 1) [v112,c10]) ⟨fun v114 =>
 @bindO (xload none H26 [v114]) ⟨fun v115 =>
 @bindO (xpure (.ixS 1) [m7,r9]) ⟨fun v119 =>
 @bindO (xload none H26 [v119]) ⟨fun v120 =>
 @cG 81 [v108,v115] H26 ⟨fun v116 H27 =>
 (chkX [20,7,6,2] (⟨20,none,[v119],v120⟩ :: (⟨7,(some 3),[H],v107⟩ :: (⟨6,none,[v105],v106⟩ :: (⟨2,(some 3),[H],v102⟩ :: [])))) H27∧@cG 74 [v107,v116,v120] H27 ⟨fun v121 H28 =>
 (chkX [6,2] (⟨20,none,[v119],v120⟩ :: (⟨7,(some 3),[H],v107⟩ :: (⟨6,none,[v105],v106⟩ :: (⟨2,(some 3),[H],v102⟩ :: [])))) H28∧@cG 108 [v102,v106,v121] H28 ⟨fun v122 H29 =>
 @bindO (xpure (.ixS 1) [m7,k15]) ⟨fun v123 =>
 @bindP (xact (.st 1) H29 [v123,v122]) ⟨fun _v H30 =>
 J18 H30⟩⟩⟩)⟩)⟩⟩⟩⟩⟩⟩⟩⟩⟩⟩⟩⟩ else
 J18 H26⟩⟩) ⟨fun H31 =>
 @bindO (xbin .add 0 k15 (nv 1)) ⟨fun v96 =>
 K17 v96 H31⟩⟩ else
 @bindO (xbin .add 0 r9 (nv 1)) ⟨fun v125 =>
 J7 v125 H26⟩⟩⟩⟩⟩⟩⟩⟩⟩⟩⟩⟩⟩⟩⟩⟩⟩⟩⟩⟩⟩⟩⟩⟩⟩⟩⟩⟩⟩⟩⟩⟩⟩⟩⟩⟩⟩) ⟨fun r9a H32 =>
 @bindO (xbin .add 0 c10 (nv 1)) ⟨fun v42 =>
 K2 r9a v42 H32⟩⟩ else
 @bindO (xpure (.slS 1 false true) [m7,r9]) ⟨fun v128 =>
 R v128 H12⟩⟩⟩⟩⟩⟩⟩⟩⟩⟩⟩⟩⟩⟩⟩⟩
theorem g61_of {f0 n1 rows2:Value} {H:AH} {R:Value→AH→Prop} (h:g61 f0 n1 rows2 H R):FN Tryz.prog 61 [f0,n1,rows2] H R:=
  FN.of_XM (ms:=[(4,[7,8]),(11,[9,10]),(14,[9]),(17,[11]),(28,[15]),(31,[])]) mixed (cast (by kernel_rfl) h)
def g62 (q0:Value) (H:AH) (R:Value→AH→Prop):Prop:=
 @letH (H++[.cells [nv 0,nv 0,.slice none 0 0] 76 none false]) ⟨fun H1 =>
 @cG 109 [q0] H1 ⟨fun v7 H2 =>
 @bindO (xpure (.ext 0) [v7]) ⟨fun v8 =>
 @bindO (xpure (.ext 1) [v7]) ⟨fun v9 =>
 @letH (H2++[.cells [nv 0,nv 0,.slice none 0 0] 76 none false]) ⟨fun H3 =>
 @bindP (xact (.st 3) H3 [H2,v8]) ⟨fun _v H4 =>
 @bindO (xload (some 3) H4 [H2]) ⟨fun v10 =>
 @bindP (xact (.st 3) H4 [H,v10]) ⟨fun _v H5 =>
 @bindO (xload (some 3) H5 [H]) ⟨fun r0=>R r0 H5⟩⟩⟩⟩⟩⟩⟩⟩⟩
theorem g62_of {q0:Value} {H:AH} {R:Value→AH→Prop} (h:g62 q0 H R):FN Tryz.prog 62 [q0] H R:=
  FN.of_XM (ms:=[]) mixed (cast (by kernel_rfl) h)
def g65 (c0:Value) (H:AH) (R:Value→AH→Prop):Prop:=
 @letH (H++[.cells (cellsL c0) 29 none false]) ⟨fun H1 =>
 @letH (H1++[.cells [nv 0,nv 0,.slice none 0 0] 29 none false]) ⟨fun H2 =>
 @bindO (xpure (.fld 1) [H]) ⟨fun v6 =>
 @bindO (xload none H2 [v6]) ⟨fun v7 =>
 @bindO (xbin .geq 0 v7 (nv 24)) ⟨fun v8 =>
 @condK v8 ⟨fun q=>if q=true then @cG 110 [nv 2] H2 ⟨fun v9 H3 =>
 @bindO (xpure (.ext 0) [v9]) ⟨fun v10 =>
 @bindO (xpure (.ext 1) [v9]) ⟨fun v11 =>
 @bindP (xact (.st 3) H3 [H1,v10]) ⟨fun _v H4 =>
 @bindO (xload (some 3) H4 [H1]) ⟨fun r0=>R (.tuple [r0,v11].toArray) H4⟩⟩⟩⟩⟩ else
 @bindO (xpure (.fld 0) [H]) ⟨fun v13 =>
 @bindO (xload none H2 [v13]) ⟨fun v14 =>
 @cG 111 [v14] H2 ⟨fun v15 H5 =>
 @bindO (xpure (.ext 0) [v15]) ⟨fun v16 =>
 @bindO (xpure (.ext 1) [v15]) ⟨fun v17 =>
 @letH (H5++[.cells [nv 0,nv 0,.slice none 0 0] 76 none false]) ⟨fun H6 =>
 @bindP (xact (.st 3) H6 [H5,v16]) ⟨fun _v H7 =>
 @bindO (xpure (.fld 0) [H]) ⟨fun v18 =>
 @bindO (xload none H7 [v18]) ⟨fun v19 =>
 @bindO (xpure (.fld 1) [H]) ⟨fun v20 =>
 @bindO (xload none H7 [v20]) ⟨fun v21 =>
 @bindO (xbin .add 0 v21 (nv 1)) ⟨fun v22 =>
 @bindO (xpure (.fld 2) [H]) ⟨fun v23 =>
 @bindO (xload none H7 [v23]) ⟨fun v24 =>
 @bindO (xpure (.fn 114 0 1) [H5]) ⟨fun v25 =>
 @cG 113 [v24,v25] H7 ⟨fun v26 H8 =>
 (chkX [3,1] (⟨3,none,[v20],v21⟩ :: (⟨1,none,[v18],v19⟩ :: [])) H8∧@cG 112 [v19,v22,v26] H8 ⟨fun v27 H9 =>
 @bindO (xpure (.ext 0) [v27]) ⟨fun v28 =>
 @bindO (xpure (.ext 1) [v27]) ⟨fun v29 =>
 @bindP (xact (.st 3) H9 [H1,v28]) ⟨fun _v H10 =>
 @bindO (xload (some 3) H10 [H1]) ⟨fun r0=>R (.tuple [r0,v29].toArray) H10⟩⟩⟩⟩⟩)⟩⟩⟩⟩⟩⟩⟩⟩⟩⟩⟩⟩⟩⟩⟩⟩⟩⟩⟩⟩⟩⟩
theorem g65_of {c0:Value} {H:AH} {R:Value→AH→Prop} (h:g65 c0 H R):FN Tryz.prog 65 [c0] H R:=
  FN.of_XM (ms:=[]) mixed (cast (by kernel_rfl) h)
def g67 (q0 n1 rows2:Value) (H:AH) (R:Value→AH→Prop):Prop:=
 @letH (H++[.cells [nv 0,nv 0,.slice none 0 0,nv 0] 37 none false]) ⟨fun H1 =>
 @cG 62 [q0] H1 ⟨fun v10 H2 =>
 @cG 61 [v10,n1,rows2] H2 ⟨fun v13 H3 =>
 @bindL (xfill [nv 0,nv 0,.slice none 0 0] [(0,1),(1,1),(2,1)] [q0,n1,v13]) ⟨fun v14 =>
 @bindL (xfill [nv 0,nv 0,.slice none 0 0,nv 0] [(0,3)] [(.agg v14.toArray)]) ⟨fun v15 =>
 @bindP (xact (.st 4) H3 [H,(.agg v15.toArray)]) ⟨fun _v H4 =>
 @bindO (xload (some 4) H4 [H]) ⟨fun r0=>R r0 H4⟩⟩⟩⟩⟩⟩⟩
theorem g67_of {q0 n1 rows2:Value} {H:AH} {R:Value→AH→Prop} (h:g67 q0 n1 rows2 H R):FN Tryz.prog 67 [q0,n1,rows2] H R:=
  FN.of_XM (ms:=[]) mixed (cast (by kernel_rfl) h)
def g68 (c0 i1:Value) (H:AH) (R:Value→AH→Prop):Prop:=
 @letH (H++[.cells (cellsL c0) 29 none false]) ⟨fun H1 =>
 @letH (H1++[.cells [nv 0,nv 0,.slice none 0 0] 29 none false]) ⟨fun H2 =>
 @bindO (xload (some 3) H2 [H]) ⟨fun v6 =>
 @cG 117 [v6,i1] H2 ⟨fun v8 H3 =>
 @bindO (eun .not v8) ⟨fun v9 =>
 @condK v9 ⟨fun q=>if q=true then @cG 110 [nv 1] H3 ⟨fun v10 H4 =>
 @bindO (xpure (.ext 0) [v10]) ⟨fun v11 =>
 @bindO (xpure (.ext 1) [v10]) ⟨fun v12 =>
 @bindP (xact (.st 3) H4 [H1,v11]) ⟨fun _v H5 =>
 @bindO (xload (some 3) H5 [H1]) ⟨fun r0=>R (.tuple [r0,v12].toArray) H5⟩⟩⟩⟩⟩ else
 @bindO (xpure (.fld 0) [H]) ⟨fun v13 =>
 @bindO (xload none H3 [v13]) ⟨fun v14 =>
 @bindO (xpure (.fld 1) [H]) ⟨fun v15 =>
 @bindO (xload none H3 [v15]) ⟨fun v16 =>
 @bindO (xbin .sub 0 v16 (nv 1)) ⟨fun v17 =>
 @bindO (xpure (.fld 2) [H]) ⟨fun v18 =>
 @bindO (xload none H3 [v18]) ⟨fun v19 =>
 @cG 118 [i1] H3 ⟨fun v21 H6 =>
 (chkX [6,3,1] (⟨6,none,[v18],v19⟩ :: (⟨3,none,[v15],v16⟩ :: (⟨1,none,[v13],v14⟩ :: []))) H6∧@cG 113 [v19,v21] H6 ⟨fun v22 H7 =>
 (chkX [3,1] (⟨6,none,[v18],v19⟩ :: (⟨3,none,[v15],v16⟩ :: (⟨1,none,[v13],v14⟩ :: []))) H7∧@cG 112 [v14,v17,v22] H7 ⟨fun v23 H8 =>
 @bindO (xpure (.ext 0) [v23]) ⟨fun v24 =>
 @bindO (xpure (.ext 1) [v23]) ⟨fun v25 =>
 @bindP (xact (.st 3) H8 [H1,v24]) ⟨fun _v H9 =>
 @bindO (xload (some 3) H9 [H1]) ⟨fun r0=>R (.tuple [r0,v25].toArray) H9⟩⟩⟩⟩⟩)⟩)⟩⟩⟩⟩⟩⟩⟩⟩⟩⟩⟩⟩⟩⟩
theorem g68_of {c0 i1:Value} {H:AH} {R:Value→AH→Prop} (h:g68 c0 i1 H R):FN Tryz.prog 68 [c0,i1] H R:=
  FN.of_XM (ms:=[]) mixed (cast (by kernel_rfl) h)
def g70 (c0 i1:Value) (H:AH) (R:Value→AH→Prop):Prop:=
 @letH (H++[.cells (cellsL c0) 29 none false]) ⟨fun H1 =>
 @letH (H1++[.cells (cellsL i1) 3 none false]) ⟨fun H2 =>
 @letH (H2++[.cells [nv 0,nv 0,.slice none 0 0] 29 none false]) ⟨fun H3 =>
 @bindO (xload (some 3) H3 [H]) ⟨fun v7 =>
 @bindO (xload none H3 [H1]) ⟨fun v8 =>
 @cG 117 [v7,v8] H3 ⟨fun v9 H4 =>
 @bindO (eun .not v9) ⟨fun v10 =>
 @condK v10 ⟨fun q=>if q=true then @cG 110 [nv 1] H4 ⟨fun v11 H5 =>
 @bindO (xpure (.ext 0) [v11]) ⟨fun v12 =>
 @bindO (xpure (.ext 1) [v11]) ⟨fun v13 =>
 @bindP (xact (.st 3) H5 [H2,v12]) ⟨fun _v H6 =>
 @bindO (xload (some 3) H6 [H2]) ⟨fun r0=>R (.tuple [r0,v13].toArray) H6⟩⟩⟩⟩⟩ else
 @bindO (xpure (.fld 0) [H]) ⟨fun v14 =>
 @bindO (xload none H4 [v14]) ⟨fun v15 =>
 @bindO (xpure (.fld 2) [H]) ⟨fun v16 =>
 @bindO (xload none H4 [v16]) ⟨fun v17 =>
 @bindO (xpure (.fn 120 0 1) [H1]) ⟨fun v18 =>
 @cG 119 [v15,v17,v18] H4 ⟨fun v19 H7 =>
 @bindO (xpure (.fld 0) [H]) ⟨fun v20 =>
 @bindO (xload none H7 [v20]) ⟨fun v21 =>
 @bindO (xpure (.fld 1) [H]) ⟨fun v22 =>
 @bindO (xload none H7 [v22]) ⟨fun v23 =>
 @bindO (xbin .sub 0 v23 (nv 1)) ⟨fun v24 =>
 @bindO (xload none H7 [H1]) ⟨fun v26 =>
 @cG 118 [v26] H7 ⟨fun v27 H8 =>
 (chkX [3,1] (⟨3,none,[v22],v23⟩ :: (⟨1,none,[v20],v21⟩ :: [])) H8∧@cG 113 [v19,v27] H8 ⟨fun v28 H9 =>
 (chkX [3,1] (⟨3,none,[v22],v23⟩ :: (⟨1,none,[v20],v21⟩ :: [])) H9∧@cG 112 [v21,v24,v28] H9 ⟨fun v29 H10 =>
 @bindO (xpure (.ext 0) [v29]) ⟨fun v30 =>
 @bindO (xpure (.ext 1) [v29]) ⟨fun v31 =>
 @bindP (xact (.st 3) H10 [H2,v30]) ⟨fun _v H11 =>
 @bindO (xload (some 3) H11 [H2]) ⟨fun r0=>R (.tuple [r0,v31].toArray) H11⟩⟩⟩⟩⟩)⟩)⟩⟩⟩⟩⟩⟩⟩⟩⟩⟩⟩⟩⟩⟩⟩⟩⟩⟩⟩⟩⟩
theorem g70_of {c0 i1:Value} {H:AH} {R:Value→AH→Prop} (h:g70 c0 i1 H R):FN Tryz.prog 70 [c0,i1] H R:=
  FN.of_XM (ms:=[]) mixed (cast (by kernel_rfl) h)
def g71 (a0 b1:Value) (H:AH) (R:Value→AH→Prop):Prop:=
 @letH (H++[.cells (cellsL a0) 29 none false]) ⟨fun H1 =>
 @letH (H1++[.cells (cellsL b1) 29 none false]) ⟨fun H2 =>
 @letH (H2++[.cells [nv 0,nv 0,.slice none 0 0] 29 none false]) ⟨fun H3 =>
 @bindO (xpure (.fld 0) [H]) ⟨fun v9 =>
 @bindO (xload none H3 [v9]) ⟨fun v10 =>
 @bindO (xpure (.fld 0) [H1]) ⟨fun v11 =>
 @bindO (xload none H3 [v11]) ⟨fun v12 =>
 @bindO (xbin .neq 0 v10 v12) ⟨fun v13 =>
 @condK v13 ⟨fun q=>if q=true then @cG 110 [nv 1] H3 ⟨fun v14 H4 =>
 @bindO (xpure (.ext 0) [v14]) ⟨fun v15 =>
 @bindO (xpure (.ext 1) [v14]) ⟨fun v16 =>
 @bindP (xact (.st 3) H4 [H2,v15]) ⟨fun _v H5 =>
 @bindO (xload (some 3) H5 [H2]) ⟨fun r0=>R (.tuple [r0,v16].toArray) H5⟩⟩⟩⟩⟩ else
 @bindO (xpure (.fld 1) [H]) ⟨fun v18 =>
 @bindO (xload none H3 [v18]) ⟨fun v19 =>
 @bindO (xpure (.fld 1) [H1]) ⟨fun v20 =>
 @bindO (xload none H3 [v20]) ⟨fun v21 =>
 @bindO (xbin .add 0 v19 v21) ⟨fun v22 =>
 @bindO (xbin .gtr 0 v22 (nv 24)) ⟨fun v23 =>
 @condK v23 ⟨fun q=>if q=true then @cG 110 [nv 2] H3 ⟨fun v24 H6 =>
 @bindO (xpure (.ext 0) [v24]) ⟨fun v25 =>
 @bindO (xpure (.ext 1) [v24]) ⟨fun v26 =>
 @bindP (xact (.st 3) H6 [H2,v25]) ⟨fun _v H7 =>
 @bindO (xload (some 3) H7 [H2]) ⟨fun r0=>R (.tuple [r0,v26].toArray) H7⟩⟩⟩⟩⟩ else
 @bindO (xpure (.fld 2) [H]) ⟨fun v27 =>
 @bindO (xload none H3 [v27]) ⟨fun v28 =>
 @bindO (xpure (.fn 121 0 1) [H1]) ⟨fun v29 =>
 @cG 113 [v28,v29] H3 ⟨fun v30 H8 =>
 @bindO (xpure (.fld 2) [H1]) ⟨fun v31 =>
 @bindO (xload none H8 [v31]) ⟨fun v32 =>
 @bindO (xpure (.fn 123 0 1) [H]) ⟨fun v33 =>
 @cG 113 [v32,v33] H8 ⟨fun v34 H9 =>
 @bindO (xpure (.fld 0) [H]) ⟨fun v35 =>
 @bindO (xload none H9 [v35]) ⟨fun v36 =>
 @bindO (xpure (.fld 1) [H]) ⟨fun v37 =>
 @bindO (xload none H9 [v37]) ⟨fun v38 =>
 @bindO (xpure (.fld 1) [H1]) ⟨fun v39 =>
 @bindO (xload none H9 [v39]) ⟨fun v40 =>
 @bindO (xbin .add 0 v38 v40) ⟨fun v41 =>
 @bindL (xfill [.slice none 0 0,.slice none 0 0] [(0,1),(1,1)] [v30,v34]) ⟨fun cv44=>@letH (H9++[.cells cv44 27 none false]) ⟨fun H10 =>
 @cG 124 [(.slice (some ⟨H9.length,0,none⟩) 2 2)] H10 ⟨fun v45 H11 =>
 (chkX [5,3,1] (⟨5,none,[v39],v40⟩ :: (⟨3,none,[v37],v38⟩ :: (⟨1,none,[v35],v36⟩ :: []))) H11∧@cG 112 [v36,v41,v45] H11 ⟨fun v46 H12 =>
 @bindO (xpure (.ext 0) [v46]) ⟨fun v47 =>
 @bindO (xpure (.ext 1) [v46]) ⟨fun v48 =>
 @bindP (xact (.st 3) H12 [H2,v47]) ⟨fun _v H13 =>
 @bindO (xload (some 3) H13 [H2]) ⟨fun r0=>R (.tuple [r0,v48].toArray) H13⟩⟩⟩⟩⟩)⟩⟩⟩⟩⟩⟩⟩⟩⟩⟩⟩⟩⟩⟩⟩⟩⟩⟩⟩⟩⟩⟩⟩⟩⟩⟩⟩⟩⟩⟩⟩⟩⟩⟩
theorem g71_of {a0 b1:Value} {H:AH} {R:Value→AH→Prop} (h:g71 a0 b1 H R):FN Tryz.prog 71 [a0,b1] H R:=
  FN.of_XM (ms:=[]) mixed (cast (by kernel_rfl) h)
def g72 (a0 b1:Value) (H:AH) (R:Value→AH→Prop):Prop:=
 @letH (H++[.cells (cellsL a0) 29 none false]) ⟨fun H1 =>
 @letH (H1++[.cells (cellsL b1) 29 none false]) ⟨fun H2 =>
 @letH (H2++[.cells [nv 0,nv 0,.slice none 0 0] 29 none false]) ⟨fun H3 =>
 @bindO (xpure (.fld 0) [H]) ⟨fun v9 =>
 @bindO (xload none H3 [v9]) ⟨fun v10 =>
 @bindO (xpure (.fld 0) [H1]) ⟨fun v11 =>
 @bindO (xload none H3 [v11]) ⟨fun v12 =>
 @bindO (xbin .neq 0 v10 v12) ⟨fun v13 =>
 @guardJ (asNB v13) (fun J1=>@bindO (xpure (.fld 1) [H]) ⟨fun v15 =>
 J1 v15 H3⟩) H3 ⟨fun v15a H4 =>
 @guardJ (asNB v13) (fun J2=>@bindO (xload none H4 [v15a]) ⟨fun v16 =>
 J2 v16 H4⟩) H4 ⟨fun v16a H5 =>
 @guardJ (asNB v13) (fun J3=>@bindO (xpure (.fld 1) [H1]) ⟨fun v17 =>
 J3 v17 H5⟩) H5 ⟨fun v17a H6 =>
 @guardJ (asNB v13) (fun J4=>@bindO (xload none H6 [v17a]) ⟨fun v18 =>
 J4 v18 H6⟩) H6 ⟨fun v18a H7 =>
 @guardJ (asNB v13) (fun J5=>@bindO (xbin .neq 0 v16a v18a) ⟨fun v19 =>
 J5 v19 H7⟩) H7 ⟨fun v19a H8 =>
 @pickK v13 (.bool true) v19a ⟨fun v20 =>
 @condK v20 ⟨fun q=>if q=true then @cG 110 [nv 1] H8 ⟨fun v21 H9 =>
 @bindO (xpure (.ext 0) [v21]) ⟨fun v22 =>
 @bindO (xpure (.ext 1) [v21]) ⟨fun v23 =>
 @bindP (xact (.st 3) H9 [H2,v22]) ⟨fun _v H10 =>
 @bindO (xload (some 3) H10 [H2]) ⟨fun r0=>R (.tuple [r0,v23].toArray) H10⟩⟩⟩⟩⟩ else
 @bindO (xpure (.fld 1) [H]) ⟨fun v25 =>
 @bindO (xload none H8 [v25]) ⟨fun v26 =>
 @bindO (xbin .mul 0 (nv 2) v26) ⟨fun v27 =>
 @bindO (xbin .gtr 0 v27 (nv 24)) ⟨fun v28 =>
 @condK v28 ⟨fun q=>if q=true then @cG 110 [nv 2] H8 ⟨fun v29 H11 =>
 @bindO (xpure (.ext 0) [v29]) ⟨fun v30 =>
 @bindO (xpure (.ext 1) [v29]) ⟨fun v31 =>
 @bindP (xact (.st 3) H11 [H2,v30]) ⟨fun _v H12 =>
 @bindO (xload (some 3) H12 [H2]) ⟨fun r0=>R (.tuple [r0,v31].toArray) H12⟩⟩⟩⟩⟩ else
 @bindO (xpure (.fld 2) [H]) ⟨fun v32 =>
 @bindO (xload none H8 [v32]) ⟨fun v33 =>
 @cG 113 [v33,(.func (.func 125) #[] #[])] H8 ⟨fun v34 H13 =>
 @bindO (xpure (.fld 2) [H1]) ⟨fun v35 =>
 @bindO (xload none H13 [v35]) ⟨fun v36 =>
 @bindO (xpure (.fn 126 0 1) [H]) ⟨fun v37 =>
 @cG 113 [v36,v37] H13 ⟨fun v38 H14 =>
 @bindO (xpure (.fld 0) [H]) ⟨fun v39 =>
 @bindO (xload none H14 [v39]) ⟨fun v40 =>
 @bindO (xpure (.fld 1) [H]) ⟨fun v41 =>
 @bindO (xload none H14 [v41]) ⟨fun v42 =>
 @bindO (xbin .mul 0 (nv 2) v42) ⟨fun v43 =>
 @bindL (xfill [.slice none 0 0,.slice none 0 0] [(0,1),(1,1)] [v34,v38]) ⟨fun cv46=>@letH (H14++[.cells cv46 27 none false]) ⟨fun H15 =>
 @cG 124 [(.slice (some ⟨H14.length,0,none⟩) 2 2)] H15 ⟨fun v47 H16 =>
 (chkX [3,1] (⟨3,none,[v41],v42⟩ :: (⟨1,none,[v39],v40⟩ :: [])) H16∧@cG 112 [v40,v43,v47] H16 ⟨fun v48 H17 =>
 @bindO (xpure (.ext 0) [v48]) ⟨fun v49 =>
 @bindO (xpure (.ext 1) [v48]) ⟨fun v50 =>
 @bindP (xact (.st 3) H17 [H2,v49]) ⟨fun _v H18 =>
 @bindO (xload (some 3) H18 [H2]) ⟨fun r0=>R (.tuple [r0,v50].toArray) H18⟩⟩⟩⟩⟩)⟩⟩⟩⟩⟩⟩⟩⟩⟩⟩⟩⟩⟩⟩⟩⟩⟩⟩⟩⟩⟩⟩⟩⟩⟩⟩⟩⟩⟩⟩⟩⟩⟩⟩⟩
theorem g72_of {a0 b1:Value} {H:AH} {R:Value→AH→Prop} (h:g72 a0 b1 H R):FN Tryz.prog 72 [a0,b1] H R:=
  FN.of_XM (ms:=[]) mixed (cast (by kernel_rfl) h)
def g73 (outer0 inner1:Value) (H:AH) (R:Value→AH→Prop):Prop:=
 @letH (H++[.cells (cellsL outer0) 29 none false]) ⟨fun H1 =>
 @letH (H1++[.cells (cellsL inner1) 29 none false]) ⟨fun H2 =>
 @letH (H2++[.cells [nv 0,nv 0,.slice none 0 0] 29 none false]) ⟨fun H3 =>
 @bindO (xpure (.fld 0) [H]) ⟨fun v11 =>
 @bindO (xload none H3 [v11]) ⟨fun v12 =>
 @bindO (xbin .neq 0 v12 (nv 4)) ⟨fun v13 =>
 @guardJ (asNB v13) (fun J1=>@bindO (xpure (.fld 0) [H1]) ⟨fun v15 =>
 J1 v15 H3⟩) H3 ⟨fun v15a H4 =>
 @guardJ (asNB v13) (fun J2=>@bindO (xload none H4 [v15a]) ⟨fun v16 =>
 J2 v16 H4⟩) H4 ⟨fun v16a H5 =>
 @guardJ (asNB v13) (fun J3=>@bindO (xbin .neq 0 v16a (nv 2)) ⟨fun v17 =>
 J3 v17 H5⟩) H5 ⟨fun v17a H6 =>
 @pickK v13 (.bool true) v17a ⟨fun v18 =>
 @guardJ (asNB v18) (fun J4=>@bindO (xpure (.fld 2) [H1]) ⟨fun v20 =>
 J4 v20 H6⟩) H6 ⟨fun v20a H7 =>
 @guardJ (asNB v18) (fun J5=>@bindO (xload none H7 [v20a]) ⟨fun v21 =>
 J5 v21 H7⟩) H7 ⟨fun v21a H8 =>
 @guardJ (asNB v18) (fun J6=>@bindO (xpure .lenS [v21a]) ⟨fun v22 =>
 J6 v22 H8⟩) H8 ⟨fun v22a H9 =>
 @guardJ (asNB v18) (fun J7=>@bindO (xbin .neq 0 v22a (nv 2)) ⟨fun v23 =>
 J7 v23 H9⟩) H9 ⟨fun v23a H10 =>
 @pickK v18 (.bool true) v23a ⟨fun v24 =>
 @condK v24 ⟨fun q=>if q=true then @cG 110 [nv 1] H10 ⟨fun v25 H11 =>
 @bindO (xpure (.ext 0) [v25]) ⟨fun v26 =>
 @bindO (xpure (.ext 1) [v25]) ⟨fun v27 =>
 @bindP (xact (.st 3) H11 [H2,v26]) ⟨fun _v H12 =>
 @bindO (xload (some 3) H12 [H2]) ⟨fun r0=>R (.tuple [r0,v27].toArray) H12⟩⟩⟩⟩⟩ else
 @bindO (xpure (.fld 1) [H]) ⟨fun v29 =>
 @bindO (xload none H10 [v29]) ⟨fun v30 =>
 @bindO (xpure (.fld 1) [H1]) ⟨fun v31 =>
 @bindO (xload none H10 [v31]) ⟨fun v32 =>
 @bindO (xbin .mul 0 v30 v32) ⟨fun v33 =>
 @bindO (xbin .gtr 0 v33 (nv 24)) ⟨fun v34 =>
 @condK v34 ⟨fun q=>if q=true then @cG 110 [nv 2] H10 ⟨fun v35 H13 =>
 @bindO (xpure (.ext 0) [v35]) ⟨fun v36 =>
 @bindO (xpure (.ext 1) [v35]) ⟨fun v37 =>
 @bindP (xact (.st 3) H13 [H2,v36]) ⟨fun _v H14 =>
 @bindO (xload (some 3) H14 [H2]) ⟨fun r0=>R (.tuple [r0,v37].toArray) H14⟩⟩⟩⟩⟩ else
 @bindO (xpure (.fn 127 0 1) [H1]) ⟨fun v38 =>
 @cG 111 [nv 4] H10 ⟨fun v40 H15 =>
 @bindO (xpure (.ext 0) [v40]) ⟨fun v41 =>
 @bindO (xpure (.ext 1) [v40]) ⟨fun v42 =>
 @letH (H15++[.cells [nv 0,nv 0,.slice none 0 0] 76 none false]) ⟨fun H16 =>
 @bindP (xact (.st 3) H16 [H15,v41]) ⟨fun _v H17 =>
 @bindO (xpure (.fld 2) [H]) ⟨fun v43 =>
 @bindO (xload none H17 [v43]) ⟨fun v44 =>
 @bindO (xpure (.fn 128 0 1) [H15]) ⟨fun v45 =>
 @cG 113 [v44,v45] H17 ⟨fun v46 H18 =>
 @bindO (xpure (.fld 1) [H]) ⟨fun v47 =>
 @bindO (xload none H18 [v47]) ⟨fun v48 =>
 @bindO (xpure (.fld 1) [H1]) ⟨fun v49 =>
 @bindO (xload none H18 [v49]) ⟨fun v50 =>
 @bindO (xbin .mul 0 v48 v50) ⟨fun v51 =>
 @bindO (xpure (.fld 2) [H]) ⟨fun v52 =>
 @bindO (xload none H18 [v52]) ⟨fun v53 =>
 @bindL (xfill [.slice none 0 0,.slice none 0 0] [(0,1),(1,1)] [v53,v46]) ⟨fun cv55=>@letH (H18++[.cells cv55 27 none false]) ⟨fun H19 =>
 @cG 124 [(.slice (some ⟨H18.length,0,none⟩) 2 2)] H19 ⟨fun v56 H20 =>
 (chkX [3,1] (⟨3,none,[v49],v50⟩ :: (⟨1,none,[v47],v48⟩ :: [])) H20∧@cG 113 [v56,v38] H20 ⟨fun v58 H21 =>
 (chkX [3,1] (⟨3,none,[v49],v50⟩ :: (⟨1,none,[v47],v48⟩ :: [])) H21∧@cG 112 [nv 2,v51,v58] H21 ⟨fun v59 H22 =>
 @bindO (xpure (.ext 0) [v59]) ⟨fun v60 =>
 @bindO (xpure (.ext 1) [v59]) ⟨fun v61 =>
 @bindP (xact (.st 3) H22 [H2,v60]) ⟨fun _v H23 =>
 @bindO (xload (some 3) H23 [H2]) ⟨fun r0=>R (.tuple [r0,v61].toArray) H23⟩⟩⟩⟩⟩)⟩)⟩⟩⟩⟩⟩⟩⟩⟩⟩⟩⟩⟩⟩⟩⟩⟩⟩⟩⟩⟩⟩⟩⟩⟩⟩⟩⟩⟩⟩⟩⟩⟩⟩⟩⟩⟩⟩⟩⟩⟩⟩⟩⟩
theorem g73_of {outer0 inner1:Value} {H:AH} {R:Value→AH→Prop} (h:g73 outer0 inner1 H R):FN Tryz.prog 73 [outer0,inner1] H R:=
  FN.of_XM (ms:=[]) mixed (cast (by kernel_rfl) h)
def g74 (f0 a1 l2:Value) (H:AH) (R:Value→AH→Prop):Prop:=
 @letH (H++[.cells (cellsL f0) 76 none false]) ⟨fun H1 =>
 @bindL (xfill [] [] []) ⟨fun cv9=>@letH (H1++[.cells cv9 3 none false]) ⟨fun H2 =>
 @loopV2 (.slice (some ⟨H1.length,0,none⟩) 0 0) (nv 0) H2 ⟨fun out7 i8 H3 K1 =>
 @bindO (xpure .lenS [l2]) ⟨fun v12 =>
 @bindO (xbin .lss 0 i8 v12) ⟨fun v13 =>
 @condK v13 ⟨fun q=>if q=true then @bindO (xload (some 3) H3 [H]) ⟨fun v17 =>
 @bindO (xpure (.ixS 1) [l2,i8]) ⟨fun v21 =>
 @bindO (xload none H3 [v21]) ⟨fun v22 =>
 @cG 132 [v17,a1,v22] H3 ⟨fun v23 H4 =>
 @bindL (xfill [nv 0] [(0,1)] [v23]) ⟨fun cv24=>@letH (H4++[.cells cv24 3 none false]) ⟨fun H5 =>
 @bindP (xact (.app 3 1 8) H5 [out7,(.slice (some ⟨H4.length,0,none⟩) 1 1)]) ⟨fun v25 H6 =>
 @bindO (xbin .add 0 i8 (nv 1)) ⟨fun v15 =>
 K1 v25 v15 H6⟩⟩⟩⟩⟩⟩⟩⟩ else
 R out7 H3⟩⟩⟩⟩⟩⟩⟩
theorem g74_of {f0 a1 l2:Value} {H:AH} {R:Value→AH→Prop} (h:g74 f0 a1 l2 H R):FN Tryz.prog 74 [f0,a1,l2] H R:=
  FN.of_XM (ms:=[(4,[7,8])]) mixed (cast (by kernel_rfl) h)
def g75 (c0:Value) (H:AH) (R:Value→AH→Prop):Prop:=
 @letH (H++[.cells (cellsL c0) 29 none false]) ⟨fun H1 =>
 @letH (H1++[.cells [nv 0,nv 0,.slice none 0 0] 29 none false]) ⟨fun H2 =>
 @bindO (xpure (.fld 0) [H]) ⟨fun v4 =>
 @bindO (xload none H2 [v4]) ⟨fun v5 =>
 @bindO (xbin .neq 0 v5 (nv 2)) ⟨fun v6 =>
 @condK v6 ⟨fun q=>if q=true then @cG 110 [nv 1] H2 ⟨fun v7 H3 =>
 @bindO (xpure (.ext 0) [v7]) ⟨fun v8 =>
 @bindO (xpure (.ext 1) [v7]) ⟨fun v9 =>
 @bindP (xact (.st 3) H3 [H1,v8]) ⟨fun _v H4 =>
 @bindO (xload (some 3) H4 [H1]) ⟨fun r0=>R (.tuple [r0,v9].toArray) H4⟩⟩⟩⟩⟩ else
 @bindO (xpure (.fld 1) [H]) ⟨fun v10 =>
 @bindO (xload none H2 [v10]) ⟨fun v11 =>
 @bindO (xpure (.fld 2) [H]) ⟨fun v12 =>
 @bindO (xload none H2 [v12]) ⟨fun v13 =>
 @cG 119 [nv 2,v13,(.func (.func 133) #[] #[])] H2 ⟨fun v14 H5 =>
 (chkX [1] (⟨1,none,[v10],v11⟩ :: []) H5∧@cG 112 [nv 2,v11,v14] H5 ⟨fun v15 H6 =>
 @bindO (xpure (.ext 0) [v15]) ⟨fun v16 =>
 @bindO (xpure (.ext 1) [v15]) ⟨fun v17 =>
 @bindP (xact (.st 3) H6 [H1,v16]) ⟨fun _v H7 =>
 @bindO (xload (some 3) H7 [H1]) ⟨fun r0=>R (.tuple [r0,v17].toArray) H7⟩⟩⟩⟩⟩)⟩⟩⟩⟩⟩⟩⟩⟩⟩⟩⟩
theorem g75_of {c0:Value} {H:AH} {R:Value→AH→Prop} (h:g75 c0 H R):FN Tryz.prog 75 [c0] H R:=
  FN.of_XM (ms:=[]) mixed (cast (by kernel_rfl) h)
def g79 (q0 n1 l2:Value) (H:AH) (R:Value→AH→Prop):Prop:=
 @cG 60 [n1] H ⟨fun v10 H1 =>
 @loopV1 (nv 0) H1 ⟨fun i8 H2 K1 =>
 @bindO (xbin .lss 0 i8 n1) ⟨fun v13 =>
 @guardJ (asB v13) (fun J2=>J2 i8 H2) H2 ⟨fun v15 H3 =>
 @guardJ (asB v13) (fun J3=>J3 l2 H3) H3 ⟨fun v16 H4 =>
 @guardJ (asB v13) (fun J4=>@bindO (xpure .lenS [v16]) ⟨fun v17 =>
 J4 v17 H4⟩) H4 ⟨fun v17a H5 =>
 @guardJ (asB v13) (fun J5=>@bindO (xbin .lss 0 v15 v17a) ⟨fun v18 =>
 J5 v18 H5⟩) H5 ⟨fun v18a H6 =>
 @pickK v13 v18a (.bool false) ⟨fun v19 =>
 @condK v19 ⟨fun q=>if q=true then @bindO (xpure (.ixS 1) [l2,i8]) ⟨fun v26 =>
 @bindO (xload none H6 [v26]) ⟨fun v27 =>
 @bindO (xpure (.conv .i64) [v27]) ⟨fun v28 =>
 @bindO (xbin .rem 0 v28 q0) ⟨fun v30 =>
 @bindO (xpure (.ixS 1) [v10,i8]) ⟨fun v31 =>
 @bindP (xact (.st 1) H6 [v31,v30]) ⟨fun _v H7 =>
 @bindO (xbin .add 0 i8 (nv 1)) ⟨fun v21 =>
 K1 v21 H7⟩⟩⟩⟩⟩⟩⟩ else
 R v10 H6⟩⟩⟩⟩⟩⟩⟩⟩⟩
theorem g79_of {q0 n1 l2:Value} {H:AH} {R:Value→AH→Prop} (h:g79 q0 n1 l2 H R):FN Tryz.prog 79 [q0,n1,l2] H R:=
  FN.of_XM (ms:=[(4,[8])]) mixed (cast (by kernel_rfl) h)
def g82 (c0:Value) (H:AH) (R:Value→AH→Prop):Prop:=
 @letH (H++[.cells (cellsL c0) 29 none false]) ⟨fun H1 =>
 @bindO (xload (some 3) H1 [H]) ⟨fun v8 =>
 @cG 137 [v8] H1 ⟨fun v9 H2 =>
 @bindO (xpure (.ext 0) [v9]) ⟨fun v10 =>
 @bindO (xpure (.ext 1) [v9]) ⟨fun v11 =>
 @bindO (xbin .neq 0 v11 (nv 0)) ⟨fun v13 =>
 @condK v13 ⟨fun q=>if q=true then R (.tuple [nv 0,v11].toArray) H2 else
 @loopV1 (nv 1) H2 ⟨fun d6 H3 K1 =>
 @bindO (xpure (.fld 1) [H]) ⟨fun v16 =>
 @bindO (xload none H3 [v16]) ⟨fun v17 =>
 @bindO (xbin .leq 0 d6 v17) ⟨fun v18 =>
 @condK v18 ⟨fun q=>if q=true then @bindO (xpure (.ixS 1) [v10,d6]) ⟨fun v23 =>
 @bindO (xload none H3 [v23]) ⟨fun v24 =>
 @bindO (xbin .gtr 0 v24 (nv 0)) ⟨fun v25 =>
 @condK v25 ⟨fun q=>if q=true then R (.tuple [d6,nv 0].toArray) H3 else
 @bindO (xbin .add 0 d6 (nv 1)) ⟨fun v20 =>
 K1 v20 H3⟩⟩⟩⟩⟩ else
 R (.tuple [nv 0,nv 4].toArray) H3⟩⟩⟩⟩⟩⟩⟩⟩⟩⟩⟩⟩
theorem g82_of {c0:Value} {H:AH} {R:Value→AH→Prop} (h:g82 c0 H R):FN Tryz.prog 82 [c0] H R:=
  FN.of_XM (ms:=[(7,[6])]) mixed (cast (by kernel_rfl) h)
def g88 (c0:Value) (H:AH) (R:Value→AH→Prop):Prop:=
 @letH (H++[.cells (cellsL c0) 29 none false]) ⟨fun H1 =>
 @bindO (xload (some 3) H1 [H]) ⟨fun v6 =>
 @cG 42 [v6] H1 ⟨fun v7 H2 =>
 @bindO (xbin .gtr 0 v7 (nv 4096)) ⟨fun v8 =>
 @condK v8 ⟨fun q=>if q=true then R (.tuple [.slice none 0 0,nv 2].toArray) H2 else
 @bindL (xfill [] [] []) ⟨fun cv9=>@letH (H2++[.cells cv9 31 none false]) ⟨fun H3 =>
 @loopV2 (.slice (some ⟨H2.length,0,none⟩) 0 0) (nv 0) H3 ⟨fun out4 i5 H4 K1 =>
 @bindO (xload (some 3) H4 [H]) ⟨fun v11 =>
 @cG 42 [v11] H4 ⟨fun v12 H5 =>
 @bindO (xbin .lss 0 i5 v12) ⟨fun v13 =>
 @condK v13 ⟨fun q=>if q=true then @bindO (xload (some 3) H5 [H]) ⟨fun v17 =>
 @bindO (xload (some 3) H5 [H]) ⟨fun v18 =>
 @cG 144 [v18,i5] H5 ⟨fun v20 H6 =>
 (chkX [1] (⟨1,(some 3),[H],v17⟩ :: []) H6∧@cG 143 [v17,v20] H6 ⟨fun v21 H7 =>
 @bindL (xfill [.slice none 0 0] [(0,1)] [v21]) ⟨fun cv22=>@letH (H7++[.cells cv22 31 none false]) ⟨fun H8 =>
 @bindP (xact (.app 31 1 24) H8 [out4,(.slice (some ⟨H7.length,0,none⟩) 1 1)]) ⟨fun v23 H9 =>
 @bindO (xbin .add 0 i5 (nv 1)) ⟨fun v15 =>
 K1 v23 v15 H9⟩⟩⟩⟩⟩)⟩⟩⟩ else
 R (.tuple [out4,nv 0].toArray) H5⟩⟩⟩⟩⟩⟩⟩⟩⟩⟩⟩⟩
theorem g88_of {c0:Value} {H:AH} {R:Value→AH→Prop} (h:g88 c0 H R):FN Tryz.prog 88 [c0] H R:=
  FN.of_XM (ms:=[(7,[4,5])]) mixed (cast (by kernel_rfl) h)
def g102 (s0:Value) (H:AH) (R:Value→AH→Prop):Prop:=
 @bindO (xbin .eql 2 s0 (.slice none 0 0)) ⟨fun v4 =>
 @condK v4 ⟨fun q=>if q=true then R (.slice none 0 0) H else
 @bindL (xfill [] [] []) ⟨fun cv5=>@letH (H++[.cells cv5 3 none false]) ⟨fun H1 =>
 @bindP (xact (.app 3 1 8) H1 [(.slice (some ⟨H.length,0,none⟩) 0 0),s0]) ⟨fun v7 H2 =>
 R v7 H2⟩⟩⟩⟩⟩
theorem g102_of {s0:Value} {H:AH} {R:Value→AH→Prop} (h:g102 s0 H R):FN Tryz.prog 102 [s0] H R:=
  FN.of_XM (ms:=[]) mixed (cast (by kernel_rfl) h)
def g108 (f0 a1 b2:Value) (H:AH) (R:Value→AH→Prop):Prop:=
 @letH (H++[.cells (cellsL f0) 76 none false]) ⟨fun H1 =>
 @bindL (xfill [] [] []) ⟨fun cv9=>@letH (H1++[.cells cv9 3 none false]) ⟨fun H2 =>
 @loopV2 (.slice (some ⟨H1.length,0,none⟩) 0 0) (nv 0) H2 ⟨fun out7 i8 H3 K1 =>
 @bindO (xpure .lenS [a1]) ⟨fun v12 =>
 @bindO (xbin .lss 0 i8 v12) ⟨fun v13 =>
 @condK v13 ⟨fun q=>if q=true then @bindO (xload (some 3) H3 [H]) ⟨fun v17 =>
 @bindO (xpure (.ixS 1) [a1,i8]) ⟨fun v20 =>
 @bindO (xload none H3 [v20]) ⟨fun v21 =>
 @bindO (xpure (.ixS 1) [b2,i8]) ⟨fun v24 =>
 @bindO (xload none H3 [v24]) ⟨fun v25 =>
 @cG 167 [v17,v21,v25] H3 ⟨fun v26 H4 =>
 @bindL (xfill [nv 0] [(0,1)] [v26]) ⟨fun cv27=>@letH (H4++[.cells cv27 3 none false]) ⟨fun H5 =>
 @bindP (xact (.app 3 1 8) H5 [out7,(.slice (some ⟨H4.length,0,none⟩) 1 1)]) ⟨fun v28 H6 =>
 @bindO (xbin .add 0 i8 (nv 1)) ⟨fun v15 =>
 K1 v28 v15 H6⟩⟩⟩⟩⟩⟩⟩⟩⟩⟩ else
 R out7 H3⟩⟩⟩⟩⟩⟩⟩
theorem g108_of {f0 a1 b2:Value} {H:AH} {R:Value→AH→Prop} (h:g108 f0 a1 b2 H R):FN Tryz.prog 108 [f0,a1,b2] H R:=
  FN.of_XM (ms:=[(4,[7,8])]) mixed (cast (by kernel_rfl) h)
def g112 (q0 n1 rows2:Value) (H:AH) (R:Value→AH→Prop):Prop:=
 @letH (H++[.cells [nv 0,nv 0,.slice none 0 0] 29 none false]) ⟨fun H1 =>
 @cG 111 [q0] H1 ⟨fun v12 H2 =>
 @bindO (xpure (.ext 0) [v12]) ⟨fun v13 =>
 @bindO (xpure (.ext 1) [v12]) ⟨fun v14 =>
 @letH (H2++[.cells [nv 0,nv 0,.slice none 0 0] 76 none false]) ⟨fun H3 =>
 @bindP (xact (.st 3) H3 [H2,v13]) ⟨fun _v H4 =>
 @bindO (xload (some 3) H4 [H2]) ⟨fun v17 =>
 @cG 173 [v17,rows2] H4 ⟨fun v19 H5 =>
 @bindL (xfill [nv 0,nv 0,.slice none 0 0] [(0,1),(1,1),(2,1)] [q0,n1,v19]) ⟨fun v20 =>
 @bindP (xact (.st 3) H5 [H,(.agg v20.toArray)]) ⟨fun _v H6 =>
 @bindO (xload (some 3) H6 [H]) ⟨fun r0=>R (.tuple [r0,nv 0].toArray) H6⟩⟩⟩⟩⟩⟩⟩⟩⟩⟩⟩
theorem g112_of {q0 n1 rows2:Value} {H:AH} {R:Value→AH→Prop} (h:g112 q0 n1 rows2 H R):FN Tryz.prog 112 [q0,n1,rows2] H R:=
  FN.of_XM (ms:=[]) mixed (cast (by kernel_rfl) h)
def g113 (rows0 does1:Value) (H:AH) (R:Value→AH→Prop):Prop:=
 @bindO (xpure .lenS [rows0]) ⟨fun v9 =>
 @loopV2 (.slice none 0 0) (nv 0) H ⟨fun out5 v10 H1 K1 =>
 @bindO (xbin .lss 0 v10 v9) ⟨fun v11 =>
 @condK v11 ⟨fun q=>if q=true then @bindO (xpure (.ixS 1) [rows0,v10]) ⟨fun v12 =>
 @bindO (xload none H1 [v12]) ⟨fun v13 =>
 @callZ Tryz.prog [does1,v13] H1 ⟨fun v17 H2 =>
 @bindL (xfill [.slice none 0 0] [(0,1)] [v17]) ⟨fun cv18=>@letH (H2++[.cells cv18 31 none false]) ⟨fun H3 =>
 @bindP (xact (.app 31 1 24) H3 [out5,(.slice (some ⟨H2.length,0,none⟩) 1 1)]) ⟨fun v19 H4 =>
 @bindO (xbin .add 0 v10 (nv 1)) ⟨fun v20 =>
 K1 v19 v20 H4⟩⟩⟩⟩⟩⟩⟩ else
 R out5 H1⟩⟩⟩⟩
theorem g113_of {rows0 does1:Value} {H:AH} {R:Value→AH→Prop} (h:g113 rows0 does1 H R):FN Tryz.prog 113 [rows0,does1] H R:=
  FN.of_XM (ms:=[(4,[5,10])]) mixed (cast (by kernel_rfl) h)
def g114 (r0 v1:Value) (H:AH) (R:Value→AH→Prop):Prop:=
 @bindO (xpure .lenS [r0]) ⟨fun v8 =>
 @loopV2 (nv 0) (nv 0) H ⟨fun last4 v9 H1 K1 =>
 @bindO (xbin .lss 0 v9 v8) ⟨fun v10 =>
 @condK v10 ⟨fun q=>if q=true then @bindO (xpure (.ixS 1) [r0,v9]) ⟨fun v11 =>
 @bindO (xload none H1 [v11]) ⟨fun v12 =>
 @bindO (xload (some 3) H1 [v1]) ⟨fun v13 =>
 @cG 115 [v13,last4,v12] H1 ⟨fun v16 H2 =>
 @bindO (xbin .add 0 v9 (nv 1)) ⟨fun v17 =>
 K1 v16 v17 H2⟩⟩⟩⟩⟩ else
 @cG 102 [r0] H1 ⟨fun v19 H3 =>
 @bindL (xfill [nv 0] [(0,1)] [last4]) ⟨fun cv21=>@letH (H3++[.cells cv21 3 none false]) ⟨fun H4 =>
 @bindP (xact (.app 3 1 8) H4 [v19,(.slice (some ⟨H3.length,0,none⟩) 1 1)]) ⟨fun v22 H5 =>
 R v22 H5⟩⟩⟩⟩⟩⟩⟩⟩
theorem g114_of {r0 v1:Value} {H:AH} {R:Value→AH→Prop} (h:g114 r0 v1 H R):FN Tryz.prog 114 [r0,v1] H R:=
  FN.of_XM (ms:=[(4,[4,9])]) mixed (cast (by kernel_rfl) h)
def g117 (c0 i1:Value) (H:AH) (R:Value→AH→Prop):Prop:=
 @letH (H++[.cells (cellsL c0) 29 none false]) ⟨fun H1 =>
 @bindO (xbin .geq 0 i1 (nv 0)) ⟨fun v6 =>
 @guardJ (asB v6) (fun J1=>J1 i1 H1) H1 ⟨fun v8 H2 =>
 @guardJ (asB v6) (fun J2=>@bindO (xpure (.fld 1) [H]) ⟨fun v9 =>
 J2 v9 H2⟩) H2 ⟨fun v9a H3 =>
 @guardJ (asB v6) (fun J3=>@bindO (xload none H3 [v9a]) ⟨fun v10 =>
 J3 v10 H3⟩) H3 ⟨fun v10a H4 =>
 @guardJ (asB v6) (fun J4=>@bindO (xbin .lss 0 v8 v10a) ⟨fun v11 =>
 J4 v11 H4⟩) H4 ⟨fun v11a H5 =>
 @pickK v6 v11a (.bool false) ⟨fun v12 =>
 @guardJ (asB v12) (fun J5=>@bindO (xpure (.fld 1) [H]) ⟨fun v14 =>
 J5 v14 H5⟩) H5 ⟨fun v14a H6 =>
 @guardJ (asB v12) (fun J6=>@bindO (xload none H6 [v14a]) ⟨fun v15 =>
 J6 v15 H6⟩) H6 ⟨fun v15a H7 =>
 @guardJ (asB v12) (fun J7=>@bindO (xbin .geq 0 v15a (nv 2)) ⟨fun v16 =>
 J7 v16 H7⟩) H7 ⟨fun v16a H8 =>
 @pickK v12 v16a (.bool false) ⟨fun v17 =>
 R v17 H8⟩⟩⟩⟩⟩⟩⟩⟩⟩⟩⟩
theorem g117_of {c0 i1:Value} {H:AH} {R:Value→AH→Prop} (h:g117 c0 i1 H R):FN Tryz.prog 117 [c0,i1] H R:=
  FN.of_XM (ms:=[]) mixed (cast (by kernel_rfl) h)
def g118 (i0:Value) (H:AH) (R:Value→AH→Prop):Prop:=
 @letH (H++[.cells (cellsL i0) 3 none false]) ⟨fun H1 =>
 @bindO (xpure (.fn 177 0 1) [H]) ⟨fun v3 =>
 R v3 H1⟩⟩
theorem g118_of {i0:Value} {H:AH} {R:Value→AH→Prop} (h:g118 i0 H R):FN Tryz.prog 118 [i0] H R:=
  FN.of_XM (ms:=[]) mixed (cast (by kernel_rfl) h)
def g119 (q0 rows1 value2:Value) (H:AH) (R:Value→AH→Prop):Prop:=
 @letH (H++[.cells (cellsL value2) 50 none false]) ⟨fun H1 =>
 @cG 111 [q0] H1 ⟨fun v15 H2 =>
 @bindO (xpure (.ext 0) [v15]) ⟨fun v16 =>
 @bindO (xpure (.ext 1) [v15]) ⟨fun v17 =>
 @letH (H2++[.cells [nv 0,nv 0,.slice none 0 0] 76 none false]) ⟨fun H3 =>
 @bindP (xact (.st 3) H3 [H2,v16]) ⟨fun _v H4 =>
 @bindO (xpure (.fn 179 0 1) [H]) ⟨fun v19 =>
 @cG 140 [rows1,v19] H4 ⟨fun v20 H5 =>
 @bindO (xbin .lss 0 v20 (nv 0)) ⟨fun v22 =>
 @condK v22 ⟨fun q=>if q=true then R rows1 H5 else
 @bindO (xpure (.ixS 1) [rows1,v20]) ⟨fun v26 =>
 @bindO (xload none H5 [v26]) ⟨fun v27 =>
 @letH (H5++[.cells [.slice none 0 0] 31 none false]) ⟨fun H6 =>
 @bindP (xact (.st 1) H6 [H5,v27]) ⟨fun _v H7 =>
 @bindO (xload (some 3) H7 [H2]) ⟨fun v29 =>
 @bindO (xload none H7 [H]) ⟨fun v30 =>
 @bindO (xload none H7 [H5]) ⟨fun v31 =>
 @letH (H7++[.cells [nv 0] 3 none false]) ⟨fun H8 =>
 @callZ Tryz.prog [v30,v31] H8 ⟨fun v32 H9 =>
 (chkX [0] (⟨0,(some 3),[H2],v29⟩ :: []) H9∧@cG 142 [v29,v32] H9 ⟨fun v33 H10 =>
 @bindO (xpure (.ext 0) [v33]) ⟨fun v34 =>
 @bindO (xpure (.ext 1) [v33]) ⟨fun v35 =>
 @bindP (xact (.st 1) H10 [H7,v34]) ⟨fun _v H11 =>
 @cG 181 [rows1] H11 ⟨fun v37 H12 =>
 @bindO (xbin .add 0 v20 (nv 1)) ⟨fun v40 =>
 @cG 180 [v37,v20,v40] H12 ⟨fun v41 H13 =>
 @bindO (xpure (.fn 182 0 4) [H2,H,H7,H5]) ⟨fun v42 =>
 @cG 113 [v41,v42] H13 ⟨fun v43 H14 =>
 R v43 H14⟩⟩⟩⟩⟩⟩⟩⟩⟩)⟩⟩⟩⟩⟩⟩⟩⟩⟩⟩⟩⟩⟩⟩⟩⟩⟩⟩⟩
theorem g119_of {q0 rows1 value2:Value} {H:AH} {R:Value→AH→Prop} (h:g119 q0 rows1 value2 H R):FN Tryz.prog 119 [q0,rows1,value2] H R:=
  FN.of_XM (ms:=[]) mixed (cast (by kernel_rfl) h)
def g120 (r0 v1:Value) (H:AH) (R:Value→AH→Prop):Prop:=
 @bindO (xload none H [v1]) ⟨fun v5 =>
 @bindO (xpure (.ixS 1) [r0,v5]) ⟨fun v6 =>
 @bindO (xload none H [v6]) ⟨fun v7 =>
 R v7 H⟩⟩⟩
theorem g120_of {r0 v1:Value} {H:AH} {R:Value→AH→Prop} (h:g120 r0 v1 H R):FN Tryz.prog 120 [r0,v1] H R:=
  FN.of_XM (ms:=[]) mixed (cast (by kernel_rfl) h)
def g121 (r0 v1:Value) (H:AH) (R:Value→AH→Prop):Prop:=
 @bindO (xpure (.fld 1) [v1]) ⟨fun v5 =>
 @bindO (xload none H [v5]) ⟨fun v6 =>
 @bindN (xnew (.make (nv 0) 1 8 3) [v6,v6]) ⟨fun cv7 ev7 mkv7=>@letH (H++[.cells cv7 ev7 none false]) ⟨fun H1 =>
 @bindL (xfill [.slice none 0 0,.slice none 0 0] [(0,1),(1,1)] [r0,(mkv7 H.length)]) ⟨fun cv8=>@letH (H1++[.cells cv8 31 none false]) ⟨fun H2 =>
 @cG 122 [(.slice (some ⟨H1.length,0,none⟩) 2 2)] H2 ⟨fun v9 H3 =>
 R v9 H3⟩⟩⟩⟩⟩⟩⟩
theorem g121_of {r0 v1:Value} {H:AH} {R:Value→AH→Prop} (h:g121 r0 v1 H R):FN Tryz.prog 121 [r0,v1] H R:=
  FN.of_XM (ms:=[]) mixed (cast (by kernel_rfl) h)
def g123 (r0 v1:Value) (H:AH) (R:Value→AH→Prop):Prop:=
 @bindO (xpure (.fld 1) [v1]) ⟨fun v4 =>
 @bindO (xload none H [v4]) ⟨fun v5 =>
 @bindN (xnew (.make (nv 0) 1 8 3) [v5,v5]) ⟨fun cv6 ev6 mkv6=>@letH (H++[.cells cv6 ev6 none false]) ⟨fun H1 =>
 @bindL (xfill [.slice none 0 0,.slice none 0 0] [(0,1),(1,1)] [(mkv6 H.length),r0]) ⟨fun cv8=>@letH (H1++[.cells cv8 31 none false]) ⟨fun H2 =>
 @cG 122 [(.slice (some ⟨H1.length,0,none⟩) 2 2)] H2 ⟨fun v9 H3 =>
 R v9 H3⟩⟩⟩⟩⟩⟩⟩
theorem g123_of {r0 v1:Value} {H:AH} {R:Value→AH→Prop} (h:g123 r0 v1 H R):FN Tryz.prog 123 [r0,v1] H R:=
  FN.of_XM (ms:=[]) mixed (cast (by kernel_rfl) h)
def g124 (l0:Value) (H:AH) (R:Value→AH→Prop):Prop:=
 @cG 184 [l0] H ⟨fun v4 H1 =>
 R v4 H1⟩
theorem g124_of {l0:Value} {H:AH} {R:Value→AH→Prop} (h:g124 l0 H R):FN Tryz.prog 124 [l0] H R:=
  FN.of_XM (ms:=[]) mixed (cast (by kernel_rfl) h)
def g125 (r0:Value) (H:AH) (R:Value→AH→Prop):Prop:=
 @bindL (xfill [.slice none 0 0,.slice none 0 0] [(0,1),(1,1)] [r0,r0]) ⟨fun cv5=>@letH (H++[.cells cv5 31 none false]) ⟨fun H1 =>
 @cG 122 [(.slice (some ⟨H.length,0,none⟩) 2 2)] H1 ⟨fun v6 H2 =>
 R v6 H2⟩⟩⟩
theorem g125_of {r0:Value} {H:AH} {R:Value→AH→Prop} (h:g125 r0 H R):FN Tryz.prog 125 [r0] H R:=
  FN.of_XM (ms:=[]) mixed (cast (by kernel_rfl) h)
def g126 (r0 v1:Value) (H:AH) (R:Value→AH→Prop):Prop:=
 @bindO (xpure (.fld 1) [v1]) ⟨fun v4 =>
 @bindO (xload none H [v4]) ⟨fun v5 =>
 @bindN (xnew (.make (nv 0) 1 8 3) [v5,v5]) ⟨fun cv6 ev6 mkv6=>@letH (H++[.cells cv6 ev6 none false]) ⟨fun H1 =>
 @bindL (xfill [.slice none 0 0,.slice none 0 0] [(0,1),(1,1)] [(mkv6 H.length),r0]) ⟨fun cv8=>@letH (H1++[.cells cv8 31 none false]) ⟨fun H2 =>
 @cG 122 [(.slice (some ⟨H1.length,0,none⟩) 2 2)] H2 ⟨fun v9 H3 =>
 R v9 H3⟩⟩⟩⟩⟩⟩⟩
theorem g126_of {r0 v1:Value} {H:AH} {R:Value→AH→Prop} (h:g126 r0 v1 H R):FN Tryz.prog 126 [r0,v1] H R:=
  FN.of_XM (ms:=[]) mixed (cast (by kernel_rfl) h)
def g127 (r0 v1:Value) (H:AH) (R:Value→AH→Prop):Prop:=
 @bindO (xpure .lenS [r0]) ⟨fun v9 =>
 @loopV2 (.slice none 0 0) (nv 0) H ⟨fun out4 v10 H1 K1 =>
 @bindO (xbin .lss 0 v10 v9) ⟨fun v11 =>
 @condK v11 ⟨fun q=>if q=true then @bindO (xpure (.ixS 1) [r0,v10]) ⟨fun v12 =>
 @bindO (xload none H1 [v12]) ⟨fun v13 =>
 @bindO (xpure (.fld 1) [v1]) ⟨fun v14 =>
 @bindO (xload none H1 [v14]) ⟨fun v15 =>
 @loopV2 out4 (nv 0) H1 ⟨fun out4a v16 H2 K2 =>
 @bindO (xbin .lss 0 v16 v15) ⟨fun v17 =>
 @condK v17 ⟨fun q=>if q=true then @bindO (xbin .and 0 v13 (nv 1)) ⟨fun v21 =>
 @bindO (xpure (.fld 2) [v1]) ⟨fun v22 =>
 @bindO (xload none H2 [v22]) ⟨fun v23 =>
 @bindO (xpure (.ixS 1) [v23,nv 0]) ⟨fun v24 =>
 @bindO (xload none H2 [v24]) ⟨fun v25 =>
 @bindO (xpure (.ixS 1) [v25,v16]) ⟨fun v27 =>
 @bindO (xload none H2 [v27]) ⟨fun v28 =>
 @bindO (xbin .mul 0 v21 v28) ⟨fun v29 =>
 @bindO (xbin .shr 0 v13 (.int .u64 1)) ⟨fun v31 =>
 @bindO (xpure (.fld 2) [v1]) ⟨fun v32 =>
 @bindO (xload none H2 [v32]) ⟨fun v33 =>
 @bindO (xpure (.ixS 1) [v33,nv 1]) ⟨fun v34 =>
 @bindO (xload none H2 [v34]) ⟨fun v35 =>
 @bindO (xpure (.ixS 1) [v35,v16]) ⟨fun v37 =>
 @bindO (xload none H2 [v37]) ⟨fun v38 =>
 @bindO (xbin .mul 0 v31 v38) ⟨fun v39 =>
 @bindO (xbin .xor 0 v29 v39) ⟨fun v40 =>
 @bindL (xfill [nv 0] [(0,1)] [v40]) ⟨fun cv41=>@letH (H2++[.cells cv41 3 none false]) ⟨fun H3 =>
 @bindP (xact (.app 3 1 8) H3 [out4a,(.slice (some ⟨H2.length,0,none⟩) 1 1)]) ⟨fun v42 H4 =>
 @bindO (xbin .add 0 v16 (nv 1)) ⟨fun v43 =>
 K2 v42 v43 H4⟩⟩⟩⟩⟩⟩⟩⟩⟩⟩⟩⟩⟩⟩⟩⟩⟩⟩⟩⟩⟩ else
 @bindO (xbin .add 0 v10 (nv 1)) ⟨fun v44 =>
 K1 out4a v44 H2⟩⟩⟩⟩⟩⟩⟩⟩ else
 R out4 H1⟩⟩⟩⟩
theorem g127_of {r0 v1:Value} {H:AH} {R:Value→AH→Prop} (h:g127 r0 v1 H R):FN Tryz.prog 127 [r0,v1] H R:=
  FN.of_XM (ms:=[(4,[4,10]),(10,[4,16])]) mixed (cast (by kernel_rfl) h)
def g128 (r0 v1:Value) (H:AH) (R:Value→AH→Prop):Prop:=
 @letH (H++[.cells (cellsL r0) 31 none false]) ⟨fun H1 =>
 @bindO (xpure (.fn 130 0 2) [H,v1]) ⟨fun v4 =>
 @cG 129 [v4] H1 ⟨fun v5 H2 =>
 R v5 H2⟩⟩⟩
theorem g128_of {r0 v1:Value} {H:AH} {R:Value→AH→Prop} (h:g128 r0 v1 H R):FN Tryz.prog 128 [r0,v1] H R:=
  FN.of_XM (ms:=[]) mixed (cast (by kernel_rfl) h)
def g129 (seq0:Value) (H:AH) (R:Value→AH→Prop):Prop:=
 @cG 185 [.slice none 0 0,seq0] H ⟨fun v4 H1 =>
 R v4 H1⟩
theorem g129_of {seq0:Value} {H:AH} {R:Value→AH→Prop} (h:g129 seq0 H R):FN Tryz.prog 129 [seq0] H R:=
  FN.of_XM (ms:=[]) mixed (cast (by kernel_rfl) h)
def g130 (yield0 v1 v2:Value) (H:AH) (R:Value→AH→Prop):Prop:=
 @bindO (xload none H [v1]) ⟨fun v6 =>
 @bindO (xpure .lenS [v6]) ⟨fun v7 =>
 @loopV1 (nv 0) H ⟨fun v8 H1 K1 =>
 @bindO (xbin .lss 0 v8 v7) ⟨fun v9 =>
 @condK v9 ⟨fun q=>if q=true then @bindO (xpure (.ixS 1) [v6,v8]) ⟨fun v10 =>
 @bindO (xload none H1 [v10]) ⟨fun v11 =>
 @bindO (xload (some 3) H1 [v2]) ⟨fun v13 =>
 @cG 131 [v13,nv 2,v11] H1 ⟨fun v15 H2 =>
 @callZ Tryz.prog [yield0,v15] H2 ⟨fun v16 H3 =>
 @bindO (eun .not v16) ⟨fun v17 =>
 @condK v17 ⟨fun q=>if q=true then R (.tuple [].toArray) H3 else
 @bindO (xbin .add 0 v8 (nv 1)) ⟨fun v18 =>
 K1 v18 H3⟩⟩⟩⟩⟩⟩⟩⟩ else
 R (.tuple [].toArray) H1⟩⟩⟩⟩⟩
theorem g130_of {yield0 v1 v2:Value} {H:AH} {R:Value→AH→Prop} (h:g130 yield0 v1 v2 H R):FN Tryz.prog 130 [yield0,v1,v2] H R:=
  FN.of_XM (ms:=[(1,[8])]) mixed (cast (by kernel_rfl) h)
def g133 (r0:Value) (H:AH) (R:Value→AH→Prop):Prop:=
 @bindO (xpure .lenS [r0]) ⟨fun v7 =>
 @loopV2 (nv 0) (nv 0) H ⟨fun n3 v8 H1 K1 =>
 @bindO (xbin .lss 0 v8 v7) ⟨fun v9 =>
 @condK v9 ⟨fun q=>if q=true then @bindO (xpure (.ixS 1) [r0,v8]) ⟨fun v10 =>
 @bindO (xload none H1 [v10]) ⟨fun v11 =>
 @bindO (xbin .xor 0 n3 v11) ⟨fun v14 =>
 @bindO (xbin .add 0 v8 (nv 1)) ⟨fun v15 =>
 K1 v14 v15 H1⟩⟩⟩⟩ else
 R n3 H1⟩⟩⟩⟩
theorem g133_of {r0:Value} {H:AH} {R:Value→AH→Prop} (h:g133 r0 H R):FN Tryz.prog 133 [r0] H R:=
  FN.of_XM (ms:=[(4,[3,8])]) mixed (cast (by kernel_rfl) h)
def g137 (c0:Value) (H:AH) (R:Value→AH→Prop):Prop:=
 @letH (H++[.cells (cellsL c0) 29 none false]) ⟨fun H1 =>
 @bindO (xload (some 3) H1 [H]) ⟨fun v9 =>
 @cG 88 [v9] H1 ⟨fun v10 H2 =>
 @bindO (xpure (.ext 0) [v10]) ⟨fun v11 =>
 @bindO (xpure (.ext 1) [v10]) ⟨fun v12 =>
 @bindO (xbin .neq 0 v12 (nv 0)) ⟨fun v14 =>
 @condK v14 ⟨fun q=>if q=true then R (.tuple [.slice none 0 0,v12].toArray) H2 else
 @bindO (xpure (.fld 1) [H]) ⟨fun v16 =>
 @bindO (xload none H2 [v16]) ⟨fun v17 =>
 @bindO (xbin .add 0 v17 (nv 1)) ⟨fun v18 =>
 @bindN (xnew (.make (nv 0) 1 8 3) [v18,v18]) ⟨fun cv19 ev19 mkv19=>@letH (H2++[.cells cv19 ev19 none false]) ⟨fun H3 =>
 @loopV1 (nv 0) H3 ⟨fun i7 H4 K1 =>
 @bindO (xpure .lenS [v11]) ⟨fun v22 =>
 @bindO (xbin .lss 0 i7 v22) ⟨fun v23 =>
 @condK v23 ⟨fun q=>if q=true then @bindO (xpure (.ixS 1) [v11,i7]) ⟨fun v29 =>
 @bindO (xload none H4 [v29]) ⟨fun v30 =>
 @cG 40 [v30] H4 ⟨fun v31 H5 =>
 @bindO (xpure (.ixS 1) [(mkv19 H2.length),v31]) ⟨fun v32 =>
 @bindO (xload none H5 [v32]) ⟨fun v33 =>
 @bindO (xbin .add 0 v33 (nv 1)) ⟨fun v34 =>
 @bindO (xpure (.ixS 1) [(mkv19 H2.length),v31]) ⟨fun v35 =>
 @bindP (xact (.st 1) H5 [v35,v34]) ⟨fun _v H6 =>
 @bindO (xbin .add 0 i7 (nv 1)) ⟨fun v25 =>
 K1 v25 H6⟩⟩⟩⟩⟩⟩⟩⟩⟩ else
 R (.tuple [(mkv19 H2.length),nv 0].toArray) H4⟩⟩⟩⟩⟩⟩⟩⟩⟩⟩⟩⟩⟩⟩⟩⟩
theorem g137_of {c0:Value} {H:AH} {R:Value→AH→Prop} (h:g137 c0 H R):FN Tryz.prog 137 [c0] H R:=
  FN.of_XM (ms:=[(8,[7])]) mixed (cast (by kernel_rfl) h)
def g140 (s0 f1:Value) (H:AH) (R:Value→AH→Prop):Prop:=
 @bindO (xpure .lenS [s0]) ⟨fun v7 =>
 @loopV1 (nv 0) H ⟨fun v8 H1 K1 =>
 @bindO (xbin .lss 0 v8 v7) ⟨fun v9 =>
 @condK v9 ⟨fun q=>if q=true then @bindO (xpure (.ixS 1) [s0,v8]) ⟨fun v14 =>
 @bindO (xload none H1 [v14]) ⟨fun v15 =>
 @callZ Tryz.prog [f1,v15] H1 ⟨fun v16 H2 =>
 @condK v16 ⟨fun q=>if q=true then R v8 H2 else
 @bindO (xbin .add 0 v8 (nv 1)) ⟨fun v18 =>
 K1 v18 H2⟩⟩⟩⟩⟩ else
 R (.int .i64 (-1)) H1⟩⟩⟩⟩
theorem g140_of {s0 f1:Value} {H:AH} {R:Value→AH→Prop} (h:g140 s0 f1 H R):FN Tryz.prog 140 [s0,f1] H R:=
  FN.of_XM (ms:=[(3,[8])]) mixed (cast (by kernel_rfl) h)
def g143 (c0 msg1:Value) (H:AH) (R:Value→AH→Prop):Prop:=
 @letH (H++[.cells (cellsL c0) 29 none false]) ⟨fun H1 =>
 @bindO (xpure (.fld 0) [H]) ⟨fun v8 =>
 @bindO (xload none H1 [v8]) ⟨fun v9 =>
 @bindO (xpure (.fld 1) [H]) ⟨fun v11 =>
 @bindO (xload none H1 [v11]) ⟨fun v12 =>
 @letH (H1++[.cells [nv 0,nv 0,.slice none 0 0] 76 none false]) ⟨fun H2 =>
 @cG 62 [v9] H2 ⟨fun v10 H3 =>
 (chkX [4] (⟨4,none,[v11],v12⟩ :: []) H3∧@cG 60 [v12] H3 ⟨fun v13 H4 =>
 @bindP (xact (.st 3) H4 [H1,v10]) ⟨fun _v H5 =>
 @loopV2 v13 (nv 0) H5 ⟨fun w6 i7 H6 K1 =>
 @bindO (xpure .lenS [msg1]) ⟨fun v16 =>
 @bindO (xbin .lss 0 i7 v16) ⟨fun v17 =>
 @condK v17 ⟨fun q=>if q=true then @bindO (xload (some 3) H6 [H1]) ⟨fun v20 =>
 @bindO (xload (some 3) H6 [H1]) ⟨fun v22 =>
 @bindO (xpure (.ixS 1) [msg1,i7]) ⟨fun v25 =>
 @bindO (xload none H6 [v25]) ⟨fun v26 =>
 @bindO (xpure (.fld 2) [H]) ⟨fun v27 =>
 @bindO (xload none H6 [v27]) ⟨fun v28 =>
 @bindO (xpure (.ixS 1) [v28,i7]) ⟨fun v30 =>
 @bindO (xload none H6 [v30]) ⟨fun v31 =>
 @cG 74 [v22,v26,v31] H6 ⟨fun v32 H7 =>
 (chkX [0] (⟨0,(some 3),[H1],v20⟩ :: []) H7∧@cG 108 [v20,w6,v32] H7 ⟨fun v33 H8 =>
 @bindO (xbin .add 0 i7 (nv 1)) ⟨fun v19 =>
 K1 v33 v19 H8⟩⟩)⟩⟩⟩⟩⟩⟩⟩⟩⟩ else
 R w6 H6⟩⟩⟩⟩⟩⟩)⟩⟩⟩⟩⟩⟩⟩
theorem g143_of {c0 msg1:Value} {H:AH} {R:Value→AH→Prop} (h:g143 c0 msg1 H R):FN Tryz.prog 143 [c0,msg1] H R:=
  FN.of_XM (ms:=[(4,[6,7])]) mixed (cast (by kernel_rfl) h)
def g144 (c0 n1:Value) (H:AH) (R:Value→AH→Prop):Prop:=
 @letH (H++[.cells (cellsL c0) 29 none false]) ⟨fun H1 =>
 @bindO (xpure (.fld 2) [H]) ⟨fun v7 =>
 @bindO (xload none H1 [v7]) ⟨fun v8 =>
 @bindO (xpure .lenS [v8]) ⟨fun v9 =>
 @bindN (xnew (.make (nv 0) 1 8 3) [v9,v9]) ⟨fun cv10 ev10 mkv10=>@letH (H1++[.cells cv10 ev10 none false]) ⟨fun H2 =>
 @bindO (xpure .lenS [(mkv10 H1.length)]) ⟨fun v12 =>
 @bindO (xbin .sub 0 v12 (nv 1)) ⟨fun v13 =>
 @loopV2 n1 v13 H2 ⟨fun n1a i6 H3 K1 =>
 @bindO (xbin .geq 0 i6 (nv 0)) ⟨fun v15 =>
 @condK v15 ⟨fun q=>if q=true then @bindO (xpure (.fld 0) [H]) ⟨fun v21 =>
 @bindO (xload none H3 [v21]) ⟨fun v22 =>
 @bindO (xbin .rem 0 n1a v22) ⟨fun v23 =>
 @bindO (xpure (.ixS 1) [(mkv10 H1.length),i6]) ⟨fun v24 =>
 @bindP (xact (.st 1) H3 [v24,v23]) ⟨fun _v H4 =>
 @bindO (xpure (.fld 0) [H]) ⟨fun v26 =>
 @bindO (xload none H4 [v26]) ⟨fun v27 =>
 @bindO (xbin .quo 0 n1a v27) ⟨fun v28 =>
 @bindO (xbin .sub 0 i6 (nv 1)) ⟨fun v17 =>
 K1 v28 v17 H4⟩⟩⟩⟩⟩⟩⟩⟩⟩ else
 R (mkv10 H1.length) H3⟩⟩⟩⟩⟩⟩⟩⟩⟩⟩⟩
theorem g144_of {c0 n1:Value} {H:AH} {R:Value→AH→Prop} (h:g144 c0 n1 H R):FN Tryz.prog 144 [c0,n1] H R:=
  FN.of_XM (ms:=[(4,[1,6])]) mixed (cast (by kernel_rfl) h)
def g177 (r0 v1:Value) (H:AH) (R:Value→AH→Prop):Prop:=
 @bindO (xload none H [v1]) ⟨fun v6 =>
 @bindO (xload none H [v1]) ⟨fun v7 =>
 @bindO (xbin .add 0 v7 (nv 1)) ⟨fun v8 =>
 @cG 102 [r0] H ⟨fun v5 H1 =>
 (chkX [3,2] (⟨3,none,[v1],v7⟩ :: (⟨2,none,[v1],v6⟩ :: [])) H1∧@cG 178 [v5,v6,v8] H1 ⟨fun v9 H2 =>
 R v9 H2⟩)⟩⟩⟩⟩
theorem g177_of {r0 v1:Value} {H:AH} {R:Value→AH→Prop} (h:g177 r0 v1 H R):FN Tryz.prog 177 [r0,v1] H R:=
  FN.of_XM (ms:=[]) mixed (cast (by kernel_rfl) h)
def g179 (r0 v1:Value) (H:AH) (R:Value→AH→Prop):Prop:=
 @bindO (xload none H [v1]) ⟨fun v4 =>
 @callZ Tryz.prog [v4,r0] H ⟨fun v6 H1 =>
 @bindO (xbin .neq 0 v6 (nv 0)) ⟨fun v7 =>
 R v7 H1⟩⟩⟩
theorem g179_of {r0 v1:Value} {H:AH} {R:Value→AH→Prop} (h:g179 r0 v1 H R):FN Tryz.prog 179 [r0,v1] H R:=
  FN.of_XM (ms:=[]) mixed (cast (by kernel_rfl) h)
def g182 (r0 v1 v2 v3 v4:Value) (H:AH) (R:Value→AH→Prop):Prop:=
 @bindO (xload (some 3) H [v1]) ⟨fun v11 =>
 @bindO (xload none H [v2]) ⟨fun v12 =>
 @bindO (xload none H [v3]) ⟨fun v15 =>
 @callZ Tryz.prog [v12,r0] H ⟨fun v14 H1 =>
 (chkX [4,0] (⟨4,none,[v3],v15⟩ :: (⟨0,(some 3),[v1],v11⟩ :: [])) H1∧@cG 131 [v11,v14,v15] H1 ⟨fun v16 H2 =>
 @cG 102 [r0] H2 ⟨fun v18 H3 =>
 @bindO (xload none H3 [v4]) ⟨fun v19 =>
 @bindO (xpure .lenS [v19]) ⟨fun v20 =>
 @loopV1 (nv 0) H3 ⟨fun v21 H4 K1 =>
 @bindO (xbin .lss 0 v21 v20) ⟨fun v22 =>
 @condK v22 ⟨fun q=>if q=true then @bindO (xpure (.ixS 1) [v19,v21]) ⟨fun v24 =>
 @bindO (xload none H4 [v24]) ⟨fun v25 =>
 @bindO (xload (some 3) H4 [v1]) ⟨fun v28 =>
 @bindO (xpure (.ixS 1) [v18,v21]) ⟨fun v31 =>
 @bindO (xload none H4 [v31]) ⟨fun v32 =>
 @bindO (xload (some 3) H4 [v1]) ⟨fun v33 =>
 @cG 131 [v33,v16,v25] H4 ⟨fun v36 H5 =>
 (chkX [6,2] (⟨6,none,[v31],v32⟩ :: (⟨2,(some 3),[v1],v28⟩ :: [])) H5∧@cG 115 [v28,v32,v36] H5 ⟨fun v37 H6 =>
 @bindO (xpure (.ixS 1) [v18,v21]) ⟨fun v38 =>
 @bindP (xact (.st 1) H6 [v38,v37]) ⟨fun _v H7 =>
 @bindO (xbin .add 0 v21 (nv 1)) ⟨fun v39 =>
 K1 v39 H7⟩⟩⟩⟩)⟩⟩⟩⟩⟩⟩⟩ else
 R v18 H4⟩⟩⟩⟩⟩⟩⟩)⟩⟩⟩⟩
theorem g182_of {r0 v1 v2 v3 v4:Value} {H:AH} {R:Value→AH→Prop} (h:g182 r0 v1 v2 v3 v4 H R):FN Tryz.prog 182 [r0,v1,v2,v3,v4] H R:=
  FN.of_XM (ms:=[(5,[21])]) mixed (cast (by kernel_rfl) h)
end Go.Sim
