/- Part of the proof: ZMoG. -/
import Derived.Test.YtbfpepbfpebmmaaGreatMMatShSToXfS
import Derived.Test.YtbfpepbfpebmmaaGreatMMatShD
import Derived.Test.YtbfpepbfpebmmaaGreatMMatZShMixToZPfFieldI
import Derived.KernelRfl
set_option linter.all false
set_option maxRecDepth 100000
namespace Go.Sim
open Go Go.Proofs
local instance coZMoG:Coe AH Value:=⟨fun H=>.pointer (some ⟨H.length,0,none⟩)⟩
def g12 (x0:Value) (H:AH) (R:Value→AH→Prop):Prop:=
 @letH (H++[.cells (qbq x0) 24 none false]) ⟨fun H1 =>
 @letH (H1++[.cells [nv 0,nv 0,.slice none 0 0] 29 none false]) ⟨fun H2 =>
 @qb0 (qbr [nv 0,nv 0,nv 0,nv 0,nv 0,nv 0] [(0,1),(1,1),(2,1),(3,1),(4,1),(5,1)] [nv 2,nv 3,nv 4,nv 5,nv 7,nv 8]) ⟨fun cv11=>@letH (H2++[.cells cv11 3 none false]) ⟨fun H3 =>
 @qbb (qbc (.fld 0) [H]) ⟨fun v12 =>
 @qbb (qbd none H3 [v12]) ⟨fun v13 =>
 @qbb (xbin .rem 0 v13 (.int .u8 6)) ⟨fun v14 =>
 @qbb (qbc (.ixS 1) [(.slice (some ⟨H2.length,0,none⟩) 6 6),v14]) ⟨fun v15 =>
 @qbb (qbd none H3 [v15]) ⟨fun v16 =>
 @qbb (qbc (.fld 1) [H]) ⟨fun v17 =>
 @qbb (qbd none H3 [v17]) ⟨fun v18 =>
 @qbb (xbin .rem 0 v18 (.int .u8 10)) ⟨fun v19 =>
 @qbb (qbc (.conv .i64) [v19]) ⟨fun v20 =>
 @qbb (xbin .add 0 (nv 1) v20) ⟨fun v21 =>
 @qb0 (qbr [nv 0,nv 0,nv 0,nv 0,nv 0,nv 0] [(0,1),(1,1),(2,1),(3,1),(4,1),(5,1)] [nv 8,nv 5,nv 4,nv 3,nv 2,nv 2]) ⟨fun cv22=>@letH (H3++[.cells cv22 3 none false]) ⟨fun H4 =>
 @qbb (qbc (.fld 0) [H]) ⟨fun v23 =>
 @qbb (qbd none H4 [v23]) ⟨fun v24 =>
 @qbb (xbin .rem 0 v24 (.int .u8 6)) ⟨fun v25 =>
 @qbb (qbc (.ixS 1) [(.slice (some ⟨H3.length,0,none⟩) 6 6),v25]) ⟨fun v26 =>
 @qbb (qbd none H4 [v26]) ⟨fun v27 =>
 @qbb (qbc (.fld 2) [H]) ⟨fun v28 =>
 @qbb (qbd none H4 [v28]) ⟨fun v29 =>
 @qbb (qbc (.conv .i64) [v29]) ⟨fun v30 =>
 @qbb (xbin .add 0 v27 (nv 1)) ⟨fun v32 =>
 @qbb (xbin .rem 0 v30 v32) ⟨fun v33 =>
 @qb0 (qbr [] [] []) ⟨fun cv34=>@letH (H4++[.cells cv34 31 none false]) ⟨fun H5 =>
 @loopV2 (.slice (some ⟨H4.length,0,none⟩) 0 0) (nv 0) H5 ⟨fun rows7 i8 H6 K1 =>
 @qbb (xbin .lss 0 i8 v33) ⟨fun v37 =>
 @qbv v37 ⟨fun q=>if q=true then @cG 60 [v21] H6 ⟨fun v41 H7 =>
 @loopV1 (nv 0) H7 ⟨fun j10 H8 K2 =>
 @qbb (xbin .lss 0 j10 v21) ⟨fun v44 =>
 @qbv v44 ⟨fun q=>if q=true then @joinV0 (fun J3=>@qbb (qbc (.fld 3) [H]) ⟨fun v47 =>
 @qbb (qbd none H8 [v47]) ⟨fun v48 =>
 @qbb (qbc .lenS [v48]) ⟨fun v49 =>
 @qbb (xbin .gtr 0 v49 (nv 0)) ⟨fun v50 =>
 @qbv v50 ⟨fun q=>if q=true then @qbb (qbc (.fld 3) [H]) ⟨fun v53 =>
 @qbb (qbd none H8 [v53]) ⟨fun v54 =>
 @qbb (xbin .mul 0 i8 v21) ⟨fun v57 =>
 @qbb (xbin .add 0 v57 j10) ⟨fun v59 =>
 @qbb (qbc (.fld 3) [H]) ⟨fun v60 =>
 @qbb (qbd none H8 [v60]) ⟨fun v61 =>
 @qbb (qbc .lenS [v61]) ⟨fun v62 =>
 @qbb (xbin .rem 0 v59 v62) ⟨fun v63 =>
 @qbb (qbc (.ixS 1) [v54,v63]) ⟨fun v64 =>
 @qbb (qbd none H8 [v64]) ⟨fun v65 =>
 @qbb (qbc (.conv .i64) [v65]) ⟨fun v66 =>
 @qbb (xbin .rem 0 v66 v16) ⟨fun v68 =>
 @qbb (qbc (.ixS 1) [v41,j10]) ⟨fun v69 =>
 @qbn (xact (.st 1) H8 [v69,v68]) ⟨fun _v H9 =>
 J3 H9⟩⟩⟩⟩⟩⟩⟩⟩⟩⟩⟩⟩⟩⟩ else
 J3 H8⟩⟩⟩⟩⟩) ⟨fun H10 =>
 @qbb (xbin .add 0 j10 (nv 1)) ⟨fun v46 =>
 K2 v46 H10⟩⟩ else
 @joinV0 (fun J4=>@qbb (xbin .lss 0 i8 v21) ⟨fun v72 =>
 @qbv v72 ⟨fun q=>if q=true then @qbb (qbc (.ixS 1) [v41,i8]) ⟨fun v75 =>
 @qbn (xact (.st 1) H8 [v75,nv 1]) ⟨fun _v H11 =>
 J4 H11⟩⟩ else
 J4 H8⟩⟩) ⟨fun H12 =>
 @qb0 (qbr [.slice none 0 0] [(0,1)] [v41]) ⟨fun cv78=>@letH (H12++[.cells cv78 31 none false]) ⟨fun H13 =>
 @qbn (xact (.app 31 1 24) H13 [rows7,(.slice (some ⟨H12.length,0,none⟩) 1 1)]) ⟨fun v79 H14 =>
 @qbb (xbin .add 0 i8 (nv 1)) ⟨fun v39 =>
 K1 v79 v39 H14⟩⟩⟩⟩⟩⟩⟩⟩⟩ else
 @cG 62 [v16] H6 ⟨fun v83 H15 =>
 @cG 61 [v83,v21,rows7] H15 ⟨fun v86 H16 =>
 @qb0 (qbr [nv 0,nv 0,.slice none 0 0] [(0,1),(1,1),(2,1)] [v16,v21,v86]) ⟨fun v87 =>
 @qbn (xact (.st 3) H16 [H1,(.agg v87.toArray)]) ⟨fun _v H17 =>
 @qbb (qbd (some 3) H17 [H1]) ⟨fun r0=>R r0 H17⟩⟩⟩⟩⟩⟩⟩⟩⟩⟩⟩⟩⟩⟩⟩⟩⟩⟩⟩⟩⟩⟩⟩⟩⟩⟩⟩⟩⟩⟩⟩⟩⟩⟩⟩⟩
theorem g12_of {x0:Value} {H:AH} {R:Value→AH→Prop} (h:g12 x0 H R):FN Tryz.prog 12 [x0] H R:=
  FN.of_XM (ms:=[(7,[7,8]),(14,[10]),(17,[]),(19,[])]) qbt (cast (by kernel_rfl) h)
def g13 (n0 l1:Value) (H:AH) (R:Value→AH→Prop):Prop:=
 @qb0 (qbr [] [] []) ⟨fun cv8=>@letH (H++[.cells cv8 3 none false]) ⟨fun H1 =>
 @loopV2 (.slice (some ⟨H.length,0,none⟩) 0 0) (nv 0) H1 ⟨fun out5 i6 H2 K1 =>
 @qbb (xbin .lss 0 i6 n0) ⟨fun v11 =>
 @qbv v11 ⟨fun q=>if q=true then @cG 63 [l1,i6] H2 ⟨fun v16 H3 =>
 @qbb (xbin .add 0 i6 (nv 1)) ⟨fun v18 =>
 @qbb (xbin .rem 0 v16 v18) ⟨fun v19 =>
 @qb0 (qbr [] [] []) ⟨fun cv20=>@letH (H3++[.cells cv20 3 none false]) ⟨fun H4 =>
 @qbb (qbc (.slS 1 false true) [out5,v19]) ⟨fun v23 =>
 @qb0 (qbr [nv 0] [(0,1)] [i6]) ⟨fun cv26=>@letH (H4++[.cells cv26 3 none false]) ⟨fun H5 =>
 @qbb (qbc (.slS 1 true false) [out5,v19]) ⟨fun v30 =>
 @qbn (xact (.app 3 1 8) H5 [(.slice (some ⟨H3.length,0,none⟩) 0 0),v23]) ⟨fun v24 H6 =>
 @qbn (xact (.app 3 1 8) H6 [v24,(.slice (some ⟨H4.length,0,none⟩) 1 1)]) ⟨fun v27 H7 =>
 @qbn (xact (.app 3 1 8) H7 [v27,v30]) ⟨fun v31 H8 =>
 @qbb (xbin .add 0 i6 (nv 1)) ⟨fun v13 =>
 K1 v31 v13 H8⟩⟩⟩⟩⟩⟩⟩⟩⟩⟩⟩⟩⟩ else
 R out5 H2⟩⟩⟩⟩⟩
theorem g13_of {n0 l1:Value} {H:AH} {R:Value→AH→Prop} (h:g13 n0 l1 H R):FN Tryz.prog 13 [n0,l1] H R:=
  FN.of_XM (ms:=[(4,[5,6])]) qbt (cast (by kernel_rfl) h)
def g14 (z0:Value) (H:AH) (R:Value→AH→Prop):Prop:=
 @letH (H++[.cells (qbq z0) 25 none false]) ⟨fun H1 =>
 @qb0 (qbr [] [] []) ⟨fun cv5=>@letH (H1++[.cells cv5 5 none false]) ⟨fun H2 =>
 @loopV2 (.slice (some ⟨H1.length,0,none⟩) 0 0) (nv 0) H2 ⟨fun l3 i4 H3 K1 =>
 @qbb (xbin .lss 0 i4 (nv 6)) ⟨fun v7 =>
 @qbv v7 ⟨fun q=>if q=true then @qbb (qbc (.ixA 6 1) [H,i4]) ⟨fun v12 =>
 @qbb (qbd none H3 [v12]) ⟨fun v13 =>
 @qb0 (qbr [(.int .u8 0)] [(0,1)] [v13]) ⟨fun cv14=>@letH (H3++[.cells cv14 5 none false]) ⟨fun H4 =>
 @qbn (xact (.app 5 1 1) H4 [l3,(.slice (some ⟨H3.length,0,none⟩) 1 1)]) ⟨fun v15 H5 =>
 @qbb (xbin .add 0 i4 (nv 1)) ⟨fun v9 =>
 K1 v15 v9 H5⟩⟩⟩⟩⟩⟩ else
 R l3 H3⟩⟩⟩⟩⟩⟩
theorem g14_of {z0:Value} {H:AH} {R:Value→AH→Prop} (h:g14 z0 H R):FN Tryz.prog 14 [z0] H R:=
  FN.of_XM (ms:=[(4,[3,4])]) qbt (cast (by kernel_rfl) h)
def g15 (a0 b1:Value) (H:AH) (R:Value→AH→Prop):Prop:=
 @letH (H++[.cells (qbq a0) 37 none false]) ⟨fun H1 =>
 @letH (H1++[.cells (qbq b1) 37 none false]) ⟨fun H2 =>
 @qbb (qbc (.fld 3) [H]) ⟨fun v5 =>
 @qbb (qbd none H2 [v5]) ⟨fun v6 =>
 @qbb (qbc (.fld 3) [H1]) ⟨fun v7 =>
 @qbb (qbd none H2 [v7]) ⟨fun v8 =>
 @qbb (xbin .eql 0 v6 v8) ⟨fun v9 =>
 @qbf (asB v9) (fun J1=>@qbb (qbc (.fld 0) [H]) ⟨fun v11 =>
 J1 v11 H2⟩) H2 ⟨fun v11a H3 =>
 @qbf (asB v9) (fun J2=>@qbb (qbd (some 3) H3 [v11a]) ⟨fun v12 =>
 J2 v12 H3⟩) H3 ⟨fun v12a H4 =>
 @qbf (asB v9) (fun J3=>@qbb (qbc (.fld 0) [H1]) ⟨fun v13 =>
 J3 v13 H4⟩) H4 ⟨fun v13a H5 =>
 @qbf (asB v9) (fun J4=>@qbb (qbd (some 3) H5 [v13a]) ⟨fun v14 =>
 J4 v14 H5⟩) H5 ⟨fun v14a H6 =>
 @qbf (asB v9) (fun J5=>@cG 64 [v12a,v14a] H6 ⟨fun v15 H7 =>
 J5 v15 H7⟩) H6 ⟨fun v15a H8 =>
 @qcs v9 v15a (.bool false) ⟨fun v16 =>
 R v16 H8⟩⟩⟩⟩⟩⟩⟩⟩⟩⟩⟩⟩⟩
theorem g15_of {a0 b1:Value} {H:AH} {R:Value→AH→Prop} (h:g15 a0 b1 H R):FN Tryz.prog 15 [a0,b1] H R:=
  FN.of_XM (ms:=[]) qbt (cast (by kernel_rfl) h)
def g16 (c0:Value) (H:AH) (R:Value→AH→Prop):Prop:=
 @letH (H++[.cells (qbq c0) 29 none false]) ⟨fun H1 =>
 @letH (H1++[.cells [nv 0,nv 0,.slice none 0 0,nv 0] 37 none false]) ⟨fun H2 =>
 @qbb (qbd (some 3) H2 [H]) ⟨fun v6 =>
 @cG 65 [v6] H2 ⟨fun v7 H3 =>
 @qbb (qbc (.ext 0) [v7]) ⟨fun v8 =>
 @qbb (qbc (.ext 1) [v7]) ⟨fun v9 =>
 @letH (H3++[.cells [nv 0,nv 0,.slice none 0 0] 29 none false]) ⟨fun H4 =>
 @qbn (xact (.st 3) H4 [H3,v8]) ⟨fun _v H5 =>
 @qbb (qbd (some 3) H5 [H3]) ⟨fun v10 =>
 @qb0 (qbr [nv 0,nv 0,.slice none 0 0,nv 0] [(0,3),(3,1)] [v10,v9]) ⟨fun v12 =>
 @qbn (xact (.st 4) H5 [H1,(.agg v12.toArray)]) ⟨fun _v H6 =>
 @qbb (qbd (some 4) H6 [H1]) ⟨fun r0=>R r0 H6⟩⟩⟩⟩⟩⟩⟩⟩⟩⟩⟩⟩
theorem g16_of {c0:Value} {H:AH} {R:Value→AH→Prop} (h:g16 c0 H R):FN Tryz.prog 16 [c0] H R:=
  FN.of_XM (ms:=[]) qbt (cast (by kernel_rfl) h)
def g17 (c0:Value) (H:AH) (R:Value→AH→Prop):Prop:=
 @letH (H++[.cells (qbq c0) 29 none false]) ⟨fun H1 =>
 @letH (H1++[.cells [nv 0,nv 0,.slice none 0 0,nv 0] 37 none false]) ⟨fun H2 =>
 @qbb (qbc (.fld 1) [H]) ⟨fun v5 =>
 @qbb (qbd none H2 [v5]) ⟨fun v6 =>
 @qbb (xbin .geq 0 v6 (nv 24)) ⟨fun v7 =>
 @qbv v7 ⟨fun q=>if q=true then @qb0 (qbr [nv 0,nv 0,.slice none 0 0,nv 0] [(3,1)] [nv 2]) ⟨fun v8 =>
 @qbn (xact (.st 4) H2 [H1,(.agg v8.toArray)]) ⟨fun _v H3 =>
 @qbb (qbd (some 4) H3 [H1]) ⟨fun r0=>R r0 H3⟩⟩⟩ else
 @qb0 (qbr [] [] []) ⟨fun cv9=>@letH (H2++[.cells cv9 31 none false]) ⟨fun H4 =>
 @loopV2 (.slice (some ⟨H2.length,0,none⟩) 0 0) (nv 0) H4 ⟨fun rows3 i4 H5 K1 =>
 @qbb (qbc (.fld 2) [H]) ⟨fun v11 =>
 @qbb (qbd none H5 [v11]) ⟨fun v12 =>
 @qbb (qbc .lenS [v12]) ⟨fun v13 =>
 @qbb (xbin .lss 0 i4 v13) ⟨fun v14 =>
 @qbv v14 ⟨fun q=>if q=true then @qbb (qbc (.fld 0) [H]) ⟨fun v18 =>
 @qbb (qbd none H5 [v18]) ⟨fun v19 =>
 @qbb (qbc (.fld 2) [H]) ⟨fun v21 =>
 @qbb (qbd none H5 [v21]) ⟨fun v22 =>
 @qbb (qbc (.ixS 1) [v22,i4]) ⟨fun v24 =>
 @qbb (qbd none H5 [v24]) ⟨fun v25 =>
 @cG 62 [v19] H5 ⟨fun v20 H6 =>
 (chkX [8,5] (⟨8,none,[v24],v25⟩ :: (⟨5,none,[v21],v22⟩ :: [])) H6∧@cG 66 [v20,v25] H6 ⟨fun v26 H7 =>
 @qb0 (qbr [.slice none 0 0] [(0,1)] [v26]) ⟨fun cv27=>@letH (H7++[.cells cv27 31 none false]) ⟨fun H8 =>
 @qbn (xact (.app 31 1 24) H8 [rows3,(.slice (some ⟨H7.length,0,none⟩) 1 1)]) ⟨fun v28 H9 =>
 @qbb (xbin .add 0 i4 (nv 1)) ⟨fun v16 =>
 K1 v28 v16 H9⟩⟩⟩⟩⟩)⟩⟩⟩⟩⟩⟩⟩ else
 @qbb (qbc (.fld 0) [H]) ⟨fun v29 =>
 @qbb (qbd none H5 [v29]) ⟨fun v30 =>
 @qbb (qbc (.fld 1) [H]) ⟨fun v31 =>
 @qbb (qbd none H5 [v31]) ⟨fun v32 =>
 @qbb (xbin .add 0 v32 (nv 1)) ⟨fun v33 =>
 @cG 67 [v30,v33,rows3] H5 ⟨fun v35 H10 =>
 @qbn (xact (.st 4) H10 [H1,v35]) ⟨fun _v H11 =>
 @qbb (qbd (some 4) H11 [H1]) ⟨fun r0=>R r0 H11⟩⟩⟩⟩⟩⟩⟩⟩⟩⟩⟩⟩⟩⟩⟩⟩⟩⟩⟩⟩⟩⟩
theorem g17_of {c0:Value} {H:AH} {R:Value→AH→Prop} (h:g17 c0 H R):FN Tryz.prog 17 [c0] H R:=
  FN.of_XM (ms:=[(7,[3,4])]) qbt (cast (by kernel_rfl) h)
def g18 (c0 i1:Value) (H:AH) (R:Value→AH→Prop):Prop:=
 @letH (H++[.cells (qbq c0) 29 none false]) ⟨fun H1 =>
 @letH (H1++[.cells [nv 0,nv 0,.slice none 0 0,nv 0] 37 none false]) ⟨fun H2 =>
 @qbb (qbd (some 3) H2 [H]) ⟨fun v8 =>
 @cG 68 [v8,i1] H2 ⟨fun v10 H3 =>
 @qbb (qbc (.ext 0) [v10]) ⟨fun v11 =>
 @qbb (qbc (.ext 1) [v10]) ⟨fun v12 =>
 @letH (H3++[.cells [nv 0,nv 0,.slice none 0 0] 29 none false]) ⟨fun H4 =>
 @qbn (xact (.st 3) H4 [H3,v11]) ⟨fun _v H5 =>
 @qbb (qbd (some 3) H5 [H3]) ⟨fun v13 =>
 @qb0 (qbr [nv 0,nv 0,.slice none 0 0,nv 0] [(0,3),(3,1)] [v13,v12]) ⟨fun v15 =>
 @qbn (xact (.st 4) H5 [H1,(.agg v15.toArray)]) ⟨fun _v H6 =>
 @qbb (qbd (some 4) H6 [H1]) ⟨fun r0=>R r0 H6⟩⟩⟩⟩⟩⟩⟩⟩⟩⟩⟩⟩
theorem g18_of {c0 i1:Value} {H:AH} {R:Value→AH→Prop} (h:g18 c0 i1 H R):FN Tryz.prog 18 [c0,i1] H R:=
  FN.of_XM (ms:=[]) qbt (cast (by kernel_rfl) h)
def g19 (c0 i1:Value) (H:AH) (R:Value→AH→Prop):Prop:=
 @letH (H++[.cells (qbq c0) 29 none false]) ⟨fun H1 =>
 @letH (H1++[.cells [nv 0,nv 0,.slice none 0 0,nv 0] 37 none false]) ⟨fun H2 =>
 @qbb (xbin .lss 0 i1 (nv 0)) ⟨fun v8 =>
 @qbf (asNB v8) (fun J1=>J1 i1 H2) H2 ⟨fun v10 H3 =>
 @qbf (asNB v8) (fun J2=>@qbb (qbc (.fld 1) [H]) ⟨fun v11 =>
 J2 v11 H3⟩) H3 ⟨fun v11a H4 =>
 @qbf (asNB v8) (fun J3=>@qbb (qbd none H4 [v11a]) ⟨fun v12 =>
 J3 v12 H4⟩) H4 ⟨fun v12a H5 =>
 @qbf (asNB v8) (fun J4=>@qbb (xbin .geq 0 v10 v12a) ⟨fun v13 =>
 J4 v13 H5⟩) H5 ⟨fun v13a H6 =>
 @qcs v8 (.bool true) v13a ⟨fun v14 =>
 @qbf (asNB v14) (fun J5=>@qbb (qbc (.fld 1) [H]) ⟨fun v16 =>
 J5 v16 H6⟩) H6 ⟨fun v16a H7 =>
 @qbf (asNB v14) (fun J6=>@qbb (qbd none H7 [v16a]) ⟨fun v17 =>
 J6 v17 H7⟩) H7 ⟨fun v17a H8 =>
 @qbf (asNB v14) (fun J7=>@qbb (xbin .lss 0 v17a (nv 2)) ⟨fun v18 =>
 J7 v18 H8⟩) H8 ⟨fun v18a H9 =>
 @qcs v14 (.bool true) v18a ⟨fun v19 =>
 @qbv v19 ⟨fun q=>if q=true then @qb0 (qbr [nv 0,nv 0,.slice none 0 0,nv 0] [(3,1)] [nv 1]) ⟨fun v20 =>
 @qbn (xact (.st 4) H9 [H1,(.agg v20.toArray)]) ⟨fun _v H10 =>
 @qbb (qbd (some 4) H10 [H1]) ⟨fun r0=>R r0 H10⟩⟩⟩ else
 @qb0 (qbr [] [] []) ⟨fun cv21=>@letH (H9++[.cells cv21 31 none false]) ⟨fun H11 =>
 @loopV2 (.slice (some ⟨H9.length,0,none⟩) 0 0) (nv 0) H11 ⟨fun rows5 k6 H12 K8 =>
 @qbb (qbc (.fld 2) [H]) ⟨fun v23 =>
 @qbb (qbd none H12 [v23]) ⟨fun v24 =>
 @qbb (qbc .lenS [v24]) ⟨fun v25 =>
 @qbb (xbin .lss 0 k6 v25) ⟨fun v26 =>
 @qbv v26 ⟨fun q=>if q=true then @qbb (qbc (.fld 2) [H]) ⟨fun v30 =>
 @qbb (qbd none H12 [v30]) ⟨fun v31 =>
 @qbb (qbc (.ixS 1) [v31,k6]) ⟨fun v33 =>
 @qbb (qbd none H12 [v33]) ⟨fun v34 =>
 @cG 69 [v34,i1] H12 ⟨fun v36 H13 =>
 @qb0 (qbr [.slice none 0 0] [(0,1)] [v36]) ⟨fun cv37=>@letH (H13++[.cells cv37 31 none false]) ⟨fun H14 =>
 @qbn (xact (.app 31 1 24) H14 [rows5,(.slice (some ⟨H13.length,0,none⟩) 1 1)]) ⟨fun v38 H15 =>
 @qbb (xbin .add 0 k6 (nv 1)) ⟨fun v28 =>
 K8 v38 v28 H15⟩⟩⟩⟩⟩⟩⟩⟩⟩ else
 @qbb (qbc (.fld 0) [H]) ⟨fun v39 =>
 @qbb (qbd none H12 [v39]) ⟨fun v40 =>
 @qbb (qbc (.fld 1) [H]) ⟨fun v41 =>
 @qbb (qbd none H12 [v41]) ⟨fun v42 =>
 @qbb (xbin .sub 0 v42 (nv 1)) ⟨fun v43 =>
 @cG 67 [v40,v43,rows5] H12 ⟨fun v45 H16 =>
 @qbn (xact (.st 4) H16 [H1,v45]) ⟨fun _v H17 =>
 @qbb (qbd (some 4) H17 [H1]) ⟨fun r0=>R r0 H17⟩⟩⟩⟩⟩⟩⟩⟩⟩⟩⟩⟩⟩⟩⟩⟩⟩⟩⟩⟩⟩⟩⟩⟩⟩⟩⟩⟩⟩
theorem g19_of {c0 i1:Value} {H:AH} {R:Value→AH→Prop} (h:g19 c0 i1 H R):FN Tryz.prog 19 [c0,i1] H R:=
  FN.of_XM (ms:=[(7,[5,6])]) qbt (cast (by kernel_rfl) h)
def g20 (c0 i1:Value) (H:AH) (R:Value→AH→Prop):Prop:=
 @letH (H++[.cells (qbq c0) 29 none false]) ⟨fun H1 =>
 @letH (H1++[.cells [nv 0,nv 0,.slice none 0 0,nv 0] 37 none false]) ⟨fun H2 =>
 @qbb (qbd (some 3) H2 [H]) ⟨fun v8 =>
 @cG 70 [v8,i1] H2 ⟨fun v10 H3 =>
 @qbb (qbc (.ext 0) [v10]) ⟨fun v11 =>
 @qbb (qbc (.ext 1) [v10]) ⟨fun v12 =>
 @letH (H3++[.cells [nv 0,nv 0,.slice none 0 0] 29 none false]) ⟨fun H4 =>
 @qbn (xact (.st 3) H4 [H3,v11]) ⟨fun _v H5 =>
 @qbb (qbd (some 3) H5 [H3]) ⟨fun v13 =>
 @qb0 (qbr [nv 0,nv 0,.slice none 0 0,nv 0] [(0,3),(3,1)] [v13,v12]) ⟨fun v15 =>
 @qbn (xact (.st 4) H5 [H1,(.agg v15.toArray)]) ⟨fun _v H6 =>
 @qbb (qbd (some 4) H6 [H1]) ⟨fun r0=>R r0 H6⟩⟩⟩⟩⟩⟩⟩⟩⟩⟩⟩⟩
theorem g20_of {c0 i1:Value} {H:AH} {R:Value→AH→Prop} (h:g20 c0 i1 H R):FN Tryz.prog 20 [c0,i1] H R:=
  FN.of_XM (ms:=[]) qbt (cast (by kernel_rfl) h)
def g21 (c0 i1:Value) (H:AH) (R:Value→AH→Prop):Prop:=
 @letH (H++[.cells (qbq c0) 29 none false]) ⟨fun H1 =>
 @letH (H1++[.cells [nv 0,nv 0,.slice none 0 0,nv 0] 37 none false]) ⟨fun H2 =>
 @qbb (qbd (some 3) H2 [H]) ⟨fun v6 =>
 @cG 34 [v6] H2 ⟨fun v7 H3 =>
 @cG 19 [v7,i1] H3 ⟨fun v9 H4 =>
 @letH (H4++[.cells [nv 0,nv 0,.slice none 0 0,nv 0] 37 none false]) ⟨fun H5 =>
 @qbn (xact (.st 4) H5 [H4,v9]) ⟨fun _v H6 =>
 @qbb (qbc (.fld 3) [H4]) ⟨fun v10 =>
 @qbb (qbd none H6 [v10]) ⟨fun v11 =>
 @qbb (xbin .neq 0 v11 (nv 0)) ⟨fun v12 =>
 @qbv v12 ⟨fun q=>if q=true then @qbb (qbd (some 4) H6 [H4]) ⟨fun v13 =>
 @qbn (xact (.st 4) H6 [H1,v13]) ⟨fun _v H7 =>
 @qbb (qbd (some 4) H7 [H1]) ⟨fun r0=>R r0 H7⟩⟩⟩ else
 @qbb (qbc (.fld 0) [H4]) ⟨fun v14 =>
 @qbb (qbd (some 3) H6 [v14]) ⟨fun v15 =>
 @cG 34 [v15] H6 ⟨fun v16 H8 =>
 @qb0 (qbr [nv 0,nv 0,.slice none 0 0,nv 0] [(0,3)] [v16]) ⟨fun v17 =>
 @qbn (xact (.st 4) H8 [H1,(.agg v17.toArray)]) ⟨fun _v H9 =>
 @qbb (qbd (some 4) H9 [H1]) ⟨fun r0=>R r0 H9⟩⟩⟩⟩⟩⟩⟩⟩⟩⟩⟩⟩⟩⟩⟩⟩⟩
theorem g21_of {c0 i1:Value} {H:AH} {R:Value→AH→Prop} (h:g21 c0 i1 H R):FN Tryz.prog 21 [c0,i1] H R:=
  FN.of_XM (ms:=[]) qbt (cast (by kernel_rfl) h)
def g22 (a0 b1:Value) (H:AH) (R:Value→AH→Prop):Prop:=
 @letH (H++[.cells (qbq a0) 29 none false]) ⟨fun H1 =>
 @letH (H1++[.cells (qbq b1) 29 none false]) ⟨fun H2 =>
 @letH (H2++[.cells [nv 0,nv 0,.slice none 0 0,nv 0] 37 none false]) ⟨fun H3 =>
 @qbb (qbd (some 3) H3 [H]) ⟨fun v8 =>
 @qbb (qbd (some 3) H3 [H1]) ⟨fun v9 =>
 @cG 71 [v8,v9] H3 ⟨fun v10 H4 =>
 @qbb (qbc (.ext 0) [v10]) ⟨fun v11 =>
 @qbb (qbc (.ext 1) [v10]) ⟨fun v12 =>
 @letH (H4++[.cells [nv 0,nv 0,.slice none 0 0] 29 none false]) ⟨fun H5 =>
 @qbn (xact (.st 3) H5 [H4,v11]) ⟨fun _v H6 =>
 @qbb (qbd (some 3) H6 [H4]) ⟨fun v13 =>
 @qb0 (qbr [nv 0,nv 0,.slice none 0 0,nv 0] [(0,3),(3,1)] [v13,v12]) ⟨fun v15 =>
 @qbn (xact (.st 4) H6 [H2,(.agg v15.toArray)]) ⟨fun _v H7 =>
 @qbb (qbd (some 4) H7 [H2]) ⟨fun r0=>R r0 H7⟩⟩⟩⟩⟩⟩⟩⟩⟩⟩⟩⟩⟩⟩
theorem g22_of {a0 b1:Value} {H:AH} {R:Value→AH→Prop} (h:g22 a0 b1 H R):FN Tryz.prog 22 [a0,b1] H R:=
  FN.of_XM (ms:=[]) qbt (cast (by kernel_rfl) h)
def g23 (a0 b1:Value) (H:AH) (R:Value→AH→Prop):Prop:=
 @letH (H++[.cells (qbq a0) 29 none false]) ⟨fun H1 =>
 @letH (H1++[.cells (qbq b1) 29 none false]) ⟨fun H2 =>
 @letH (H2++[.cells [nv 0,nv 0,.slice none 0 0,nv 0] 37 none false]) ⟨fun H3 =>
 @qbb (qbc (.fld 0) [H]) ⟨fun v8 =>
 @qbb (qbd none H3 [v8]) ⟨fun v9 =>
 @qbb (qbc (.fld 0) [H1]) ⟨fun v10 =>
 @qbb (qbd none H3 [v10]) ⟨fun v11 =>
 @qbb (xbin .neq 0 v9 v11) ⟨fun v12 =>
 @qbv v12 ⟨fun q=>if q=true then @qb0 (qbr [nv 0,nv 0,.slice none 0 0,nv 0] [(3,1)] [nv 1]) ⟨fun v13 =>
 @qbn (xact (.st 4) H3 [H2,(.agg v13.toArray)]) ⟨fun _v H4 =>
 @qbb (qbd (some 4) H4 [H2]) ⟨fun r0=>R r0 H4⟩⟩⟩ else
 @qbb (qbc (.fld 1) [H]) ⟨fun v14 =>
 @qbb (qbd none H3 [v14]) ⟨fun v15 =>
 @qbb (qbc (.fld 1) [H1]) ⟨fun v16 =>
 @qbb (qbd none H3 [v16]) ⟨fun v17 =>
 @qbb (xbin .add 0 v15 v17) ⟨fun v18 =>
 @qbb (xbin .gtr 0 v18 (nv 24)) ⟨fun v19 =>
 @qbv v19 ⟨fun q=>if q=true then @qb0 (qbr [nv 0,nv 0,.slice none 0 0,nv 0] [(3,1)] [nv 2]) ⟨fun v20 =>
 @qbn (xact (.st 4) H3 [H2,(.agg v20.toArray)]) ⟨fun _v H5 =>
 @qbb (qbd (some 4) H5 [H2]) ⟨fun r0=>R r0 H5⟩⟩⟩ else
 @qb0 (qbr [] [] []) ⟨fun cv21=>@letH (H3++[.cells cv21 31 none false]) ⟨fun H6 =>
 @loopV2 (.slice (some ⟨H3.length,0,none⟩) 0 0) (nv 0) H6 ⟨fun rows5 i6 H7 K1 =>
 @qbb (qbc (.fld 2) [H]) ⟨fun v23 =>
 @qbb (qbd none H7 [v23]) ⟨fun v24 =>
 @qbb (qbc .lenS [v24]) ⟨fun v25 =>
 @qbb (xbin .lss 0 i6 v25) ⟨fun v26 =>
 @qbv v26 ⟨fun q=>if q=true then @qb0 (qbr [] [] []) ⟨fun cv30=>@letH (H7++[.cells cv30 3 none false]) ⟨fun H8 =>
 @qbb (qbc (.fld 2) [H]) ⟨fun v31 =>
 @qbb (qbd none H8 [v31]) ⟨fun v32 =>
 @qbb (qbc (.ixS 1) [v32,i6]) ⟨fun v34 =>
 @qbb (qbd none H8 [v34]) ⟨fun v35 =>
 @qbb (qbc (.fld 1) [H1]) ⟨fun v37 =>
 @qbb (qbd none H8 [v37]) ⟨fun v38 =>
 @qbn (xact (.app 3 1 8) H8 [(.slice (some ⟨H7.length,0,none⟩) 0 0),v35]) ⟨fun v36 H9 =>
 (chkX [9] (⟨9,none,[v37],v38⟩ :: []) H9∧@cG 60 [v38] H9 ⟨fun v39 H10 =>
 @qbn (xact (.app 3 1 8) H10 [v36,v39]) ⟨fun v40 H11 =>
 @qb0 (qbr [.slice none 0 0] [(0,1)] [v40]) ⟨fun cv41=>@letH (H11++[.cells cv41 31 none false]) ⟨fun H12 =>
 @qbn (xact (.app 31 1 24) H12 [rows5,(.slice (some ⟨H11.length,0,none⟩) 1 1)]) ⟨fun v42 H13 =>
 @qbb (xbin .add 0 i6 (nv 1)) ⟨fun v28 =>
 K1 v42 v28 H13⟩⟩⟩⟩⟩⟩)⟩⟩⟩⟩⟩⟩⟩⟩⟩ else
 @loopV2 rows5 (nv 0) H7 ⟨fun rows5a i7 H14 K2 =>
 @qbb (qbc (.fld 2) [H1]) ⟨fun v44 =>
 @qbb (qbd none H14 [v44]) ⟨fun v45 =>
 @qbb (qbc .lenS [v45]) ⟨fun v46 =>
 @qbb (xbin .lss 0 i7 v46) ⟨fun v47 =>
 @qbv v47 ⟨fun q=>if q=true then @qbb (qbc (.fld 1) [H]) ⟨fun v51 =>
 @qbb (qbd none H14 [v51]) ⟨fun v52 =>
 @qbb (qbc (.fld 2) [H1]) ⟨fun v54 =>
 @qbb (qbd none H14 [v54]) ⟨fun v55 =>
 @qbb (qbc (.ixS 1) [v55,i7]) ⟨fun v57 =>
 @qbb (qbd none H14 [v57]) ⟨fun v58 =>
 @cG 60 [v52] H14 ⟨fun v53 H15 =>
 (chkX [8,5] (⟨8,none,[v57],v58⟩ :: (⟨5,none,[v54],v55⟩ :: [])) H15∧@qbn (xact (.app 3 1 8) H15 [v53,v58]) ⟨fun v59 H16 =>
 @qb0 (qbr [.slice none 0 0] [(0,1)] [v59]) ⟨fun cv60=>@letH (H16++[.cells cv60 31 none false]) ⟨fun H17 =>
 @qbn (xact (.app 31 1 24) H17 [rows5a,(.slice (some ⟨H16.length,0,none⟩) 1 1)]) ⟨fun v61 H18 =>
 @qbb (xbin .add 0 i7 (nv 1)) ⟨fun v49 =>
 K2 v61 v49 H18⟩⟩⟩⟩⟩)⟩⟩⟩⟩⟩⟩⟩ else
 @qbb (qbc (.fld 0) [H]) ⟨fun v62 =>
 @qbb (qbd none H14 [v62]) ⟨fun v63 =>
 @qbb (qbc (.fld 1) [H]) ⟨fun v64 =>
 @qbb (qbd none H14 [v64]) ⟨fun v65 =>
 @qbb (qbc (.fld 1) [H1]) ⟨fun v66 =>
 @qbb (qbd none H14 [v66]) ⟨fun v67 =>
 @qbb (xbin .add 0 v65 v67) ⟨fun v68 =>
 @cG 67 [v63,v68,rows5a] H14 ⟨fun v70 H19 =>
 @qbn (xact (.st 4) H19 [H2,v70]) ⟨fun _v H20 =>
 @qbb (qbd (some 4) H20 [H2]) ⟨fun r0=>R r0 H20⟩⟩⟩⟩⟩⟩⟩⟩⟩⟩⟩⟩⟩⟩⟩⟩⟩⟩⟩⟩⟩⟩⟩⟩⟩⟩⟩⟩⟩⟩⟩⟩⟩⟩⟩⟩⟩⟩⟩⟩
theorem g23_of {a0 b1:Value} {H:AH} {R:Value→AH→Prop} (h:g23 a0 b1 H R):FN Tryz.prog 23 [a0,b1] H R:=
  FN.of_XM (ms:=[(10,[5,6]),(16,[5,7])]) qbt (cast (by kernel_rfl) h)
def g24 (a0 b1:Value) (H:AH) (R:Value→AH→Prop):Prop:=
 @letH (H++[.cells (qbq a0) 29 none false]) ⟨fun H1 =>
 @letH (H1++[.cells (qbq b1) 29 none false]) ⟨fun H2 =>
 @letH (H2++[.cells [nv 0,nv 0,.slice none 0 0,nv 0] 37 none false]) ⟨fun H3 =>
 @qbb (qbd (some 3) H3 [H]) ⟨fun v8 =>
 @qbb (qbd (some 3) H3 [H1]) ⟨fun v9 =>
 @cG 72 [v8,v9] H3 ⟨fun v10 H4 =>
 @qbb (qbc (.ext 0) [v10]) ⟨fun v11 =>
 @qbb (qbc (.ext 1) [v10]) ⟨fun v12 =>
 @letH (H4++[.cells [nv 0,nv 0,.slice none 0 0] 29 none false]) ⟨fun H5 =>
 @qbn (xact (.st 3) H5 [H4,v11]) ⟨fun _v H6 =>
 @qbb (qbd (some 3) H6 [H4]) ⟨fun v13 =>
 @qb0 (qbr [nv 0,nv 0,.slice none 0 0,nv 0] [(0,3),(3,1)] [v13,v12]) ⟨fun v15 =>
 @qbn (xact (.st 4) H6 [H2,(.agg v15.toArray)]) ⟨fun _v H7 =>
 @qbb (qbd (some 4) H7 [H2]) ⟨fun r0=>R r0 H7⟩⟩⟩⟩⟩⟩⟩⟩⟩⟩⟩⟩⟩⟩
theorem g24_of {a0 b1:Value} {H:AH} {R:Value→AH→Prop} (h:g24 a0 b1 H R):FN Tryz.prog 24 [a0,b1] H R:=
  FN.of_XM (ms:=[]) qbt (cast (by kernel_rfl) h)
def g25 (a0 b1:Value) (H:AH) (R:Value→AH→Prop):Prop:=
 @letH (H++[.cells (qbq a0) 29 none false]) ⟨fun H1 =>
 @letH (H1++[.cells (qbq b1) 29 none false]) ⟨fun H2 =>
 @letH (H2++[.cells [nv 0,nv 0,.slice none 0 0,nv 0] 37 none false]) ⟨fun H3 =>
 @qbb (qbc (.fld 0) [H]) ⟨fun v8 =>
 @qbb (qbd none H3 [v8]) ⟨fun v9 =>
 @qbb (qbc (.fld 0) [H1]) ⟨fun v10 =>
 @qbb (qbd none H3 [v10]) ⟨fun v11 =>
 @qbb (xbin .neq 0 v9 v11) ⟨fun v12 =>
 @qbf (asNB v12) (fun J1=>@qbb (qbc (.fld 1) [H]) ⟨fun v14 =>
 J1 v14 H3⟩) H3 ⟨fun v14a H4 =>
 @qbf (asNB v12) (fun J2=>@qbb (qbd none H4 [v14a]) ⟨fun v15 =>
 J2 v15 H4⟩) H4 ⟨fun v15a H5 =>
 @qbf (asNB v12) (fun J3=>@qbb (qbc (.fld 1) [H1]) ⟨fun v16 =>
 J3 v16 H5⟩) H5 ⟨fun v16a H6 =>
 @qbf (asNB v12) (fun J4=>@qbb (qbd none H6 [v16a]) ⟨fun v17 =>
 J4 v17 H6⟩) H6 ⟨fun v17a H7 =>
 @qbf (asNB v12) (fun J5=>@qbb (xbin .neq 0 v15a v17a) ⟨fun v18 =>
 J5 v18 H7⟩) H7 ⟨fun v18a H8 =>
 @qcs v12 (.bool true) v18a ⟨fun v19 =>
 @qbv v19 ⟨fun q=>if q=true then @qb0 (qbr [nv 0,nv 0,.slice none 0 0,nv 0] [(3,1)] [nv 1]) ⟨fun v20 =>
 @qbn (xact (.st 4) H8 [H2,(.agg v20.toArray)]) ⟨fun _v H9 =>
 @qbb (qbd (some 4) H9 [H2]) ⟨fun r0=>R r0 H9⟩⟩⟩ else
 @qbb (qbc (.fld 1) [H]) ⟨fun v21 =>
 @qbb (qbd none H8 [v21]) ⟨fun v22 =>
 @qbb (xbin .mul 0 (nv 2) v22) ⟨fun v23 =>
 @qbb (xbin .gtr 0 v23 (nv 24)) ⟨fun v24 =>
 @qbv v24 ⟨fun q=>if q=true then @qb0 (qbr [nv 0,nv 0,.slice none 0 0,nv 0] [(3,1)] [nv 2]) ⟨fun v25 =>
 @qbn (xact (.st 4) H8 [H2,(.agg v25.toArray)]) ⟨fun _v H10 =>
 @qbb (qbd (some 4) H10 [H2]) ⟨fun r0=>R r0 H10⟩⟩⟩ else
 @qb0 (qbr [] [] []) ⟨fun cv26=>@letH (H8++[.cells cv26 31 none false]) ⟨fun H11 =>
 @loopV2 (.slice (some ⟨H8.length,0,none⟩) 0 0) (nv 0) H11 ⟨fun rows5 i6 H12 K6 =>
 @qbb (qbc (.fld 2) [H]) ⟨fun v28 =>
 @qbb (qbd none H12 [v28]) ⟨fun v29 =>
 @qbb (qbc .lenS [v29]) ⟨fun v30 =>
 @qbb (xbin .lss 0 i6 v30) ⟨fun v31 =>
 @qbv v31 ⟨fun q=>if q=true then @qb0 (qbr [] [] []) ⟨fun cv35=>@letH (H12++[.cells cv35 3 none false]) ⟨fun H13 =>
 @qbb (qbc (.fld 2) [H]) ⟨fun v36 =>
 @qbb (qbd none H13 [v36]) ⟨fun v37 =>
 @qbb (qbc (.ixS 1) [v37,i6]) ⟨fun v39 =>
 @qbb (qbd none H13 [v39]) ⟨fun v40 =>
 @qbb (qbc (.fld 2) [H]) ⟨fun v42 =>
 @qbb (qbd none H13 [v42]) ⟨fun v43 =>
 @qbb (qbc (.ixS 1) [v43,i6]) ⟨fun v45 =>
 @qbb (qbd none H13 [v45]) ⟨fun v46 =>
 @qbn (xact (.app 3 1 8) H13 [(.slice (some ⟨H12.length,0,none⟩) 0 0),v40]) ⟨fun v41 H14 =>
 (chkX [12,9] (⟨12,none,[v45],v46⟩ :: (⟨9,none,[v42],v43⟩ :: [])) H14∧@qbn (xact (.app 3 1 8) H14 [v41,v46]) ⟨fun v47 H15 =>
 @qb0 (qbr [.slice none 0 0] [(0,1)] [v47]) ⟨fun cv48=>@letH (H15++[.cells cv48 31 none false]) ⟨fun H16 =>
 @qbn (xact (.app 31 1 24) H16 [rows5,(.slice (some ⟨H15.length,0,none⟩) 1 1)]) ⟨fun v49 H17 =>
 @qbb (xbin .add 0 i6 (nv 1)) ⟨fun v33 =>
 K6 v49 v33 H17⟩⟩⟩⟩⟩)⟩⟩⟩⟩⟩⟩⟩⟩⟩⟩⟩ else
 @loopV2 rows5 (nv 0) H12 ⟨fun rows5a i7 H18 K7 =>
 @qbb (qbc (.fld 2) [H1]) ⟨fun v51 =>
 @qbb (qbd none H18 [v51]) ⟨fun v52 =>
 @qbb (qbc .lenS [v52]) ⟨fun v53 =>
 @qbb (xbin .lss 0 i7 v53) ⟨fun v54 =>
 @qbv v54 ⟨fun q=>if q=true then @qbb (qbc (.fld 1) [H]) ⟨fun v58 =>
 @qbb (qbd none H18 [v58]) ⟨fun v59 =>
 @qbb (qbc (.fld 2) [H1]) ⟨fun v61 =>
 @qbb (qbd none H18 [v61]) ⟨fun v62 =>
 @qbb (qbc (.ixS 1) [v62,i7]) ⟨fun v64 =>
 @qbb (qbd none H18 [v64]) ⟨fun v65 =>
 @cG 60 [v59] H18 ⟨fun v60 H19 =>
 (chkX [8,5] (⟨8,none,[v64],v65⟩ :: (⟨5,none,[v61],v62⟩ :: [])) H19∧@qbn (xact (.app 3 1 8) H19 [v60,v65]) ⟨fun v66 H20 =>
 @qb0 (qbr [.slice none 0 0] [(0,1)] [v66]) ⟨fun cv67=>@letH (H20++[.cells cv67 31 none false]) ⟨fun H21 =>
 @qbn (xact (.app 31 1 24) H21 [rows5a,(.slice (some ⟨H20.length,0,none⟩) 1 1)]) ⟨fun v68 H22 =>
 @qbb (xbin .add 0 i7 (nv 1)) ⟨fun v56 =>
 K7 v68 v56 H22⟩⟩⟩⟩⟩)⟩⟩⟩⟩⟩⟩⟩ else
 @qbb (qbc (.fld 0) [H]) ⟨fun v69 =>
 @qbb (qbd none H18 [v69]) ⟨fun v70 =>
 @qbb (qbc (.fld 1) [H]) ⟨fun v71 =>
 @qbb (qbd none H18 [v71]) ⟨fun v72 =>
 @qbb (xbin .mul 0 (nv 2) v72) ⟨fun v73 =>
 @cG 67 [v70,v73,rows5a] H18 ⟨fun v75 H23 =>
 @qbn (xact (.st 4) H23 [H2,v75]) ⟨fun _v H24 =>
 @qbb (qbd (some 4) H24 [H2]) ⟨fun r0=>R r0 H24⟩⟩⟩⟩⟩⟩⟩⟩⟩⟩⟩⟩⟩⟩⟩⟩⟩⟩⟩⟩⟩⟩⟩⟩⟩⟩⟩⟩⟩⟩⟩⟩⟩⟩⟩⟩⟩⟩⟩⟩⟩⟩
theorem g25_of {a0 b1:Value} {H:AH} {R:Value→AH→Prop} (h:g25 a0 b1 H R):FN Tryz.prog 25 [a0,b1] H R:=
  FN.of_XM (ms:=[(10,[5,6]),(16,[5,7])]) qbt (cast (by kernel_rfl) h)
def g26 (outer0 inner1:Value) (H:AH) (R:Value→AH→Prop):Prop:=
 @letH (H++[.cells (qbq outer0) 29 none false]) ⟨fun H1 =>
 @letH (H1++[.cells (qbq inner1) 29 none false]) ⟨fun H2 =>
 @letH (H2++[.cells [nv 0,nv 0,.slice none 0 0,nv 0] 37 none false]) ⟨fun H3 =>
 @qbb (qbd (some 3) H3 [H]) ⟨fun v8 =>
 @qbb (qbd (some 3) H3 [H1]) ⟨fun v9 =>
 @cG 73 [v8,v9] H3 ⟨fun v10 H4 =>
 @qbb (qbc (.ext 0) [v10]) ⟨fun v11 =>
 @qbb (qbc (.ext 1) [v10]) ⟨fun v12 =>
 @letH (H4++[.cells [nv 0,nv 0,.slice none 0 0] 29 none false]) ⟨fun H5 =>
 @qbn (xact (.st 3) H5 [H4,v11]) ⟨fun _v H6 =>
 @qbb (qbd (some 3) H6 [H4]) ⟨fun v13 =>
 @qb0 (qbr [nv 0,nv 0,.slice none 0 0,nv 0] [(0,3),(3,1)] [v13,v12]) ⟨fun v15 =>
 @qbn (xact (.st 4) H6 [H2,(.agg v15.toArray)]) ⟨fun _v H7 =>
 @qbb (qbd (some 4) H7 [H2]) ⟨fun r0=>R r0 H7⟩⟩⟩⟩⟩⟩⟩⟩⟩⟩⟩⟩⟩⟩
theorem g26_of {outer0 inner1:Value} {H:AH} {R:Value→AH→Prop} (h:g26 outer0 inner1 H R):FN Tryz.prog 26 [outer0,inner1] H R:=
  FN.of_XM (ms:=[]) qbt (cast (by kernel_rfl) h)
def g27 (outer0 inner1:Value) (H:AH) (R:Value→AH→Prop):Prop:=
 @letH (H++[.cells (qbq outer0) 29 none false]) ⟨fun H1 =>
 @letH (H1++[.cells (qbq inner1) 29 none false]) ⟨fun H2 =>
 @letH (H2++[.cells [nv 0,nv 0,.slice none 0 0,nv 0] 37 none false]) ⟨fun H3 =>
 @qbb (qbc (.fld 0) [H]) ⟨fun v8 =>
 @qbb (qbd none H3 [v8]) ⟨fun v9 =>
 @qbb (xbin .neq 0 v9 (nv 4)) ⟨fun v10 =>
 @qbf (asNB v10) (fun J1=>@qbb (qbc (.fld 0) [H1]) ⟨fun v12 =>
 J1 v12 H3⟩) H3 ⟨fun v12a H4 =>
 @qbf (asNB v10) (fun J2=>@qbb (qbd none H4 [v12a]) ⟨fun v13 =>
 J2 v13 H4⟩) H4 ⟨fun v13a H5 =>
 @qbf (asNB v10) (fun J3=>@qbb (xbin .neq 0 v13a (nv 2)) ⟨fun v14 =>
 J3 v14 H5⟩) H5 ⟨fun v14a H6 =>
 @qcs v10 (.bool true) v14a ⟨fun v15 =>
 @qbf (asNB v15) (fun J4=>@qbb (qbc (.fld 2) [H1]) ⟨fun v17 =>
 J4 v17 H6⟩) H6 ⟨fun v17a H7 =>
 @qbf (asNB v15) (fun J5=>@qbb (qbd none H7 [v17a]) ⟨fun v18 =>
 J5 v18 H7⟩) H7 ⟨fun v18a H8 =>
 @qbf (asNB v15) (fun J6=>@qbb (qbc .lenS [v18a]) ⟨fun v19 =>
 J6 v19 H8⟩) H8 ⟨fun v19a H9 =>
 @qbf (asNB v15) (fun J7=>@qbb (xbin .neq 0 v19a (nv 2)) ⟨fun v20 =>
 J7 v20 H9⟩) H9 ⟨fun v20a H10 =>
 @qcs v15 (.bool true) v20a ⟨fun v21 =>
 @qbv v21 ⟨fun q=>if q=true then @qb0 (qbr [nv 0,nv 0,.slice none 0 0,nv 0] [(3,1)] [nv 1]) ⟨fun v22 =>
 @qbn (xact (.st 4) H10 [H2,(.agg v22.toArray)]) ⟨fun _v H11 =>
 @qbb (qbd (some 4) H11 [H2]) ⟨fun r0=>R r0 H11⟩⟩⟩ else
 @qbb (qbc (.fld 1) [H]) ⟨fun v23 =>
 @qbb (qbd none H10 [v23]) ⟨fun v24 =>
 @qbb (qbc (.fld 1) [H1]) ⟨fun v25 =>
 @qbb (qbd none H10 [v25]) ⟨fun v26 =>
 @qbb (xbin .mul 0 v24 v26) ⟨fun v27 =>
 @qbb (xbin .gtr 0 v27 (nv 24)) ⟨fun v28 =>
 @qbv v28 ⟨fun q=>if q=true then @qb0 (qbr [nv 0,nv 0,.slice none 0 0,nv 0] [(3,1)] [nv 2]) ⟨fun v29 =>
 @qbn (xact (.st 4) H10 [H2,(.agg v29.toArray)]) ⟨fun _v H12 =>
 @qbb (qbd (some 4) H12 [H2]) ⟨fun r0=>R r0 H12⟩⟩⟩ else
 @cG 62 [nv 4] H10 ⟨fun v30 H13 =>
 @letH (H13++[.cells [nv 0,nv 0,.slice none 0 0] 76 none false]) ⟨fun H14 =>
 @qbn (xact (.st 3) H14 [H13,v30]) ⟨fun _v H15 =>
 @qb0 (qbr [] [] []) ⟨fun cv31=>@letH (H15++[.cells cv31 31 none false]) ⟨fun H16 =>
 @loopV2 (.slice (some ⟨H15.length,0,none⟩) 0 0) (nv 0) H16 ⟨fun rows6 i7 H17 K8 =>
 @qbb (qbc (.fld 2) [H]) ⟨fun v33 =>
 @qbb (qbd none H17 [v33]) ⟨fun v34 =>
 @qbb (qbc .lenS [v34]) ⟨fun v35 =>
 @qbb (xbin .lss 0 i7 v35) ⟨fun v36 =>
 @qbv v36 ⟨fun q=>if q=true then @qbb (qbd (some 3) H17 [H1]) ⟨fun v40 =>
 @qbb (qbc (.fld 2) [H]) ⟨fun v41 =>
 @qbb (qbd none H17 [v41]) ⟨fun v42 =>
 @qbb (qbc (.ixS 1) [v42,i7]) ⟨fun v44 =>
 @qbb (qbd none H17 [v44]) ⟨fun v45 =>
 @qbb (qbd (some 3) H17 [H1]) ⟨fun v47 =>
 @qbb (qbd (some 3) H17 [H13]) ⟨fun v48 =>
 @qbb (qbc (.fld 2) [H]) ⟨fun v49 =>
 @qbb (qbd none H17 [v49]) ⟨fun v50 =>
 @qbb (qbc (.ixS 1) [v50,i7]) ⟨fun v52 =>
 @qbb (qbd none H17 [v52]) ⟨fun v53 =>
 @cG 43 [v40,v45] H17 ⟨fun v46 H18 =>
 (chkX [14,11,9,8] (⟨14,none,[v52],v53⟩ :: (⟨11,none,[v49],v50⟩ :: (⟨9,(some 3),[H13],v48⟩ :: (⟨8,(some 3),[H1],v47⟩ :: [])))) H18∧@cG 74 [v48,nv 2,v53] H18 ⟨fun v54 H19 =>
 (chkX [8] (⟨14,none,[v52],v53⟩ :: (⟨11,none,[v49],v50⟩ :: (⟨9,(some 3),[H13],v48⟩ :: (⟨8,(some 3),[H1],v47⟩ :: [])))) H19∧@cG 43 [v47,v54] H19 ⟨fun v55 H20 =>
 @qb0 (qbr [.slice none 0 0,.slice none 0 0] [(0,1),(1,1)] [v46,v55]) ⟨fun cv56=>@letH (H20++[.cells cv56 31 none false]) ⟨fun H21 =>
 @qbn (xact (.app 31 1 24) H21 [rows6,(.slice (some ⟨H20.length,0,none⟩) 2 2)]) ⟨fun v57 H22 =>
 @qbb (xbin .add 0 i7 (nv 1)) ⟨fun v38 =>
 K8 v57 v38 H22⟩⟩⟩⟩⟩)⟩)⟩⟩⟩⟩⟩⟩⟩⟩⟩⟩⟩⟩ else
 @qbb (qbc (.fld 1) [H]) ⟨fun v58 =>
 @qbb (qbd none H17 [v58]) ⟨fun v59 =>
 @qbb (qbc (.fld 1) [H1]) ⟨fun v60 =>
 @qbb (qbd none H17 [v60]) ⟨fun v61 =>
 @qbb (xbin .mul 0 v59 v61) ⟨fun v62 =>
 @cG 67 [nv 2,v62,rows6] H17 ⟨fun v64 H23 =>
 @qbn (xact (.st 4) H23 [H2,v64]) ⟨fun _v H24 =>
 @qbb (qbd (some 4) H24 [H2]) ⟨fun r0=>R r0 H24⟩⟩⟩⟩⟩⟩⟩⟩⟩⟩⟩⟩⟩⟩⟩⟩⟩⟩⟩⟩⟩⟩⟩⟩⟩⟩⟩⟩⟩⟩⟩⟩⟩⟩⟩⟩⟩⟩⟩⟩⟩⟩
theorem g27_of {outer0 inner1:Value} {H:AH} {R:Value→AH→Prop} (h:g27 outer0 inner1 H R):FN Tryz.prog 27 [outer0,inner1] H R:=
  FN.of_XM (ms:=[(11,[6,7])]) qbt (cast (by kernel_rfl) h)
def g28 (c0:Value) (H:AH) (R:Value→AH→Prop):Prop:=
 @letH (H++[.cells (qbq c0) 29 none false]) ⟨fun H1 =>
 @letH (H1++[.cells [nv 0,nv 0,.slice none 0 0,nv 0] 37 none false]) ⟨fun H2 =>
 @qbb (qbd (some 3) H2 [H]) ⟨fun v6 =>
 @cG 75 [v6] H2 ⟨fun v7 H3 =>
 @qbb (qbc (.ext 0) [v7]) ⟨fun v8 =>
 @qbb (qbc (.ext 1) [v7]) ⟨fun v9 =>
 @letH (H3++[.cells [nv 0,nv 0,.slice none 0 0] 29 none false]) ⟨fun H4 =>
 @qbn (xact (.st 3) H4 [H3,v8]) ⟨fun _v H5 =>
 @qbb (qbd (some 3) H5 [H3]) ⟨fun v10 =>
 @qb0 (qbr [nv 0,nv 0,.slice none 0 0,nv 0] [(0,3),(3,1)] [v10,v9]) ⟨fun v12 =>
 @qbn (xact (.st 4) H5 [H1,(.agg v12.toArray)]) ⟨fun _v H6 =>
 @qbb (qbd (some 4) H6 [H1]) ⟨fun r0=>R r0 H6⟩⟩⟩⟩⟩⟩⟩⟩⟩⟩⟩⟩
theorem g28_of {c0:Value} {H:AH} {R:Value→AH→Prop} (h:g28 c0 H R):FN Tryz.prog 28 [c0] H R:=
  FN.of_XM (ms:=[]) qbt (cast (by kernel_rfl) h)
def g29 (c0:Value) (H:AH) (R:Value→AH→Prop):Prop:=
 @letH (H++[.cells (qbq c0) 29 none false]) ⟨fun H1 =>
 @letH (H1++[.cells [nv 0,nv 0,.slice none 0 0,nv 0] 37 none false]) ⟨fun H2 =>
 @qbb (qbc (.fld 0) [H]) ⟨fun v4 =>
 @qbb (qbd none H2 [v4]) ⟨fun v5 =>
 @qbb (xbin .neq 0 v5 (nv 2)) ⟨fun v6 =>
 @qbv v6 ⟨fun q=>if q=true then @qb0 (qbr [nv 0,nv 0,.slice none 0 0,nv 0] [(3,1)] [nv 1]) ⟨fun v7 =>
 @qbn (xact (.st 4) H2 [H1,(.agg v7.toArray)]) ⟨fun _v H3 =>
 @qbb (qbd (some 4) H3 [H1]) ⟨fun r0=>R r0 H3⟩⟩⟩ else
 @qbb (qbc (.fld 1) [H]) ⟨fun v8 =>
 @qbb (qbd none H2 [v8]) ⟨fun v9 =>
 @qb0 (qbr [] [] []) ⟨fun cv10=>@letH (H2++[.cells cv10 31 none false]) ⟨fun H4 =>
 @qbb (qbd (some 3) H4 [H]) ⟨fun v11 =>
 @qbb (qbc (.fld 1) [H]) ⟨fun v15 =>
 @qbb (qbd none H4 [v15]) ⟨fun v16 =>
 @letH (H4++[.cells [nv 0,nv 0,.slice none 0 0,nv 0] 37 none false]) ⟨fun H5 =>
 @cG 34 [v11] H5 ⟨fun v12 H6 =>
 (chkX [8,1] (⟨8,none,[v15],v16⟩ :: (⟨1,none,[v8],v9⟩ :: [])) H6∧@qbb (qbc (.prt none 2) [v12]) ⟨fun v13 =>
 @qbn (xact (.app 31 1 24) H6 [(.slice (some ⟨H2.length,0,none⟩) 0 0),v13]) ⟨fun v14 H7 =>
 (chkX [8,1] (⟨8,none,[v15],v16⟩ :: (⟨1,none,[v8],v9⟩ :: [])) H7∧@cG 49 [v16] H7 ⟨fun v17 H8 =>
 (chkX [1] (⟨8,none,[v15],v16⟩ :: (⟨1,none,[v8],v9⟩ :: [])) H8∧@qb0 (qbr [.slice none 0 0] [(0,1)] [v17]) ⟨fun cv18=>@letH (H8++[.cells cv18 31 none false]) ⟨fun H9 =>
 (chkX [1] (⟨8,none,[v15],v16⟩ :: (⟨1,none,[v8],v9⟩ :: [])) H9∧@qbn (xact (.app 31 1 24) H9 [v14,(.slice (some ⟨H8.length,0,none⟩) 1 1)]) ⟨fun v19 H10 =>
 (chkX [1] (⟨8,none,[v15],v16⟩ :: (⟨1,none,[v8],v9⟩ :: [])) H10∧@cG 67 [nv 2,v9,v19] H10 ⟨fun v20 H11 =>
 @qbn (xact (.st 4) H11 [H4,v20]) ⟨fun _v H12 =>
 @qbb (qbc (.fld 0) [H4]) ⟨fun v21 =>
 @qbb (qbd (some 3) H12 [v21]) ⟨fun v22 =>
 @cG 34 [v22] H12 ⟨fun v23 H13 =>
 @qb0 (qbr [nv 0,nv 0,.slice none 0 0,nv 0] [(0,3)] [v23]) ⟨fun v24 =>
 @qbn (xact (.st 4) H13 [H1,(.agg v24.toArray)]) ⟨fun _v H14 =>
 @qbb (qbd (some 4) H14 [H1]) ⟨fun r0=>R r0 H14⟩⟩⟩⟩⟩⟩⟩⟩)⟩)⟩⟩)⟩)⟩⟩)⟩⟩⟩⟩⟩⟩⟩⟩⟩⟩⟩⟩⟩⟩⟩
theorem g29_of {c0:Value} {H:AH} {R:Value→AH→Prop} (h:g29 c0 H R):FN Tryz.prog 29 [c0] H R:=
  FN.of_XM (ms:=[]) qbt (cast (by kernel_rfl) h)
def g30 (c0 g1:Value) (H:AH) (R:Value→AH→Prop):Prop:=
 @letH (H++[.cells (qbq c0) 29 none false]) ⟨fun H1 =>
 @letH (H1++[.cells [nv 0,nv 0,.slice none 0 0,nv 0] 37 none false]) ⟨fun H2 =>
 @qbb (qbd (some 3) H2 [H]) ⟨fun v8 =>
 @cG 76 [v8,g1] H2 ⟨fun v10 H3 =>
 @qbb (qbc (.ext 0) [v10]) ⟨fun v11 =>
 @qbb (qbc (.ext 1) [v10]) ⟨fun v12 =>
 @letH (H3++[.cells [nv 0,nv 0,.slice none 0 0] 29 none false]) ⟨fun H4 =>
 @qbn (xact (.st 3) H4 [H3,v11]) ⟨fun _v H5 =>
 @qbb (qbd (some 3) H5 [H3]) ⟨fun v13 =>
 @qb0 (qbr [nv 0,nv 0,.slice none 0 0,nv 0] [(0,3),(3,1)] [v13,v12]) ⟨fun v15 =>
 @qbn (xact (.st 4) H5 [H1,(.agg v15.toArray)]) ⟨fun _v H6 =>
 @qbb (qbd (some 4) H6 [H1]) ⟨fun r0=>R r0 H6⟩⟩⟩⟩⟩⟩⟩⟩⟩⟩⟩⟩
theorem g30_of {c0 g1:Value} {H:AH} {R:Value→AH→Prop} (h:g30 c0 g1 H R):FN Tryz.prog 30 [c0,g1] H R:=
  FN.of_XM (ms:=[]) qbt (cast (by kernel_rfl) h)
def g31 (c0 g1:Value) (H:AH) (R:Value→AH→Prop):Prop:=
 @letH (H++[.cells (qbq c0) 29 none false]) ⟨fun H1 =>
 @letH (H1++[.cells [nv 0,nv 0,.slice none 0 0,nv 0] 37 none false]) ⟨fun H2 =>
 @qbb (qbc (.fld 1) [H]) ⟨fun v8 =>
 @qbb (qbd none H2 [v8]) ⟨fun v9 =>
 @cG 77 [g1,v9] H2 ⟨fun v10 H3 =>
 @qbb (eun .not v10) ⟨fun v11 =>
 @qbv v11 ⟨fun q=>if q=true then @qb0 (qbr [nv 0,nv 0,.slice none 0 0,nv 0] [(3,1)] [nv 1]) ⟨fun v12 =>
 @qbn (xact (.st 4) H3 [H1,(.agg v12.toArray)]) ⟨fun _v H4 =>
 @qbb (qbd (some 4) H4 [H1]) ⟨fun r0=>R r0 H4⟩⟩⟩ else
 @qb0 (qbr [] [] []) ⟨fun cv13=>@letH (H3++[.cells cv13 31 none false]) ⟨fun H5 =>
 @loopV2 (.slice (some ⟨H3.length,0,none⟩) 0 0) (nv 0) H5 ⟨fun rows5 i6 H6 K1 =>
 @qbb (qbc (.fld 2) [H]) ⟨fun v15 =>
 @qbb (qbd none H6 [v15]) ⟨fun v16 =>
 @qbb (qbc .lenS [v16]) ⟨fun v17 =>
 @qbb (xbin .lss 0 i6 v17) ⟨fun v18 =>
 @qbv v18 ⟨fun q=>if q=true then @qbb (qbc (.fld 2) [H]) ⟨fun v22 =>
 @qbb (qbd none H6 [v22]) ⟨fun v23 =>
 @qbb (qbc (.ixS 1) [v23,i6]) ⟨fun v25 =>
 @qbb (qbd none H6 [v25]) ⟨fun v26 =>
 @cG 78 [v26,g1] H6 ⟨fun v28 H7 =>
 @qb0 (qbr [.slice none 0 0] [(0,1)] [v28]) ⟨fun cv29=>@letH (H7++[.cells cv29 31 none false]) ⟨fun H8 =>
 @qbn (xact (.app 31 1 24) H8 [rows5,(.slice (some ⟨H7.length,0,none⟩) 1 1)]) ⟨fun v30 H9 =>
 @qbb (xbin .add 0 i6 (nv 1)) ⟨fun v20 =>
 K1 v30 v20 H9⟩⟩⟩⟩⟩⟩⟩⟩⟩ else
 @qbb (qbc (.fld 0) [H]) ⟨fun v31 =>
 @qbb (qbd none H6 [v31]) ⟨fun v32 =>
 @qbb (qbc (.fld 1) [H]) ⟨fun v33 =>
 @qbb (qbd none H6 [v33]) ⟨fun v34 =>
 @cG 67 [v32,v34,rows5] H6 ⟨fun v36 H10 =>
 @qbn (xact (.st 4) H10 [H1,v36]) ⟨fun _v H11 =>
 @qbb (qbd (some 4) H11 [H1]) ⟨fun r0=>R r0 H11⟩⟩⟩⟩⟩⟩⟩⟩⟩⟩⟩⟩⟩⟩⟩⟩⟩⟩⟩⟩⟩⟩
theorem g31_of {c0 g1:Value} {H:AH} {R:Value→AH→Prop} (h:g31 c0 g1 H R):FN Tryz.prog 31 [c0,g1] H R:=
  FN.of_XM (ms:=[(7,[5,6])]) qbt (cast (by kernel_rfl) h)
def g32 (x0:Value) (H:AH) (R:Value→AH→Prop):Prop:=
 @letH (H++[.cells (qbq x0) 24 none false]) ⟨fun H1 =>
 @letH (H1++[.cells [nv 0,nv 0,.slice none 0 0] 29 none false]) ⟨fun H2 =>
 @qbb (qbc (.fld 0) [H]) ⟨fun v3 =>
 @qbn (xact (.st 1) H2 [v3,(.int .u8 2)]) ⟨fun _v H3 =>
 @qbb (qbc (.fld 1) [H]) ⟨fun v4 =>
 @qbb (qbd none H3 [v4]) ⟨fun v5 =>
 @qbb (xbin .rem 0 v5 (.int .u8 4)) ⟨fun v6 =>
 @qbb (qbc (.fld 1) [H]) ⟨fun v7 =>
 @qbn (xact (.st 1) H3 [v7,v6]) ⟨fun _v H4 =>
 @qbb (qbd (some 4) H4 [H]) ⟨fun v8 =>
 @cG 12 [v8] H4 ⟨fun v9 H5 =>
 @qbn (xact (.st 3) H5 [H1,v9]) ⟨fun _v H6 =>
 @qbb (qbd (some 3) H6 [H1]) ⟨fun r0=>R r0 H6⟩⟩⟩⟩⟩⟩⟩⟩⟩⟩⟩⟩⟩
theorem g32_of {x0:Value} {H:AH} {R:Value→AH→Prop} (h:g32 x0 H R):FN Tryz.prog 32 [x0] H R:=
  FN.of_XM (ms:=[]) qbt (cast (by kernel_rfl) h)
def g33 (x0:Value) (H:AH) (R:Value→AH→Prop):Prop:=
 @letH (H++[.cells (qbq x0) 24 none false]) ⟨fun H1 =>
 @letH (H1++[.cells [nv 0,nv 0,.slice none 0 0] 29 none false]) ⟨fun H2 =>
 @qbb (qbc (.fld 1) [H]) ⟨fun v7 =>
 @qbb (qbd none H2 [v7]) ⟨fun v8 =>
 @qbb (qbc (.conv .i64) [v8]) ⟨fun v9 =>
 @qbb (xbin .rem 0 v9 (nv 4)) ⟨fun v10 =>
 @qbb (xbin .add 0 (nv 2) v10) ⟨fun v11 =>
 @qbb (qbc (.fld 3) [H]) ⟨fun v13 =>
 @qbb (qbd none H2 [v13]) ⟨fun v14 =>
 @cG 79 [nv 2,v11,v14] H2 ⟨fun v15 H3 =>
 @cG 60 [v11] H3 ⟨fun v17 H4 =>
 @qbb (qbc (.ixS 1) [v15,nv 0]) ⟨fun v19 =>
 @qbn (xact (.st 1) H4 [v19,nv 1]) ⟨fun _v H5 =>
 @qbb (qbc (.fld 2) [H]) ⟨fun v21 =>
 @qbb (qbd none H5 [v21]) ⟨fun v22 =>
 @qbb (qbc (.conv .i64) [v22]) ⟨fun v23 =>
 @qbb (xbin .sub 0 v11 (nv 1)) ⟨fun v25 =>
 @qbb (xbin .rem 0 v23 v25) ⟨fun v26 =>
 @qbb (xbin .add 0 (nv 1) v26) ⟨fun v27 =>
 @qbb (qbc (.ixS 1) [v17,v27]) ⟨fun v28 =>
 @qbn (xact (.st 1) H5 [v28,nv 1]) ⟨fun _v H6 =>
 @joinV0 (fun J1=>@qbb (qbc (.fld 3) [H]) ⟨fun v29 =>
 @qbb (qbd none H6 [v29]) ⟨fun v30 =>
 @qbb (qbc .lenS [v30]) ⟨fun v31 =>
 @qbb (xbin .gtr 0 v31 (nv 0)) ⟨fun v32 =>
 @qbv v32 ⟨fun q=>if q=true then @qbb (xbin .sub 0 v11 (nv 1)) ⟨fun v35 =>
 @qbb (qbc (.fld 3) [H]) ⟨fun v36 =>
 @qbb (qbd none H6 [v36]) ⟨fun v37 =>
 @qbb (qbc (.ixS 1) [v37,nv 0]) ⟨fun v38 =>
 @qbb (qbd none H6 [v38]) ⟨fun v39 =>
 @qbb (qbc (.conv .i64) [v39]) ⟨fun v40 =>
 @qbb (xbin .quo 0 v40 (nv 2)) ⟨fun v41 =>
 @qbb (xbin .rem 0 v41 (nv 2)) ⟨fun v42 =>
 @qbb (qbc (.ixS 1) [v17,v35]) ⟨fun v43 =>
 @qbn (xact (.st 1) H6 [v43,v42]) ⟨fun _v H7 =>
 J1 H7⟩⟩⟩⟩⟩⟩⟩⟩⟩⟩ else
 J1 H6⟩⟩⟩⟩⟩) ⟨fun H8 =>
 @qb0 (qbr [.slice none 0 0,.slice none 0 0] [(0,1),(1,1)] [v15,v17]) ⟨fun cv47=>@letH (H8++[.cells cv47 31 none false]) ⟨fun H9 =>
 @cG 67 [nv 2,v11,(.slice (some ⟨H8.length,0,none⟩) 2 2)] H9 ⟨fun v48 H10 =>
 @qbb (qbc (.prt (some 3) 0) [v48]) ⟨fun v49 =>
 @letH (H10++[.cells [nv 0,nv 0,.slice none 0 0] 29 none false]) ⟨fun H11 =>
 @qbn (xact (.st 3) H11 [H10,v49]) ⟨fun _v H12 =>
 @joinV0 (fun J2=>@qbb (qbc (.fld 2) [H10]) ⟨fun v50 =>
 @qbb (qbd none H12 [v50]) ⟨fun v51 =>
 @qbb (qbc .lenS [v51]) ⟨fun v52 =>
 @qbb (xbin .lss 0 v52 (nv 2)) ⟨fun v53 =>
 @qbv v53 ⟨fun q=>if q=true then @cG 60 [v11] H12 ⟨fun v55 H13 =>
 @qbb (qbc (.ixS 1) [v55,nv 1]) ⟨fun v57 =>
 @qbn (xact (.st 1) H13 [v57,nv 1]) ⟨fun _v H14 =>
 @qb0 (qbr [.slice none 0 0,.slice none 0 0] [(0,1),(1,1)] [v15,v55]) ⟨fun cv61=>@letH (H14++[.cells cv61 31 none false]) ⟨fun H15 =>
 @cG 67 [nv 2,v11,(.slice (some ⟨H14.length,0,none⟩) 2 2)] H15 ⟨fun v62 H16 =>
 @qbb (qbc (.prt (some 3) 0) [v62]) ⟨fun v63 =>
 @qbn (xact (.st 3) H16 [H10,v63]) ⟨fun _v H17 =>
 J2 H17⟩⟩⟩⟩⟩⟩⟩⟩ else
 J2 H12⟩⟩⟩⟩⟩) ⟨fun H18 =>
 @qbb (qbd (some 3) H18 [H10]) ⟨fun v64 =>
 @qbn (xact (.st 3) H18 [H1,v64]) ⟨fun _v H19 =>
 @qbb (qbd (some 3) H19 [H1]) ⟨fun r0=>R r0 H19⟩⟩⟩⟩⟩⟩⟩⟩⟩⟩⟩⟩⟩⟩⟩⟩⟩⟩⟩⟩⟩⟩⟩⟩⟩⟩⟩⟩⟩⟩⟩⟩
theorem g33_of {x0:Value} {H:AH} {R:Value→AH→Prop} (h:g33 x0 H R):FN Tryz.prog 33 [x0] H R:=
  FN.of_XM (ms:=[(6,[]),(9,[])]) qbt (cast (by kernel_rfl) h)
def g34 (c0:Value) (H:AH) (R:Value→AH→Prop):Prop:=
 @letH (H++[.cells (qbq c0) 29 none false]) ⟨fun H1 =>
 @letH (H1++[.cells [nv 0,nv 0,.slice none 0 0] 29 none false]) ⟨fun H2 =>
 @qbb (qbc (.fld 0) [H]) ⟨fun v10 =>
 @qbb (qbd none H2 [v10]) ⟨fun v11 =>
 @cG 62 [v11] H2 ⟨fun v12 H3 =>
 @letH (H3++[.cells [nv 0,nv 0,.slice none 0 0] 76 none false]) ⟨fun H4 =>
 @qbn (xact (.st 3) H4 [H3,v12]) ⟨fun _v H5 =>
 @qbb (qbc (.fld 1) [H]) ⟨fun v13 =>
 @qbb (qbd none H5 [v13]) ⟨fun v14 =>
 @qsh (xnew (.make (nv 0) 1 8 3) [v14,v14]) ⟨fun cv15 ev15 mkv15=>@letH (H5++[.cells cv15 ev15 none false]) ⟨fun H6 =>
 @loopV1 (nv 0) H6 ⟨fun i5 H7 K1 =>
 @qbb (qbc (.fld 2) [H]) ⟨fun v17 =>
 @qbb (qbd none H7 [v17]) ⟨fun v18 =>
 @qbb (qbc .lenS [v18]) ⟨fun v19 =>
 @qbb (xbin .lss 0 i5 v19) ⟨fun v20 =>
 @qbv v20 ⟨fun q=>if q=true then @qbb (qbc (.fld 2) [H]) ⟨fun v24 =>
 @qbb (qbd none H7 [v24]) ⟨fun v25 =>
 @qbb (qbc (.ixS 1) [v25,i5]) ⟨fun v27 =>
 @qbb (qbd none H7 [v27]) ⟨fun v28 =>
 @cG 80 [v28] H7 ⟨fun v29 H8 =>
 @qbb (xbin .add 0 i5 (nv 1)) ⟨fun v31 =>
 @qbb (qbc (.ixS 1) [(mkv15 H5.length),v29]) ⟨fun v32 =>
 @qbn (xact (.st 1) H8 [v32,v31]) ⟨fun _v H9 =>
 @qbb (xbin .add 0 i5 (nv 1)) ⟨fun v22 =>
 K1 v22 H9⟩⟩⟩⟩⟩⟩⟩⟩⟩ else
 @qb0 (qbr [] [] []) ⟨fun cv33=>@letH (H7++[.cells cv33 31 none false]) ⟨fun H10 =>
 @loopV2 (.slice (some ⟨H7.length,0,none⟩) 0 0) (nv 0) H10 ⟨fun rows6 j7 H11 K2 =>
 @qbb (qbc (.fld 1) [H]) ⟨fun v35 =>
 @qbb (qbd none H11 [v35]) ⟨fun v36 =>
 @qbb (xbin .lss 0 j7 v36) ⟨fun v37 =>
 @qbv v37 ⟨fun q=>if q=true then @joinV1 (fun J3=>@qbb (qbc (.ixS 1) [(mkv15 H5.length),j7]) ⟨fun v42 =>
 @qbb (qbd none H11 [v42]) ⟨fun v43 =>
 @qbb (xbin .gtr 0 v43 (nv 0)) ⟨fun v44 =>
 @qbv v44 ⟨fun q=>if q=true then J3 rows6 H11 else
 @qbb (qbc (.fld 1) [H]) ⟨fun v45 =>
 @qbb (qbd none H11 [v45]) ⟨fun v46 =>
 @cG 60 [v46] H11 ⟨fun v47 H12 =>
 @qbb (qbc (.ixS 1) [v47,j7]) ⟨fun v50 =>
 @qbn (xact (.st 1) H12 [v50,nv 1]) ⟨fun _v H13 =>
 @loopV1 (nv 0) H13 ⟨fun k9 H14 K4 =>
 @qbb (qbc (.fld 1) [H]) ⟨fun v52 =>
 @qbb (qbd none H14 [v52]) ⟨fun v53 =>
 @qbb (xbin .lss 0 k9 v53) ⟨fun v54 =>
 @qbv v54 ⟨fun q=>if q=true then @joinV0 (fun J5=>@qbb (qbc (.ixS 1) [(mkv15 H5.length),k9]) ⟨fun v59 =>
 @qbb (qbd none H14 [v59]) ⟨fun v60 =>
 @qbb (xbin .gtr 0 v60 (nv 0)) ⟨fun v61 =>
 @qbv v61 ⟨fun q=>if q=true then @qbb (qbd (some 3) H14 [H3]) ⟨fun v64 =>
 @qbb (qbc (.fld 2) [H]) ⟨fun v65 =>
 @qbb (qbd none H14 [v65]) ⟨fun v66 =>
 @qbb (qbc (.ixS 1) [(mkv15 H5.length),k9]) ⟨fun v69 =>
 @qbb (qbd none H14 [v69]) ⟨fun v70 =>
 @qbb (xbin .sub 0 v70 (nv 1)) ⟨fun v71 =>
 @qbb (qbc (.ixS 1) [v66,v71]) ⟨fun v72 =>
 @qbb (qbd none H14 [v72]) ⟨fun v73 =>
 @qbb (qbc (.ixS 1) [v73,j7]) ⟨fun v75 =>
 @qbb (qbd none H14 [v75]) ⟨fun v76 =>
 @cG 81 [v64,v76] H14 ⟨fun v77 H15 =>
 @qbb (qbc (.ixS 1) [v47,k9]) ⟨fun v78 =>
 @qbn (xact (.st 1) H15 [v78,v77]) ⟨fun _v H16 =>
 J5 H16⟩⟩⟩⟩⟩⟩⟩⟩⟩⟩⟩⟩⟩ else
 J5 H14⟩⟩⟩⟩) ⟨fun H17 =>
 @qbb (xbin .add 0 k9 (nv 1)) ⟨fun v56 =>
 K4 v56 H17⟩⟩ else
 @qb0 (qbr [.slice none 0 0] [(0,1)] [v47]) ⟨fun cv81=>@letH (H14++[.cells cv81 31 none false]) ⟨fun H18 =>
 @qbn (xact (.app 31 1 24) H18 [rows6,(.slice (some ⟨H14.length,0,none⟩) 1 1)]) ⟨fun v82 H19 =>
 J3 v82 H19⟩⟩⟩⟩⟩⟩⟩⟩⟩⟩⟩⟩⟩⟩⟩⟩⟩) ⟨fun rows6a H20 =>
 @qbb (xbin .add 0 j7 (nv 1)) ⟨fun v39 =>
 K2 rows6a v39 H20⟩⟩ else
 @qbb (qbc (.fld 0) [H]) ⟨fun v83 =>
 @qbb (qbd none H11 [v83]) ⟨fun v84 =>
 @qbb (qbc (.fld 1) [H]) ⟨fun v85 =>
 @qbb (qbd none H11 [v85]) ⟨fun v86 =>
 @qbb (qbd (some 3) H11 [H3]) ⟨fun v87 =>
 @qbb (qbc (.fld 1) [H]) ⟨fun v88 =>
 @qbb (qbd none H11 [v88]) ⟨fun v89 =>
 @cG 61 [v87,v89,rows6] H11 ⟨fun v91 H21 =>
 (chkX [3,1] (⟨3,none,[v85],v86⟩ :: (⟨1,none,[v83],v84⟩ :: [])) H21∧@qb0 (qbr [nv 0,nv 0,.slice none 0 0] [(0,1),(1,1),(2,1)] [v84,v86,v91]) ⟨fun v92 =>
 @qbn (xact (.st 3) H21 [H1,(.agg v92.toArray)]) ⟨fun _v H22 =>
 @qbb (qbd (some 3) H22 [H1]) ⟨fun r0=>R r0 H22⟩⟩⟩)⟩⟩⟩⟩⟩⟩⟩⟩⟩⟩⟩⟩⟩⟩⟩⟩⟩⟩⟩⟩⟩⟩⟩⟩⟩⟩⟩⟩⟩⟩⟩⟩
theorem g34_of {c0:Value} {H:AH} {R:Value→AH→Prop} (h:g34 c0 H R):FN Tryz.prog 34 [c0] H R:=
  FN.of_XM (ms:=[(5,[5]),(12,[6,7]),(15,[6]),(22,[9]),(25,[])]) qbt (cast (by kernel_rfl) h)
def g43 (inner0 w1:Value) (H:AH) (R:Value→AH→Prop):Prop:=
 @letH (H++[.cells (qbq inner0) 29 none false]) ⟨fun H1 =>
 @qb0 (qbr [] [] []) ⟨fun cv8=>@letH (H1++[.cells cv8 3 none false]) ⟨fun H2 =>
 @loopV2 (.slice (some ⟨H1.length,0,none⟩) 0 0) (nv 0) H2 ⟨fun out5 i6 H3 K1 =>
 @qbb (qbc .lenS [w1]) ⟨fun v11 =>
 @qbb (xbin .lss 0 i6 v11) ⟨fun v12 =>
 @qbv v12 ⟨fun q=>if q=true then @loopV2 out5 (nv 0) H3 ⟨fun out5a j7 H4 K2 =>
 @qbb (qbc (.fld 1) [H]) ⟨fun v16 =>
 @qbb (qbd none H4 [v16]) ⟨fun v17 =>
 @qbb (xbin .lss 0 j7 v17) ⟨fun v18 =>
 @qbv v18 ⟨fun q=>if q=true then @qbb (qbc (.ixS 1) [w1,i6]) ⟨fun v24 =>
 @qbb (qbd none H4 [v24]) ⟨fun v25 =>
 @qbb (xbin .rem 0 v25 (nv 2)) ⟨fun v26 =>
 @qbb (qbc (.fld 2) [H]) ⟨fun v27 =>
 @qbb (qbd none H4 [v27]) ⟨fun v28 =>
 @qbb (qbc (.ixS 1) [v28,nv 0]) ⟨fun v29 =>
 @qbb (qbd none H4 [v29]) ⟨fun v30 =>
 @qbb (qbc (.ixS 1) [v30,j7]) ⟨fun v32 =>
 @qbb (qbd none H4 [v32]) ⟨fun v33 =>
 @qbb (xbin .mul 0 v26 v33) ⟨fun v34 =>
 @qbb (qbc (.ixS 1) [w1,i6]) ⟨fun v37 =>
 @qbb (qbd none H4 [v37]) ⟨fun v38 =>
 @qbb (xbin .quo 0 v38 (nv 2)) ⟨fun v39 =>
 @qbb (qbc (.fld 2) [H]) ⟨fun v40 =>
 @qbb (qbd none H4 [v40]) ⟨fun v41 =>
 @qbb (qbc (.ixS 1) [v41,nv 1]) ⟨fun v42 =>
 @qbb (qbd none H4 [v42]) ⟨fun v43 =>
 @qbb (qbc (.ixS 1) [v43,j7]) ⟨fun v45 =>
 @qbb (qbd none H4 [v45]) ⟨fun v46 =>
 @qbb (xbin .mul 0 v39 v46) ⟨fun v47 =>
 @qbb (xbin .add 0 v34 v47) ⟨fun v48 =>
 @qbb (xbin .rem 0 v48 (nv 2)) ⟨fun v49 =>
 @qb0 (qbr [nv 0] [(0,1)] [v49]) ⟨fun cv50=>@letH (H4++[.cells cv50 3 none false]) ⟨fun H5 =>
 @qbn (xact (.app 3 1 8) H5 [out5a,(.slice (some ⟨H4.length,0,none⟩) 1 1)]) ⟨fun v51 H6 =>
 @qbb (xbin .add 0 j7 (nv 1)) ⟨fun v20 =>
 K2 v51 v20 H6⟩⟩⟩⟩⟩⟩⟩⟩⟩⟩⟩⟩⟩⟩⟩⟩⟩⟩⟩⟩⟩⟩⟩⟩⟩⟩ else
 @qbb (xbin .add 0 i6 (nv 1)) ⟨fun v14 =>
 K1 out5a v14 H4⟩⟩⟩⟩⟩⟩ else
 R out5 H3⟩⟩⟩⟩⟩⟩⟩
theorem g43_of {inner0 w1:Value} {H:AH} {R:Value→AH→Prop} (h:g43 inner0 w1 H R):FN Tryz.prog 43 [inner0,w1] H R:=
  FN.of_XM (ms:=[(4,[5,6]),(9,[5,7])]) qbt (cast (by kernel_rfl) h)
def g49 (n0:Value) (H:AH) (R:Value→AH→Prop):Prop:=
 @qb0 (qbr [] [] []) ⟨fun cv5=>@letH (H++[.cells cv5 3 none false]) ⟨fun H1 =>
 @loopV2 (.slice (some ⟨H.length,0,none⟩) 0 0) (nv 0) H1 ⟨fun out3 i4 H2 K1 =>
 @qbb (xbin .lss 0 i4 n0) ⟨fun v8 =>
 @qbv v8 ⟨fun q=>if q=true then @qb0 (qbr [nv 0] [(0,1)] [nv 1]) ⟨fun cv12=>@letH (H2++[.cells cv12 3 none false]) ⟨fun H3 =>
 @qbn (xact (.app 3 1 8) H3 [out3,(.slice (some ⟨H2.length,0,none⟩) 1 1)]) ⟨fun v13 H4 =>
 @qbb (xbin .add 0 i4 (nv 1)) ⟨fun v10 =>
 K1 v13 v10 H4⟩⟩⟩⟩ else
 R out3 H2⟩⟩⟩⟩⟩
theorem g49_of {n0:Value} {H:AH} {R:Value→AH→Prop} (h:g49 n0 H R):FN Tryz.prog 49 [n0] H R:=
  FN.of_XM (ms:=[(4,[3,4])]) qbt (cast (by kernel_rfl) h)
def g60 (n0:Value) (H:AH) (R:Value→AH→Prop):Prop:=
 @qsh (xnew (.make (nv 0) 1 8 3) [n0,n0]) ⟨fun cv4 ev4 mkv4=>@letH (H++[.cells cv4 ev4 none false]) ⟨fun H1 =>
 R (mkv4 H.length) H1⟩⟩
theorem g60_of {n0:Value} {H:AH} {R:Value→AH→Prop} (h:g60 n0 H R):FN Tryz.prog 60 [n0] H R:=
  FN.of_XM (ms:=[]) qbt (cast (by kernel_rfl) h)
def g61 (f0 n1 qg4:Value) (H:AH) (R:Value→AH→Prop):Prop:=
 @letH (H++[.cells (qbq f0) 76 none false]) ⟨fun H1 =>
 @qb0 (qbr [] [] []) ⟨fun cv16=>@letH (H1++[.cells cv16 31 none false]) ⟨fun H2 =>
 @loopV2 (.slice (some ⟨H1.length,0,none⟩) 0 0) (nv 0) H2 ⟨fun m7 i8 H3 K1 =>
 @qbb (qbc .lenS [qg4]) ⟨fun v19 =>
 @qbb (xbin .lss 0 i8 v19) ⟨fun v20 =>
 @qbv v20 ⟨fun q=>if q=true then @qb0 (qbr [] [] []) ⟨fun cv24=>@letH (H3++[.cells cv24 3 none false]) ⟨fun H4 =>
 @qbb (qbc (.ixS 1) [qg4,i8]) ⟨fun v27 =>
 @qbb (qbd none H4 [v27]) ⟨fun v28 =>
 @qbn (xact (.app 3 1 8) H4 [(.slice (some ⟨H3.length,0,none⟩) 0 0),v28]) ⟨fun v29 H5 =>
 @qb0 (qbr [.slice none 0 0] [(0,1)] [v29]) ⟨fun cv30=>@letH (H5++[.cells cv30 31 none false]) ⟨fun H6 =>
 @qbn (xact (.app 31 1 24) H6 [m7,(.slice (some ⟨H5.length,0,none⟩) 1 1)]) ⟨fun v31 H7 =>
 @qbb (xbin .add 0 i8 (nv 1)) ⟨fun v22 =>
 K1 v31 v22 H7⟩⟩⟩⟩⟩⟩⟩⟩⟩ else
 @loopV2 (nv 0) (nv 0) H3 ⟨fun r9 c10 H8 K2 =>
 @qbb (xbin .lss 0 c10 n1) ⟨fun v34 =>
 @qbf (asB v34) (fun J3=>J3 r9 H8) H8 ⟨fun v36 H9 =>
 @qbf (asB v34) (fun J4=>J4 m7 H9) H9 ⟨fun v37 H10 =>
 @qbf (asB v34) (fun J5=>@qbb (qbc .lenS [v37]) ⟨fun v38 =>
 J5 v38 H10⟩) H10 ⟨fun v38a H11 =>
 @qbf (asB v34) (fun J6=>@qbb (xbin .lss 0 v36 v38a) ⟨fun v39 =>
 J6 v39 H11⟩) H11 ⟨fun v39a H12 =>
 @qcs v34 v39a (.bool false) ⟨fun v40 =>
 @qbv v40 ⟨fun q=>if q=true then @joinV1 (fun J7=>@loopV1 r9 H12 ⟨fun p11 H13 K8 =>
 @qbb (qbc .lenS [m7]) ⟨fun v46 =>
 @qbb (xbin .lss 0 p11 v46) ⟨fun v47 =>
 @qbf (asB v47) (fun J9=>J9 m7 H13) H13 ⟨fun v49 H14 =>
 @qbf (asB v47) (fun J10=>J10 p11 H14) H14 ⟨fun v50 H15 =>
 @qbf (asB v47) (fun J11=>@qbb (qbc (.ixS 1) [v49,v50]) ⟨fun v51 =>
 J11 v51 H15⟩) H15 ⟨fun v51a H16 =>
 @qbf (asB v47) (fun J12=>@qbb (qbd none H16 [v51a]) ⟨fun v52 =>
 J12 v52 H16⟩) H16 ⟨fun v52a H17 =>
 @qbf (asB v47) (fun J13=>J13 c10 H17) H17 ⟨fun v53 H18 =>
 @qbf (asB v47) (fun J14=>@qbb (qbc (.ixS 1) [v52a,v53]) ⟨fun v54 =>
 J14 v54 H18⟩) H18 ⟨fun v54a H19 =>
 @qbf (asB v47) (fun J15=>@qbb (qbd none H19 [v54a]) ⟨fun v55 =>
 J15 v55 H19⟩) H19 ⟨fun v55a H20 =>
 @qbf (asB v47) (fun J16=>@qbb (xbin .eql 0 v55a (nv 0)) ⟨fun v56 =>
 J16 v56 H20⟩) H20 ⟨fun v56a H21 =>
 @qcs v47 v56a (.bool false) ⟨fun v57 =>
 @qbv v57 ⟨fun q=>if q=true then @qbb (xbin .add 0 p11 (nv 1)) ⟨fun v59 =>
 K8 v59 H21⟩ else
 @qbb (qbc .lenS [m7]) ⟨fun v62 =>
 @qbb (xbin .eql 0 p11 v62) ⟨fun v63 =>
 @qbv v63 ⟨fun q=>if q=true then J7 r9 H21 else
 @qbb (qbc (.ixS 1) [m7,p11]) ⟨fun v66 =>
 @qbb (qbd none H21 [v66]) ⟨fun v67 =>
 @qbb (qbc (.ixS 1) [m7,r9]) ⟨fun v72 =>
 @qbb (qbd none H21 [v72]) ⟨fun v73 =>
 @qbb (qbc (.ixS 1) [m7,p11]) ⟨fun v74 =>
 @qbn (xact (.st 1) H21 [v74,v73]) ⟨fun _v H22 =>
 @qbb (qbd (some 3) H22 [H]) ⟨fun v76 =>
 @qbb (qbc (.ixS 1) [v67,c10]) ⟨fun v79 =>
 @qbb (qbd none H22 [v79]) ⟨fun v80 =>
 @cG 107 [v76,v80] H22 ⟨fun v81 H23 =>
 @qbb (qbc (.ext 0) [v81]) ⟨fun v82 =>
 @qbb (qbc (.ext 1) [v81]) ⟨fun v83 =>
 @qbb (qbd (some 3) H23 [H]) ⟨fun v86 =>
 @cG 74 [v86,v82,v67] H23 ⟨fun v89 H24 =>
 @qbb (qbc (.ixS 1) [m7,r9]) ⟨fun v90 =>
 @qbn (xact (.st 1) H24 [v90,v89]) ⟨fun _v H25 =>
 @loopV1 (nv 0) H25 ⟨fun k15 H26 K17 =>
 @qbb (qbc .lenS [m7]) ⟨fun v93 =>
 @qbb (xbin .lss 0 k15 v93) ⟨fun v94 =>
 @qbv v94 ⟨fun q=>if q=true then @joinV0 (fun J18=>@qbb (xbin .neq 0 k15 r9) ⟨fun v99 =>
 @qbv v99 ⟨fun q=>if q=true then @qbb (qbd (some 3) H26 [H]) ⟨fun v102 =>
 @qbb (qbc (.ixS 1) [m7,k15]) ⟨fun v105 =>
 @qbb (qbd none H26 [v105]) ⟨fun v106 =>
 @qbb (qbd (some 3) H26 [H]) ⟨fun v107 =>
 @qbb (qbd (some 3) H26 [H]) ⟨fun v108 =>
 @qbb (qbc (.ixS 1) [m7,k15]) ⟨fun v111 =>
 @qbb (qbd none H26 [v111]) ⟨fun v112 =>
 @qbb (qbc (.ixS 1) [v112,c10]) ⟨fun v114 =>
 @qbb (qbd none H26 [v114]) ⟨fun v115 =>
 @qbb (qbc (.ixS 1) [m7,r9]) ⟨fun v119 =>
 @qbb (qbd none H26 [v119]) ⟨fun v120 =>
 @cG 81 [v108,v115] H26 ⟨fun v116 H27 =>
 (chkX [20,7,6,2] (⟨20,none,[v119],v120⟩ :: (⟨7,(some 3),[H],v107⟩ :: (⟨6,none,[v105],v106⟩ :: (⟨2,(some 3),[H],v102⟩ :: [])))) H27∧@cG 74 [v107,v116,v120] H27 ⟨fun v121 H28 =>
 (chkX [6,2] (⟨20,none,[v119],v120⟩ :: (⟨7,(some 3),[H],v107⟩ :: (⟨6,none,[v105],v106⟩ :: (⟨2,(some 3),[H],v102⟩ :: [])))) H28∧@cG 108 [v102,v106,v121] H28 ⟨fun v122 H29 =>
 @qbb (qbc (.ixS 1) [m7,k15]) ⟨fun v123 =>
 @qbn (xact (.st 1) H29 [v123,v122]) ⟨fun _v H30 =>
 J18 H30⟩⟩⟩)⟩)⟩⟩⟩⟩⟩⟩⟩⟩⟩⟩⟩⟩ else
 J18 H26⟩⟩) ⟨fun H31 =>
 @qbb (xbin .add 0 k15 (nv 1)) ⟨fun v96 =>
 K17 v96 H31⟩⟩ else
 @qbb (xbin .add 0 r9 (nv 1)) ⟨fun v125 =>
 J7 v125 H26⟩⟩⟩⟩⟩⟩⟩⟩⟩⟩⟩⟩⟩⟩⟩⟩⟩⟩⟩⟩⟩⟩⟩⟩⟩⟩⟩⟩⟩⟩⟩⟩⟩⟩⟩⟩⟩) ⟨fun r9a H32 =>
 @qbb (xbin .add 0 c10 (nv 1)) ⟨fun v42 =>
 K2 r9a v42 H32⟩⟩ else
 @qbb (qbc (.slS 1 false true) [m7,r9]) ⟨fun v128 =>
 R v128 H12⟩⟩⟩⟩⟩⟩⟩⟩⟩⟩⟩⟩⟩⟩⟩⟩
theorem g61_of {f0 n1 qg4:Value} {H:AH} {R:Value→AH→Prop} (h:g61 f0 n1 qg4 H R):FN Tryz.prog 61 [f0,n1,qg4] H R:=
  FN.of_XM (ms:=[(4,[7,8]),(11,[9,10]),(14,[9]),(17,[11]),(28,[15]),(31,[])]) qbt (cast (by kernel_rfl) h)
def g62 (q0:Value) (H:AH) (R:Value→AH→Prop):Prop:=
 @letH (H++[.cells [nv 0,nv 0,.slice none 0 0] 76 none false]) ⟨fun H1 =>
 @cG 109 [q0] H1 ⟨fun v7 H2 =>
 @qbb (qbc (.ext 0) [v7]) ⟨fun v8 =>
 @qbb (qbc (.ext 1) [v7]) ⟨fun v9 =>
 @letH (H2++[.cells [nv 0,nv 0,.slice none 0 0] 76 none false]) ⟨fun H3 =>
 @qbn (xact (.st 3) H3 [H2,v8]) ⟨fun _v H4 =>
 @qbb (qbd (some 3) H4 [H2]) ⟨fun v10 =>
 @qbn (xact (.st 3) H4 [H,v10]) ⟨fun _v H5 =>
 @qbb (qbd (some 3) H5 [H]) ⟨fun r0=>R r0 H5⟩⟩⟩⟩⟩⟩⟩⟩⟩
theorem g62_of {q0:Value} {H:AH} {R:Value→AH→Prop} (h:g62 q0 H R):FN Tryz.prog 62 [q0] H R:=
  FN.of_XM (ms:=[]) qbt (cast (by kernel_rfl) h)
def g63 (l0 i1:Value) (H:AH) (R:Value→AH→Prop):Prop:=
 @qbb (qbc .lenS [l0]) ⟨fun v7 =>
 @qbb (xbin .geq 0 i1 v7) ⟨fun v8 =>
 @qbv v8 ⟨fun q=>if q=true then R (nv 0) H else
 @qbb (qbc (.ixS 1) [l0,i1]) ⟨fun v11 =>
 @qbb (qbd none H [v11]) ⟨fun v12 =>
 @qbb (qbc (.conv .i64) [v12]) ⟨fun v13 =>
 R v13 H⟩⟩⟩⟩⟩⟩
theorem g63_of {l0 i1:Value} {H:AH} {R:Value→AH→Prop} (h:g63 l0 i1 H R):FN Tryz.prog 63 [l0,i1] H R:=
  FN.of_XM (ms:=[]) qbt (cast (by kernel_rfl) h)
def g64 (a0 b1:Value) (H:AH) (R:Value→AH→Prop):Prop:=
 @letH (H++[.cells (qbq a0) 29 none false]) ⟨fun H1 =>
 @letH (H1++[.cells (qbq b1) 29 none false]) ⟨fun H2 =>
 @qbb (qbc (.fld 0) [H]) ⟨fun v5 =>
 @qbb (qbd none H2 [v5]) ⟨fun v6 =>
 @qbb (qbc (.fld 0) [H1]) ⟨fun v7 =>
 @qbb (qbd none H2 [v7]) ⟨fun v8 =>
 @qbb (xbin .eql 0 v6 v8) ⟨fun v9 =>
 @qbf (asB v9) (fun J1=>@qbb (qbc (.fld 1) [H]) ⟨fun v11 =>
 J1 v11 H2⟩) H2 ⟨fun v11a H3 =>
 @qbf (asB v9) (fun J2=>@qbb (qbd none H3 [v11a]) ⟨fun v12 =>
 J2 v12 H3⟩) H3 ⟨fun v12a H4 =>
 @qbf (asB v9) (fun J3=>@qbb (qbc (.fld 1) [H1]) ⟨fun v13 =>
 J3 v13 H4⟩) H4 ⟨fun v13a H5 =>
 @qbf (asB v9) (fun J4=>@qbb (qbd none H5 [v13a]) ⟨fun v14 =>
 J4 v14 H5⟩) H5 ⟨fun v14a H6 =>
 @qbf (asB v9) (fun J5=>@qbb (xbin .eql 0 v12a v14a) ⟨fun v15 =>
 J5 v15 H6⟩) H6 ⟨fun v15a H7 =>
 @qcs v9 v15a (.bool false) ⟨fun v16 =>
 @qbf (asB v16) (fun J6=>@qbb (qbc (.fld 2) [H]) ⟨fun v18 =>
 J6 v18 H7⟩) H7 ⟨fun v18a H8 =>
 @qbf (asB v16) (fun J7=>@qbb (qbd none H8 [v18a]) ⟨fun v19 =>
 J7 v19 H8⟩) H8 ⟨fun v19a H9 =>
 @qbf (asB v16) (fun J8=>@qbb (qbc (.fld 2) [H1]) ⟨fun v20 =>
 J8 v20 H9⟩) H9 ⟨fun v20a H10 =>
 @qbf (asB v16) (fun J9=>@qbb (qbd none H10 [v20a]) ⟨fun v21 =>
 J9 v21 H10⟩) H10 ⟨fun v21a H11 =>
 @qbf (asB v16) (fun J10=>@cG 91 [v19a,v21a] H11 ⟨fun v22 H12 =>
 J10 v22 H12⟩) H11 ⟨fun v22a H13 =>
 @qcs v16 v22a (.bool false) ⟨fun v23 =>
 R v23 H13⟩⟩⟩⟩⟩⟩⟩⟩⟩⟩⟩⟩⟩⟩⟩⟩⟩⟩⟩
theorem g64_of {a0 b1:Value} {H:AH} {R:Value→AH→Prop} (h:g64 a0 b1 H R):FN Tryz.prog 64 [a0,b1] H R:=
  FN.of_XM (ms:=[]) qbt (cast (by kernel_rfl) h)
def g65 (c0:Value) (H:AH) (R:Value→AH→Prop):Prop:=
 @letH (H++[.cells (qbq c0) 29 none false]) ⟨fun H1 =>
 @letH (H1++[.cells [nv 0,nv 0,.slice none 0 0] 29 none false]) ⟨fun H2 =>
 @qbb (qbc (.fld 1) [H]) ⟨fun v6 =>
 @qbb (qbd none H2 [v6]) ⟨fun v7 =>
 @qbb (xbin .geq 0 v7 (nv 24)) ⟨fun v8 =>
 @qbv v8 ⟨fun q=>if q=true then @cG 110 [nv 2] H2 ⟨fun v9 H3 =>
 @qbb (qbc (.ext 0) [v9]) ⟨fun v10 =>
 @qbb (qbc (.ext 1) [v9]) ⟨fun v11 =>
 @qbn (xact (.st 3) H3 [H1,v10]) ⟨fun _v H4 =>
 @qbb (qbd (some 3) H4 [H1]) ⟨fun r0=>R (.tuple [r0,v11].toArray) H4⟩⟩⟩⟩⟩ else
 @qbb (qbc (.fld 0) [H]) ⟨fun v13 =>
 @qbb (qbd none H2 [v13]) ⟨fun v14 =>
 @cG 111 [v14] H2 ⟨fun v15 H5 =>
 @qbb (qbc (.ext 0) [v15]) ⟨fun v16 =>
 @qbb (qbc (.ext 1) [v15]) ⟨fun v17 =>
 @letH (H5++[.cells [nv 0,nv 0,.slice none 0 0] 76 none false]) ⟨fun H6 =>
 @qbn (xact (.st 3) H6 [H5,v16]) ⟨fun _v H7 =>
 @qbb (qbc (.fld 0) [H]) ⟨fun v18 =>
 @qbb (qbd none H7 [v18]) ⟨fun v19 =>
 @qbb (qbc (.fld 1) [H]) ⟨fun v20 =>
 @qbb (qbd none H7 [v20]) ⟨fun v21 =>
 @qbb (xbin .add 0 v21 (nv 1)) ⟨fun v22 =>
 @qbb (qbc (.fld 2) [H]) ⟨fun v23 =>
 @qbb (qbd none H7 [v23]) ⟨fun v24 =>
 @qbb (qbc (.fn 114 0 1) [H5]) ⟨fun v25 =>
 @cG 113 [v24,v25] H7 ⟨fun v26 H8 =>
 (chkX [3,1] (⟨3,none,[v20],v21⟩ :: (⟨1,none,[v18],v19⟩ :: [])) H8∧@cG 112 [v19,v22,v26] H8 ⟨fun v27 H9 =>
 @qbb (qbc (.ext 0) [v27]) ⟨fun v28 =>
 @qbb (qbc (.ext 1) [v27]) ⟨fun v29 =>
 @qbn (xact (.st 3) H9 [H1,v28]) ⟨fun _v H10 =>
 @qbb (qbd (some 3) H10 [H1]) ⟨fun r0=>R (.tuple [r0,v29].toArray) H10⟩⟩⟩⟩⟩)⟩⟩⟩⟩⟩⟩⟩⟩⟩⟩⟩⟩⟩⟩⟩⟩⟩⟩⟩⟩⟩⟩
theorem g65_of {c0:Value} {H:AH} {R:Value→AH→Prop} (h:g65 c0 H R):FN Tryz.prog 65 [c0] H R:=
  FN.of_XM (ms:=[]) qbt (cast (by kernel_rfl) h)
def g66 (f0 w1:Value) (H:AH) (R:Value→AH→Prop):Prop:=
 @letH (H++[.cells (qbq f0) 76 none false]) ⟨fun H1 =>
 @qb0 (qbr [] [] []) ⟨fun cv5=>@letH (H1++[.cells cv5 3 none false]) ⟨fun H2 =>
 @qbb (qbd (some 3) H2 [H]) ⟨fun v8 =>
 @qbb (qbd (some 3) H2 [H]) ⟨fun v9 =>
 @qbn (xact (.app 3 1 8) H2 [(.slice (some ⟨H1.length,0,none⟩) 0 0),w1]) ⟨fun v7 H3 =>
 (chkX [4,3] (⟨4,(some 3),[H],v9⟩ :: (⟨3,(some 3),[H],v8⟩ :: [])) H3∧@cG 116 [v9,w1] H3 ⟨fun v11 H4 =>
 (chkX [3] (⟨4,(some 3),[H],v9⟩ :: (⟨3,(some 3),[H],v8⟩ :: [])) H4∧@cG 81 [v8,v11] H4 ⟨fun v12 H5 =>
 @qb0 (qbr [nv 0] [(0,1)] [v12]) ⟨fun cv13=>@letH (H5++[.cells cv13 3 none false]) ⟨fun H6 =>
 @qbn (xact (.app 3 1 8) H6 [v7,(.slice (some ⟨H5.length,0,none⟩) 1 1)]) ⟨fun v14 H7 =>
 R v14 H7⟩⟩⟩⟩)⟩)⟩⟩⟩⟩⟩⟩
theorem g66_of {f0 w1:Value} {H:AH} {R:Value→AH→Prop} (h:g66 f0 w1 H R):FN Tryz.prog 66 [f0,w1] H R:=
  FN.of_XM (ms:=[]) qbt (cast (by kernel_rfl) h)
def g67 (q0 n1 qg4:Value) (H:AH) (R:Value→AH→Prop):Prop:=
 @letH (H++[.cells [nv 0,nv 0,.slice none 0 0,nv 0] 37 none false]) ⟨fun H1 =>
 @cG 62 [q0] H1 ⟨fun v10 H2 =>
 @cG 61 [v10,n1,qg4] H2 ⟨fun v13 H3 =>
 @qb0 (qbr [nv 0,nv 0,.slice none 0 0] [(0,1),(1,1),(2,1)] [q0,n1,v13]) ⟨fun v14 =>
 @qb0 (qbr [nv 0,nv 0,.slice none 0 0,nv 0] [(0,3)] [(.agg v14.toArray)]) ⟨fun v15 =>
 @qbn (xact (.st 4) H3 [H,(.agg v15.toArray)]) ⟨fun _v H4 =>
 @qbb (qbd (some 4) H4 [H]) ⟨fun r0=>R r0 H4⟩⟩⟩⟩⟩⟩⟩
theorem g67_of {q0 n1 qg4:Value} {H:AH} {R:Value→AH→Prop} (h:g67 q0 n1 qg4 H R):FN Tryz.prog 67 [q0,n1,qg4] H R:=
  FN.of_XM (ms:=[]) qbt (cast (by kernel_rfl) h)
def g68 (c0 i1:Value) (H:AH) (R:Value→AH→Prop):Prop:=
 @letH (H++[.cells (qbq c0) 29 none false]) ⟨fun H1 =>
 @letH (H1++[.cells [nv 0,nv 0,.slice none 0 0] 29 none false]) ⟨fun H2 =>
 @qbb (qbd (some 3) H2 [H]) ⟨fun v6 =>
 @cG 117 [v6,i1] H2 ⟨fun v8 H3 =>
 @qbb (eun .not v8) ⟨fun v9 =>
 @qbv v9 ⟨fun q=>if q=true then @cG 110 [nv 1] H3 ⟨fun v10 H4 =>
 @qbb (qbc (.ext 0) [v10]) ⟨fun v11 =>
 @qbb (qbc (.ext 1) [v10]) ⟨fun v12 =>
 @qbn (xact (.st 3) H4 [H1,v11]) ⟨fun _v H5 =>
 @qbb (qbd (some 3) H5 [H1]) ⟨fun r0=>R (.tuple [r0,v12].toArray) H5⟩⟩⟩⟩⟩ else
 @qbb (qbc (.fld 0) [H]) ⟨fun v13 =>
 @qbb (qbd none H3 [v13]) ⟨fun v14 =>
 @qbb (qbc (.fld 1) [H]) ⟨fun v15 =>
 @qbb (qbd none H3 [v15]) ⟨fun v16 =>
 @qbb (xbin .sub 0 v16 (nv 1)) ⟨fun v17 =>
 @qbb (qbc (.fld 2) [H]) ⟨fun v18 =>
 @qbb (qbd none H3 [v18]) ⟨fun v19 =>
 @cG 118 [i1] H3 ⟨fun v21 H6 =>
 (chkX [6,3,1] (⟨6,none,[v18],v19⟩ :: (⟨3,none,[v15],v16⟩ :: (⟨1,none,[v13],v14⟩ :: []))) H6∧@cG 113 [v19,v21] H6 ⟨fun v22 H7 =>
 (chkX [3,1] (⟨6,none,[v18],v19⟩ :: (⟨3,none,[v15],v16⟩ :: (⟨1,none,[v13],v14⟩ :: []))) H7∧@cG 112 [v14,v17,v22] H7 ⟨fun v23 H8 =>
 @qbb (qbc (.ext 0) [v23]) ⟨fun v24 =>
 @qbb (qbc (.ext 1) [v23]) ⟨fun v25 =>
 @qbn (xact (.st 3) H8 [H1,v24]) ⟨fun _v H9 =>
 @qbb (qbd (some 3) H9 [H1]) ⟨fun r0=>R (.tuple [r0,v25].toArray) H9⟩⟩⟩⟩⟩)⟩)⟩⟩⟩⟩⟩⟩⟩⟩⟩⟩⟩⟩⟩⟩
theorem g68_of {c0 i1:Value} {H:AH} {R:Value→AH→Prop} (h:g68 c0 i1 H R):FN Tryz.prog 68 [c0,i1] H R:=
  FN.of_XM (ms:=[]) qbt (cast (by kernel_rfl) h)
def g69 (w0 i1:Value) (H:AH) (R:Value→AH→Prop):Prop:=
 @qb0 (qbr [] [] []) ⟨fun cv6=>@letH (H++[.cells cv6 3 none false]) ⟨fun H1 =>
 @qbb (qbc (.slS 1 false true) [w0,i1]) ⟨fun v9 =>
 @qbn (xact (.app 3 1 8) H1 [(.slice (some ⟨H.length,0,none⟩) 0 0),v9]) ⟨fun v10 H2 =>
 @qbb (xbin .add 0 i1 (nv 1)) ⟨fun v14 =>
 @qbb (qbc (.slS 1 true false) [w0,v14]) ⟨fun v15 =>
 @qbn (xact (.app 3 1 8) H2 [v10,v15]) ⟨fun v16 H3 =>
 R v16 H3⟩⟩⟩⟩⟩⟩⟩
theorem g69_of {w0 i1:Value} {H:AH} {R:Value→AH→Prop} (h:g69 w0 i1 H R):FN Tryz.prog 69 [w0,i1] H R:=
  FN.of_XM (ms:=[]) qbt (cast (by kernel_rfl) h)
def g70 (c0 i1:Value) (H:AH) (R:Value→AH→Prop):Prop:=
 @letH (H++[.cells (qbq c0) 29 none false]) ⟨fun H1 =>
 @letH (H1++[.cells (qbq i1) 3 none false]) ⟨fun H2 =>
 @letH (H2++[.cells [nv 0,nv 0,.slice none 0 0] 29 none false]) ⟨fun H3 =>
 @qbb (qbd (some 3) H3 [H]) ⟨fun v7 =>
 @qbb (qbd none H3 [H1]) ⟨fun v8 =>
 @cG 117 [v7,v8] H3 ⟨fun v9 H4 =>
 @qbb (eun .not v9) ⟨fun v10 =>
 @qbv v10 ⟨fun q=>if q=true then @cG 110 [nv 1] H4 ⟨fun v11 H5 =>
 @qbb (qbc (.ext 0) [v11]) ⟨fun v12 =>
 @qbb (qbc (.ext 1) [v11]) ⟨fun v13 =>
 @qbn (xact (.st 3) H5 [H2,v12]) ⟨fun _v H6 =>
 @qbb (qbd (some 3) H6 [H2]) ⟨fun r0=>R (.tuple [r0,v13].toArray) H6⟩⟩⟩⟩⟩ else
 @qbb (qbc (.fld 0) [H]) ⟨fun v14 =>
 @qbb (qbd none H4 [v14]) ⟨fun v15 =>
 @qbb (qbc (.fld 2) [H]) ⟨fun v16 =>
 @qbb (qbd none H4 [v16]) ⟨fun v17 =>
 @qbb (qbc (.fn 120 0 1) [H1]) ⟨fun v18 =>
 @cG 119 [v15,v17,v18] H4 ⟨fun v19 H7 =>
 @qbb (qbc (.fld 0) [H]) ⟨fun v20 =>
 @qbb (qbd none H7 [v20]) ⟨fun v21 =>
 @qbb (qbc (.fld 1) [H]) ⟨fun v22 =>
 @qbb (qbd none H7 [v22]) ⟨fun v23 =>
 @qbb (xbin .sub 0 v23 (nv 1)) ⟨fun v24 =>
 @qbb (qbd none H7 [H1]) ⟨fun v26 =>
 @cG 118 [v26] H7 ⟨fun v27 H8 =>
 (chkX [3,1] (⟨3,none,[v22],v23⟩ :: (⟨1,none,[v20],v21⟩ :: [])) H8∧@cG 113 [v19,v27] H8 ⟨fun v28 H9 =>
 (chkX [3,1] (⟨3,none,[v22],v23⟩ :: (⟨1,none,[v20],v21⟩ :: [])) H9∧@cG 112 [v21,v24,v28] H9 ⟨fun v29 H10 =>
 @qbb (qbc (.ext 0) [v29]) ⟨fun v30 =>
 @qbb (qbc (.ext 1) [v29]) ⟨fun v31 =>
 @qbn (xact (.st 3) H10 [H2,v30]) ⟨fun _v H11 =>
 @qbb (qbd (some 3) H11 [H2]) ⟨fun r0=>R (.tuple [r0,v31].toArray) H11⟩⟩⟩⟩⟩)⟩)⟩⟩⟩⟩⟩⟩⟩⟩⟩⟩⟩⟩⟩⟩⟩⟩⟩⟩⟩⟩⟩
theorem g70_of {c0 i1:Value} {H:AH} {R:Value→AH→Prop} (h:g70 c0 i1 H R):FN Tryz.prog 70 [c0,i1] H R:=
  FN.of_XM (ms:=[]) qbt (cast (by kernel_rfl) h)
def g71 (a0 b1:Value) (H:AH) (R:Value→AH→Prop):Prop:=
 @letH (H++[.cells (qbq a0) 29 none false]) ⟨fun H1 =>
 @letH (H1++[.cells (qbq b1) 29 none false]) ⟨fun H2 =>
 @letH (H2++[.cells [nv 0,nv 0,.slice none 0 0] 29 none false]) ⟨fun H3 =>
 @qbb (qbc (.fld 0) [H]) ⟨fun v9 =>
 @qbb (qbd none H3 [v9]) ⟨fun v10 =>
 @qbb (qbc (.fld 0) [H1]) ⟨fun v11 =>
 @qbb (qbd none H3 [v11]) ⟨fun v12 =>
 @qbb (xbin .neq 0 v10 v12) ⟨fun v13 =>
 @qbv v13 ⟨fun q=>if q=true then @cG 110 [nv 1] H3 ⟨fun v14 H4 =>
 @qbb (qbc (.ext 0) [v14]) ⟨fun v15 =>
 @qbb (qbc (.ext 1) [v14]) ⟨fun v16 =>
 @qbn (xact (.st 3) H4 [H2,v15]) ⟨fun _v H5 =>
 @qbb (qbd (some 3) H5 [H2]) ⟨fun r0=>R (.tuple [r0,v16].toArray) H5⟩⟩⟩⟩⟩ else
 @qbb (qbc (.fld 1) [H]) ⟨fun v18 =>
 @qbb (qbd none H3 [v18]) ⟨fun v19 =>
 @qbb (qbc (.fld 1) [H1]) ⟨fun v20 =>
 @qbb (qbd none H3 [v20]) ⟨fun v21 =>
 @qbb (xbin .add 0 v19 v21) ⟨fun v22 =>
 @qbb (xbin .gtr 0 v22 (nv 24)) ⟨fun v23 =>
 @qbv v23 ⟨fun q=>if q=true then @cG 110 [nv 2] H3 ⟨fun v24 H6 =>
 @qbb (qbc (.ext 0) [v24]) ⟨fun v25 =>
 @qbb (qbc (.ext 1) [v24]) ⟨fun v26 =>
 @qbn (xact (.st 3) H6 [H2,v25]) ⟨fun _v H7 =>
 @qbb (qbd (some 3) H7 [H2]) ⟨fun r0=>R (.tuple [r0,v26].toArray) H7⟩⟩⟩⟩⟩ else
 @qbb (qbc (.fld 2) [H]) ⟨fun v27 =>
 @qbb (qbd none H3 [v27]) ⟨fun v28 =>
 @qbb (qbc (.fn 121 0 1) [H1]) ⟨fun v29 =>
 @cG 113 [v28,v29] H3 ⟨fun v30 H8 =>
 @qbb (qbc (.fld 2) [H1]) ⟨fun v31 =>
 @qbb (qbd none H8 [v31]) ⟨fun v32 =>
 @qbb (qbc (.fn 123 0 1) [H]) ⟨fun v33 =>
 @cG 113 [v32,v33] H8 ⟨fun v34 H9 =>
 @qbb (qbc (.fld 0) [H]) ⟨fun v35 =>
 @qbb (qbd none H9 [v35]) ⟨fun v36 =>
 @qbb (qbc (.fld 1) [H]) ⟨fun v37 =>
 @qbb (qbd none H9 [v37]) ⟨fun v38 =>
 @qbb (qbc (.fld 1) [H1]) ⟨fun v39 =>
 @qbb (qbd none H9 [v39]) ⟨fun v40 =>
 @qbb (xbin .add 0 v38 v40) ⟨fun v41 =>
 @qb0 (qbr [.slice none 0 0,.slice none 0 0] [(0,1),(1,1)] [v30,v34]) ⟨fun cv44=>@letH (H9++[.cells cv44 27 none false]) ⟨fun H10 =>
 @cG 124 [(.slice (some ⟨H9.length,0,none⟩) 2 2)] H10 ⟨fun v45 H11 =>
 (chkX [5,3,1] (⟨5,none,[v39],v40⟩ :: (⟨3,none,[v37],v38⟩ :: (⟨1,none,[v35],v36⟩ :: []))) H11∧@cG 112 [v36,v41,v45] H11 ⟨fun v46 H12 =>
 @qbb (qbc (.ext 0) [v46]) ⟨fun v47 =>
 @qbb (qbc (.ext 1) [v46]) ⟨fun v48 =>
 @qbn (xact (.st 3) H12 [H2,v47]) ⟨fun _v H13 =>
 @qbb (qbd (some 3) H13 [H2]) ⟨fun r0=>R (.tuple [r0,v48].toArray) H13⟩⟩⟩⟩⟩)⟩⟩⟩⟩⟩⟩⟩⟩⟩⟩⟩⟩⟩⟩⟩⟩⟩⟩⟩⟩⟩⟩⟩⟩⟩⟩⟩⟩⟩⟩⟩⟩⟩⟩
theorem g71_of {a0 b1:Value} {H:AH} {R:Value→AH→Prop} (h:g71 a0 b1 H R):FN Tryz.prog 71 [a0,b1] H R:=
  FN.of_XM (ms:=[]) qbt (cast (by kernel_rfl) h)
def g72 (a0 b1:Value) (H:AH) (R:Value→AH→Prop):Prop:=
 @letH (H++[.cells (qbq a0) 29 none false]) ⟨fun H1 =>
 @letH (H1++[.cells (qbq b1) 29 none false]) ⟨fun H2 =>
 @letH (H2++[.cells [nv 0,nv 0,.slice none 0 0] 29 none false]) ⟨fun H3 =>
 @qbb (qbc (.fld 0) [H]) ⟨fun v9 =>
 @qbb (qbd none H3 [v9]) ⟨fun v10 =>
 @qbb (qbc (.fld 0) [H1]) ⟨fun v11 =>
 @qbb (qbd none H3 [v11]) ⟨fun v12 =>
 @qbb (xbin .neq 0 v10 v12) ⟨fun v13 =>
 @qbf (asNB v13) (fun J1=>@qbb (qbc (.fld 1) [H]) ⟨fun v15 =>
 J1 v15 H3⟩) H3 ⟨fun v15a H4 =>
 @qbf (asNB v13) (fun J2=>@qbb (qbd none H4 [v15a]) ⟨fun v16 =>
 J2 v16 H4⟩) H4 ⟨fun v16a H5 =>
 @qbf (asNB v13) (fun J3=>@qbb (qbc (.fld 1) [H1]) ⟨fun v17 =>
 J3 v17 H5⟩) H5 ⟨fun v17a H6 =>
 @qbf (asNB v13) (fun J4=>@qbb (qbd none H6 [v17a]) ⟨fun v18 =>
 J4 v18 H6⟩) H6 ⟨fun v18a H7 =>
 @qbf (asNB v13) (fun J5=>@qbb (xbin .neq 0 v16a v18a) ⟨fun v19 =>
 J5 v19 H7⟩) H7 ⟨fun v19a H8 =>
 @qcs v13 (.bool true) v19a ⟨fun v20 =>
 @qbv v20 ⟨fun q=>if q=true then @cG 110 [nv 1] H8 ⟨fun v21 H9 =>
 @qbb (qbc (.ext 0) [v21]) ⟨fun v22 =>
 @qbb (qbc (.ext 1) [v21]) ⟨fun v23 =>
 @qbn (xact (.st 3) H9 [H2,v22]) ⟨fun _v H10 =>
 @qbb (qbd (some 3) H10 [H2]) ⟨fun r0=>R (.tuple [r0,v23].toArray) H10⟩⟩⟩⟩⟩ else
 @qbb (qbc (.fld 1) [H]) ⟨fun v25 =>
 @qbb (qbd none H8 [v25]) ⟨fun v26 =>
 @qbb (xbin .mul 0 (nv 2) v26) ⟨fun v27 =>
 @qbb (xbin .gtr 0 v27 (nv 24)) ⟨fun v28 =>
 @qbv v28 ⟨fun q=>if q=true then @cG 110 [nv 2] H8 ⟨fun v29 H11 =>
 @qbb (qbc (.ext 0) [v29]) ⟨fun v30 =>
 @qbb (qbc (.ext 1) [v29]) ⟨fun v31 =>
 @qbn (xact (.st 3) H11 [H2,v30]) ⟨fun _v H12 =>
 @qbb (qbd (some 3) H12 [H2]) ⟨fun r0=>R (.tuple [r0,v31].toArray) H12⟩⟩⟩⟩⟩ else
 @qbb (qbc (.fld 2) [H]) ⟨fun v32 =>
 @qbb (qbd none H8 [v32]) ⟨fun v33 =>
 @cG 113 [v33,(.func (.func 125) #[] #[])] H8 ⟨fun v34 H13 =>
 @qbb (qbc (.fld 2) [H1]) ⟨fun v35 =>
 @qbb (qbd none H13 [v35]) ⟨fun v36 =>
 @qbb (qbc (.fn 126 0 1) [H]) ⟨fun v37 =>
 @cG 113 [v36,v37] H13 ⟨fun v38 H14 =>
 @qbb (qbc (.fld 0) [H]) ⟨fun v39 =>
 @qbb (qbd none H14 [v39]) ⟨fun v40 =>
 @qbb (qbc (.fld 1) [H]) ⟨fun v41 =>
 @qbb (qbd none H14 [v41]) ⟨fun v42 =>
 @qbb (xbin .mul 0 (nv 2) v42) ⟨fun v43 =>
 @qb0 (qbr [.slice none 0 0,.slice none 0 0] [(0,1),(1,1)] [v34,v38]) ⟨fun cv46=>@letH (H14++[.cells cv46 27 none false]) ⟨fun H15 =>
 @cG 124 [(.slice (some ⟨H14.length,0,none⟩) 2 2)] H15 ⟨fun v47 H16 =>
 (chkX [3,1] (⟨3,none,[v41],v42⟩ :: (⟨1,none,[v39],v40⟩ :: [])) H16∧@cG 112 [v40,v43,v47] H16 ⟨fun v48 H17 =>
 @qbb (qbc (.ext 0) [v48]) ⟨fun v49 =>
 @qbb (qbc (.ext 1) [v48]) ⟨fun v50 =>
 @qbn (xact (.st 3) H17 [H2,v49]) ⟨fun _v H18 =>
 @qbb (qbd (some 3) H18 [H2]) ⟨fun r0=>R (.tuple [r0,v50].toArray) H18⟩⟩⟩⟩⟩)⟩⟩⟩⟩⟩⟩⟩⟩⟩⟩⟩⟩⟩⟩⟩⟩⟩⟩⟩⟩⟩⟩⟩⟩⟩⟩⟩⟩⟩⟩⟩⟩⟩⟩⟩
theorem g72_of {a0 b1:Value} {H:AH} {R:Value→AH→Prop} (h:g72 a0 b1 H R):FN Tryz.prog 72 [a0,b1] H R:=
  FN.of_XM (ms:=[]) qbt (cast (by kernel_rfl) h)
def g73 (outer0 inner1:Value) (H:AH) (R:Value→AH→Prop):Prop:=
 @letH (H++[.cells (qbq outer0) 29 none false]) ⟨fun H1 =>
 @letH (H1++[.cells (qbq inner1) 29 none false]) ⟨fun H2 =>
 @letH (H2++[.cells [nv 0,nv 0,.slice none 0 0] 29 none false]) ⟨fun H3 =>
 @qbb (qbc (.fld 0) [H]) ⟨fun v11 =>
 @qbb (qbd none H3 [v11]) ⟨fun v12 =>
 @qbb (xbin .neq 0 v12 (nv 4)) ⟨fun v13 =>
 @qbf (asNB v13) (fun J1=>@qbb (qbc (.fld 0) [H1]) ⟨fun v15 =>
 J1 v15 H3⟩) H3 ⟨fun v15a H4 =>
 @qbf (asNB v13) (fun J2=>@qbb (qbd none H4 [v15a]) ⟨fun v16 =>
 J2 v16 H4⟩) H4 ⟨fun v16a H5 =>
 @qbf (asNB v13) (fun J3=>@qbb (xbin .neq 0 v16a (nv 2)) ⟨fun v17 =>
 J3 v17 H5⟩) H5 ⟨fun v17a H6 =>
 @qcs v13 (.bool true) v17a ⟨fun v18 =>
 @qbf (asNB v18) (fun J4=>@qbb (qbc (.fld 2) [H1]) ⟨fun v20 =>
 J4 v20 H6⟩) H6 ⟨fun v20a H7 =>
 @qbf (asNB v18) (fun J5=>@qbb (qbd none H7 [v20a]) ⟨fun v21 =>
 J5 v21 H7⟩) H7 ⟨fun v21a H8 =>
 @qbf (asNB v18) (fun J6=>@qbb (qbc .lenS [v21a]) ⟨fun v22 =>
 J6 v22 H8⟩) H8 ⟨fun v22a H9 =>
 @qbf (asNB v18) (fun J7=>@qbb (xbin .neq 0 v22a (nv 2)) ⟨fun v23 =>
 J7 v23 H9⟩) H9 ⟨fun v23a H10 =>
 @qcs v18 (.bool true) v23a ⟨fun v24 =>
 @qbv v24 ⟨fun q=>if q=true then @cG 110 [nv 1] H10 ⟨fun v25 H11 =>
 @qbb (qbc (.ext 0) [v25]) ⟨fun v26 =>
 @qbb (qbc (.ext 1) [v25]) ⟨fun v27 =>
 @qbn (xact (.st 3) H11 [H2,v26]) ⟨fun _v H12 =>
 @qbb (qbd (some 3) H12 [H2]) ⟨fun r0=>R (.tuple [r0,v27].toArray) H12⟩⟩⟩⟩⟩ else
 @qbb (qbc (.fld 1) [H]) ⟨fun v29 =>
 @qbb (qbd none H10 [v29]) ⟨fun v30 =>
 @qbb (qbc (.fld 1) [H1]) ⟨fun v31 =>
 @qbb (qbd none H10 [v31]) ⟨fun v32 =>
 @qbb (xbin .mul 0 v30 v32) ⟨fun v33 =>
 @qbb (xbin .gtr 0 v33 (nv 24)) ⟨fun v34 =>
 @qbv v34 ⟨fun q=>if q=true then @cG 110 [nv 2] H10 ⟨fun v35 H13 =>
 @qbb (qbc (.ext 0) [v35]) ⟨fun v36 =>
 @qbb (qbc (.ext 1) [v35]) ⟨fun v37 =>
 @qbn (xact (.st 3) H13 [H2,v36]) ⟨fun _v H14 =>
 @qbb (qbd (some 3) H14 [H2]) ⟨fun r0=>R (.tuple [r0,v37].toArray) H14⟩⟩⟩⟩⟩ else
 @qbb (qbc (.fn 127 0 1) [H1]) ⟨fun v38 =>
 @cG 111 [nv 4] H10 ⟨fun v40 H15 =>
 @qbb (qbc (.ext 0) [v40]) ⟨fun v41 =>
 @qbb (qbc (.ext 1) [v40]) ⟨fun v42 =>
 @letH (H15++[.cells [nv 0,nv 0,.slice none 0 0] 76 none false]) ⟨fun H16 =>
 @qbn (xact (.st 3) H16 [H15,v41]) ⟨fun _v H17 =>
 @qbb (qbc (.fld 2) [H]) ⟨fun v43 =>
 @qbb (qbd none H17 [v43]) ⟨fun v44 =>
 @qbb (qbc (.fn 128 0 1) [H15]) ⟨fun v45 =>
 @cG 113 [v44,v45] H17 ⟨fun v46 H18 =>
 @qbb (qbc (.fld 1) [H]) ⟨fun v47 =>
 @qbb (qbd none H18 [v47]) ⟨fun v48 =>
 @qbb (qbc (.fld 1) [H1]) ⟨fun v49 =>
 @qbb (qbd none H18 [v49]) ⟨fun v50 =>
 @qbb (xbin .mul 0 v48 v50) ⟨fun v51 =>
 @qbb (qbc (.fld 2) [H]) ⟨fun v52 =>
 @qbb (qbd none H18 [v52]) ⟨fun v53 =>
 @qb0 (qbr [.slice none 0 0,.slice none 0 0] [(0,1),(1,1)] [v53,v46]) ⟨fun cv55=>@letH (H18++[.cells cv55 27 none false]) ⟨fun H19 =>
 @cG 124 [(.slice (some ⟨H18.length,0,none⟩) 2 2)] H19 ⟨fun v56 H20 =>
 (chkX [3,1] (⟨3,none,[v49],v50⟩ :: (⟨1,none,[v47],v48⟩ :: [])) H20∧@cG 113 [v56,v38] H20 ⟨fun v58 H21 =>
 (chkX [3,1] (⟨3,none,[v49],v50⟩ :: (⟨1,none,[v47],v48⟩ :: [])) H21∧@cG 112 [nv 2,v51,v58] H21 ⟨fun v59 H22 =>
 @qbb (qbc (.ext 0) [v59]) ⟨fun v60 =>
 @qbb (qbc (.ext 1) [v59]) ⟨fun v61 =>
 @qbn (xact (.st 3) H22 [H2,v60]) ⟨fun _v H23 =>
 @qbb (qbd (some 3) H23 [H2]) ⟨fun r0=>R (.tuple [r0,v61].toArray) H23⟩⟩⟩⟩⟩)⟩)⟩⟩⟩⟩⟩⟩⟩⟩⟩⟩⟩⟩⟩⟩⟩⟩⟩⟩⟩⟩⟩⟩⟩⟩⟩⟩⟩⟩⟩⟩⟩⟩⟩⟩⟩⟩⟩⟩⟩⟩⟩⟩⟩
theorem g73_of {outer0 inner1:Value} {H:AH} {R:Value→AH→Prop} (h:g73 outer0 inner1 H R):FN Tryz.prog 73 [outer0,inner1] H R:=
  FN.of_XM (ms:=[]) qbt (cast (by kernel_rfl) h)
def g74 (f0 a1 l2:Value) (H:AH) (R:Value→AH→Prop):Prop:=
 @letH (H++[.cells (qbq f0) 76 none false]) ⟨fun H1 =>
 @qb0 (qbr [] [] []) ⟨fun cv9=>@letH (H1++[.cells cv9 3 none false]) ⟨fun H2 =>
 @loopV2 (.slice (some ⟨H1.length,0,none⟩) 0 0) (nv 0) H2 ⟨fun out7 i8 H3 K1 =>
 @qbb (qbc .lenS [l2]) ⟨fun v12 =>
 @qbb (xbin .lss 0 i8 v12) ⟨fun v13 =>
 @qbv v13 ⟨fun q=>if q=true then @qbb (qbd (some 3) H3 [H]) ⟨fun v17 =>
 @qbb (qbc (.ixS 1) [l2,i8]) ⟨fun v21 =>
 @qbb (qbd none H3 [v21]) ⟨fun v22 =>
 @cG 132 [v17,a1,v22] H3 ⟨fun v23 H4 =>
 @qb0 (qbr [nv 0] [(0,1)] [v23]) ⟨fun cv24=>@letH (H4++[.cells cv24 3 none false]) ⟨fun H5 =>
 @qbn (xact (.app 3 1 8) H5 [out7,(.slice (some ⟨H4.length,0,none⟩) 1 1)]) ⟨fun v25 H6 =>
 @qbb (xbin .add 0 i8 (nv 1)) ⟨fun v15 =>
 K1 v25 v15 H6⟩⟩⟩⟩⟩⟩⟩⟩ else
 R out7 H3⟩⟩⟩⟩⟩⟩⟩
theorem g74_of {f0 a1 l2:Value} {H:AH} {R:Value→AH→Prop} (h:g74 f0 a1 l2 H R):FN Tryz.prog 74 [f0,a1,l2] H R:=
  FN.of_XM (ms:=[(4,[7,8])]) qbt (cast (by kernel_rfl) h)
def g75 (c0:Value) (H:AH) (R:Value→AH→Prop):Prop:=
 @letH (H++[.cells (qbq c0) 29 none false]) ⟨fun H1 =>
 @letH (H1++[.cells [nv 0,nv 0,.slice none 0 0] 29 none false]) ⟨fun H2 =>
 @qbb (qbc (.fld 0) [H]) ⟨fun v4 =>
 @qbb (qbd none H2 [v4]) ⟨fun v5 =>
 @qbb (xbin .neq 0 v5 (nv 2)) ⟨fun v6 =>
 @qbv v6 ⟨fun q=>if q=true then @cG 110 [nv 1] H2 ⟨fun v7 H3 =>
 @qbb (qbc (.ext 0) [v7]) ⟨fun v8 =>
 @qbb (qbc (.ext 1) [v7]) ⟨fun v9 =>
 @qbn (xact (.st 3) H3 [H1,v8]) ⟨fun _v H4 =>
 @qbb (qbd (some 3) H4 [H1]) ⟨fun r0=>R (.tuple [r0,v9].toArray) H4⟩⟩⟩⟩⟩ else
 @qbb (qbc (.fld 1) [H]) ⟨fun v10 =>
 @qbb (qbd none H2 [v10]) ⟨fun v11 =>
 @qbb (qbc (.fld 2) [H]) ⟨fun v12 =>
 @qbb (qbd none H2 [v12]) ⟨fun v13 =>
 @cG 119 [nv 2,v13,(.func (.func 133) #[] #[])] H2 ⟨fun v14 H5 =>
 (chkX [1] (⟨1,none,[v10],v11⟩ :: []) H5∧@cG 112 [nv 2,v11,v14] H5 ⟨fun v15 H6 =>
 @qbb (qbc (.ext 0) [v15]) ⟨fun v16 =>
 @qbb (qbc (.ext 1) [v15]) ⟨fun v17 =>
 @qbn (xact (.st 3) H6 [H1,v16]) ⟨fun _v H7 =>
 @qbb (qbd (some 3) H7 [H1]) ⟨fun r0=>R (.tuple [r0,v17].toArray) H7⟩⟩⟩⟩⟩)⟩⟩⟩⟩⟩⟩⟩⟩⟩⟩⟩
theorem g75_of {c0:Value} {H:AH} {R:Value→AH→Prop} (h:g75 c0 H R):FN Tryz.prog 75 [c0] H R:=
  FN.of_XM (ms:=[]) qbt (cast (by kernel_rfl) h)
def g76 (c0 g1:Value) (H:AH) (R:Value→AH→Prop):Prop:=
 @letH (H++[.cells (qbq c0) 29 none false]) ⟨fun H1 =>
 @letH (H1++[.cells (qbq g1) 31 none false]) ⟨fun H2 =>
 @letH (H2++[.cells [nv 0,nv 0,.slice none 0 0] 29 none false]) ⟨fun H3 =>
 @qbb (qbc (.fld 1) [H]) ⟨fun v9 =>
 @qbb (qbd none H3 [v9]) ⟨fun v10 =>
 @qsh (xnew (.make (.bool false) 1 1 4) [v10,v10]) ⟨fun cv11 ev11 mkv11=>@letH (H3++[.cells cv11 ev11 none false]) ⟨fun H4 =>
 @qbb (qbd none H4 [H1]) ⟨fun v12 =>
 @qbb (qbc .lenS [v12]) ⟨fun v13 =>
 @loopV1 (nv 0) H4 ⟨fun v14 H5 K1 =>
 @qbb (xbin .lss 0 v14 v13) ⟨fun v15 =>
 @qbv v15 ⟨fun q=>if q=true then @qbb (qbc (.ixS 1) [v12,v14]) ⟨fun v16 =>
 @qbb (qbd none H5 [v16]) ⟨fun v17 =>
 @qbb (xbin .lss 0 v17 (nv 0)) ⟨fun v19 =>
 @qbf (asNB v19) (fun J2=>J2 v17 H5) H5 ⟨fun v21 H6 =>
 @qbf (asNB v19) (fun J3=>@qbb (qbc (.fld 1) [H]) ⟨fun v22 =>
 J3 v22 H6⟩) H6 ⟨fun v22a H7 =>
 @qbf (asNB v19) (fun J4=>@qbb (qbd none H7 [v22a]) ⟨fun v23 =>
 J4 v23 H7⟩) H7 ⟨fun v23a H8 =>
 @qbf (asNB v19) (fun J5=>@qbb (xbin .geq 0 v21 v23a) ⟨fun v24 =>
 J5 v24 H8⟩) H8 ⟨fun v24a H9 =>
 @qcs v19 (.bool true) v24a ⟨fun v25 =>
 @qbf (asNB v25) (fun J6=>J6 (mkv11 H3.length) H9) H9 ⟨fun v27 H10 =>
 @qbf (asNB v25) (fun J7=>J7 v17 H10) H10 ⟨fun v28 H11 =>
 @qbf (asNB v25) (fun J8=>@qbb (qbc (.ixS 1) [v27,v28]) ⟨fun v29 =>
 J8 v29 H11⟩) H11 ⟨fun v29a H12 =>
 @qbf (asNB v25) (fun J9=>@qbb (qbd none H12 [v29a]) ⟨fun v30 =>
 J9 v30 H12⟩) H12 ⟨fun v30a H13 =>
 @qcs v25 (.bool true) v30a ⟨fun v31 =>
 @qbv v31 ⟨fun q=>if q=true then @cG 110 [nv 1] H13 ⟨fun v32 H14 =>
 @qbb (qbc (.ext 0) [v32]) ⟨fun v33 =>
 @qbb (qbc (.ext 1) [v32]) ⟨fun v34 =>
 @qbn (xact (.st 3) H14 [H2,v33]) ⟨fun _v H15 =>
 @qbb (qbd (some 3) H15 [H2]) ⟨fun r0=>R (.tuple [r0,v34].toArray) H15⟩⟩⟩⟩⟩ else
 @qbb (qbc (.ixS 1) [(mkv11 H3.length),v17]) ⟨fun v37 =>
 @qbn (xact (.st 1) H13 [v37,(.bool true)]) ⟨fun _v H16 =>
 @qbb (xbin .add 0 v14 (nv 1)) ⟨fun v38 =>
 K1 v38 H16⟩⟩⟩⟩⟩⟩⟩⟩⟩⟩⟩⟩⟩⟩⟩⟩⟩ else
 @qbb (qbd none H5 [H1]) ⟨fun v39 =>
 @qbb (qbc .lenS [v39]) ⟨fun v40 =>
 @qbb (qbc (.fld 1) [H]) ⟨fun v41 =>
 @qbb (qbd none H5 [v41]) ⟨fun v42 =>
 @qbb (xbin .neq 0 v40 v42) ⟨fun v43 =>
 @qbv v43 ⟨fun q=>if q=true then @cG 110 [nv 1] H5 ⟨fun v44 H17 =>
 @qbb (qbc (.ext 0) [v44]) ⟨fun v45 =>
 @qbb (qbc (.ext 1) [v44]) ⟨fun v46 =>
 @qbn (xact (.st 3) H17 [H2,v45]) ⟨fun _v H18 =>
 @qbb (qbd (some 3) H18 [H2]) ⟨fun r0=>R (.tuple [r0,v46].toArray) H18⟩⟩⟩⟩⟩ else
 @qbb (qbc (.fld 0) [H]) ⟨fun v47 =>
 @qbb (qbd none H5 [v47]) ⟨fun v48 =>
 @qbb (qbc (.fld 1) [H]) ⟨fun v49 =>
 @qbb (qbd none H5 [v49]) ⟨fun v50 =>
 @qbb (qbc (.fld 2) [H]) ⟨fun v51 =>
 @qbb (qbd none H5 [v51]) ⟨fun v52 =>
 @qbb (qbc (.fn 134 0 2) [H,H1]) ⟨fun v53 =>
 @cG 113 [v52,v53] H5 ⟨fun v54 H19 =>
 (chkX [3,1] (⟨3,none,[v49],v50⟩ :: (⟨1,none,[v47],v48⟩ :: [])) H19∧@cG 112 [v48,v50,v54] H19 ⟨fun v55 H20 =>
 @qbb (qbc (.ext 0) [v55]) ⟨fun v56 =>
 @qbb (qbc (.ext 1) [v55]) ⟨fun v57 =>
 @qbn (xact (.st 3) H20 [H2,v56]) ⟨fun _v H21 =>
 @qbb (qbd (some 3) H21 [H2]) ⟨fun r0=>R (.tuple [r0,v57].toArray) H21⟩⟩⟩⟩⟩)⟩⟩⟩⟩⟩⟩⟩⟩⟩⟩⟩⟩⟩⟩⟩⟩⟩⟩⟩⟩⟩⟩⟩⟩⟩⟩
theorem g76_of {c0 g1:Value} {H:AH} {R:Value→AH→Prop} (h:g76 c0 g1 H R):FN Tryz.prog 76 [c0,g1] H R:=
  FN.of_XM (ms:=[(4,[14])]) qbt (cast (by kernel_rfl) h)
def g77 (g0 n1:Value) (H:AH) (R:Value→AH→Prop):Prop:=
 @qbb (qbc .lenS [g0]) ⟨fun v8 =>
 @qbb (xbin .neq 0 v8 n1) ⟨fun v10 =>
 @qbv v10 ⟨fun q=>if q=true then R (.bool false) H else
 @loopV1 (nv 0) H ⟨fun i5 H1 K1 =>
 @qbb (xbin .lss 0 i5 n1) ⟨fun v13 =>
 @qbv v13 ⟨fun q=>if q=true then @qbb (qbc (.ixS 1) [g0,i5]) ⟨fun v18 =>
 @qbb (qbd none H1 [v18]) ⟨fun v19 =>
 @qbb (xbin .lss 0 v19 (nv 0)) ⟨fun v20 =>
 @qbf (asNB v20) (fun J2=>J2 g0 H1) H1 ⟨fun v22 H2 =>
 @qbf (asNB v20) (fun J3=>J3 i5 H2) H2 ⟨fun v23 H3 =>
 @qbf (asNB v20) (fun J4=>@qbb (qbc (.ixS 1) [v22,v23]) ⟨fun v24 =>
 J4 v24 H3⟩) H3 ⟨fun v24a H4 =>
 @qbf (asNB v20) (fun J5=>@qbb (qbd none H4 [v24a]) ⟨fun v25 =>
 J5 v25 H4⟩) H4 ⟨fun v25a H5 =>
 @qbf (asNB v20) (fun J6=>J6 n1 H5) H5 ⟨fun v26 H6 =>
 @qbf (asNB v20) (fun J7=>@qbb (xbin .geq 0 v25a v26) ⟨fun v27 =>
 J7 v27 H6⟩) H6 ⟨fun v27a H7 =>
 @qcs v20 (.bool true) v27a ⟨fun v28 =>
 @qbv v28 ⟨fun q=>if q=true then R (.bool false) H7 else
 @loopV1 (nv 0) H7 ⟨fun k6 H8 K8 =>
 @qbb (xbin .lss 0 k6 i5) ⟨fun v31 =>
 @qbv v31 ⟨fun q=>if q=true then @qbb (qbc (.ixS 1) [g0,k6]) ⟨fun v36 =>
 @qbb (qbd none H8 [v36]) ⟨fun v37 =>
 @qbb (qbc (.ixS 1) [g0,i5]) ⟨fun v40 =>
 @qbb (qbd none H8 [v40]) ⟨fun v41 =>
 @qbb (xbin .eql 0 v37 v41) ⟨fun v42 =>
 @qbv v42 ⟨fun q=>if q=true then R (.bool false) H8 else
 @qbb (xbin .add 0 k6 (nv 1)) ⟨fun v33 =>
 K8 v33 H8⟩⟩⟩⟩⟩⟩⟩ else
 @qbb (xbin .add 0 i5 (nv 1)) ⟨fun v15 =>
 K1 v15 H8⟩⟩⟩⟩⟩⟩⟩⟩⟩⟩⟩⟩⟩⟩⟩ else
 R (.bool true) H1⟩⟩⟩⟩⟩⟩
theorem g77_of {g0 n1:Value} {H:AH} {R:Value→AH→Prop} (h:g77 g0 n1 H R):FN Tryz.prog 77 [g0,n1] H R:=
  FN.of_XM (ms:=[(6,[5]),(14,[6])]) qbt (cast (by kernel_rfl) h)
def g78 (w0 g1:Value) (H:AH) (R:Value→AH→Prop):Prop:=
 @qbb (qbc .lenS [w0]) ⟨fun v8 =>
 @qsh (xnew (.make (nv 0) 1 8 3) [v8,v8]) ⟨fun cv9 ev9 mkv9=>@letH (H++[.cells cv9 ev9 none false]) ⟨fun H1 =>
 @loopV1 (nv 0) H1 ⟨fun i6 H2 K1 =>
 @qbb (qbc .lenS [w0]) ⟨fun v12 =>
 @qbb (xbin .lss 0 i6 v12) ⟨fun v13 =>
 @qbv v13 ⟨fun q=>if q=true then @qbb (qbc (.ixS 1) [g1,i6]) ⟨fun v19 =>
 @qbb (qbd none H2 [v19]) ⟨fun v20 =>
 @qbb (qbc (.ixS 1) [w0,i6]) ⟨fun v23 =>
 @qbb (qbd none H2 [v23]) ⟨fun v24 =>
 @qbb (qbc (.ixS 1) [(mkv9 H.length),v20]) ⟨fun v25 =>
 @qbn (xact (.st 1) H2 [v25,v24]) ⟨fun _v H3 =>
 @qbb (xbin .add 0 i6 (nv 1)) ⟨fun v15 =>
 K1 v15 H3⟩⟩⟩⟩⟩⟩⟩ else
 R (mkv9 H.length) H2⟩⟩⟩⟩⟩⟩⟩
theorem g78_of {w0 g1:Value} {H:AH} {R:Value→AH→Prop} (h:g78 w0 g1 H R):FN Tryz.prog 78 [w0,g1] H R:=
  FN.of_XM (ms:=[(4,[6])]) qbt (cast (by kernel_rfl) h)
def g79 (q0 n1 l2:Value) (H:AH) (R:Value→AH→Prop):Prop:=
 @cG 60 [n1] H ⟨fun v10 H1 =>
 @loopV1 (nv 0) H1 ⟨fun i8 H2 K1 =>
 @qbb (xbin .lss 0 i8 n1) ⟨fun v13 =>
 @qbf (asB v13) (fun J2=>J2 i8 H2) H2 ⟨fun v15 H3 =>
 @qbf (asB v13) (fun J3=>J3 l2 H3) H3 ⟨fun v16 H4 =>
 @qbf (asB v13) (fun J4=>@qbb (qbc .lenS [v16]) ⟨fun v17 =>
 J4 v17 H4⟩) H4 ⟨fun v17a H5 =>
 @qbf (asB v13) (fun J5=>@qbb (xbin .lss 0 v15 v17a) ⟨fun v18 =>
 J5 v18 H5⟩) H5 ⟨fun v18a H6 =>
 @qcs v13 v18a (.bool false) ⟨fun v19 =>
 @qbv v19 ⟨fun q=>if q=true then @qbb (qbc (.ixS 1) [l2,i8]) ⟨fun v26 =>
 @qbb (qbd none H6 [v26]) ⟨fun v27 =>
 @qbb (qbc (.conv .i64) [v27]) ⟨fun v28 =>
 @qbb (xbin .rem 0 v28 q0) ⟨fun v30 =>
 @qbb (qbc (.ixS 1) [v10,i8]) ⟨fun v31 =>
 @qbn (xact (.st 1) H6 [v31,v30]) ⟨fun _v H7 =>
 @qbb (xbin .add 0 i8 (nv 1)) ⟨fun v21 =>
 K1 v21 H7⟩⟩⟩⟩⟩⟩⟩ else
 R v10 H6⟩⟩⟩⟩⟩⟩⟩⟩⟩
theorem g79_of {q0 n1 l2:Value} {H:AH} {R:Value→AH→Prop} (h:g79 q0 n1 l2 H R):FN Tryz.prog 79 [q0,n1,l2] H R:=
  FN.of_XM (ms:=[(4,[8])]) qbt (cast (by kernel_rfl) h)
def g80 (row0:Value) (H:AH) (R:Value→AH→Prop):Prop:=
 @loopV1 (nv 0) H ⟨fun i3 H1 K1 =>
 @qbb (qbc (.ixS 1) [row0,i3]) ⟨fun v6 =>
 @qbb (qbd none H1 [v6]) ⟨fun v7 =>
 @qbb (xbin .eql 0 v7 (nv 0)) ⟨fun v8 =>
 @qbv v8 ⟨fun q=>if q=true then @qbb (xbin .add 0 i3 (nv 1)) ⟨fun v10 =>
 K1 v10 H1⟩ else
 R i3 H1⟩⟩⟩⟩⟩
theorem g80_of {row0:Value} {H:AH} {R:Value→AH→Prop} (h:g80 row0 H R):FN Tryz.prog 80 [row0] H R:=
  FN.of_XM (ms:=[(3,[3])]) qbt (cast (by kernel_rfl) h)
def g91 (a0 b1:Value) (H:AH) (R:Value→AH→Prop):Prop:=
 @qbb (qbc .lenS [a0]) ⟨fun v7 =>
 @qbb (qbc .lenS [b1]) ⟨fun v9 =>
 @qbb (xbin .neq 0 v7 v9) ⟨fun v10 =>
 @qbv v10 ⟨fun q=>if q=true then R (.bool false) H else
 @loopV1 (nv 0) H ⟨fun i5 H1 K1 =>
 @qbb (qbc .lenS [a0]) ⟨fun v13 =>
 @qbb (xbin .lss 0 i5 v13) ⟨fun v14 =>
 @qbv v14 ⟨fun q=>if q=true then @qbb (qbc (.ixS 1) [a0,i5]) ⟨fun v19 =>
 @qbb (qbd none H1 [v19]) ⟨fun v20 =>
 @qbb (qbc (.ixS 1) [b1,i5]) ⟨fun v23 =>
 @qbb (qbd none H1 [v23]) ⟨fun v24 =>
 @cG 145 [v20,v24] H1 ⟨fun v25 H2 =>
 @qbb (eun .not v25) ⟨fun v26 =>
 @qbv v26 ⟨fun q=>if q=true then R (.bool false) H2 else
 @qbb (xbin .add 0 i5 (nv 1)) ⟨fun v16 =>
 K1 v16 H2⟩⟩⟩⟩⟩⟩⟩⟩ else
 R (.bool true) H1⟩⟩⟩⟩⟩⟩⟩⟩
theorem g91_of {a0 b1:Value} {H:AH} {R:Value→AH→Prop} (h:g91 a0 b1 H R):FN Tryz.prog 91 [a0,b1] H R:=
  FN.of_XM (ms:=[(6,[5])]) qbt (cast (by kernel_rfl) h)
def g102 (s0:Value) (H:AH) (R:Value→AH→Prop):Prop:=
 @qbb (xbin .eql 2 s0 (.slice none 0 0)) ⟨fun v4 =>
 @qbv v4 ⟨fun q=>if q=true then R (.slice none 0 0) H else
 @qb0 (qbr [] [] []) ⟨fun cv5=>@letH (H++[.cells cv5 3 none false]) ⟨fun H1 =>
 @qbn (xact (.app 3 1 8) H1 [(.slice (some ⟨H.length,0,none⟩) 0 0),s0]) ⟨fun v7 H2 =>
 R v7 H2⟩⟩⟩⟩⟩
theorem g102_of {s0:Value} {H:AH} {R:Value→AH→Prop} (h:g102 s0 H R):FN Tryz.prog 102 [s0] H R:=
  FN.of_XM (ms:=[]) qbt (cast (by kernel_rfl) h)
def g108 (f0 a1 b2:Value) (H:AH) (R:Value→AH→Prop):Prop:=
 @letH (H++[.cells (qbq f0) 76 none false]) ⟨fun H1 =>
 @qb0 (qbr [] [] []) ⟨fun cv9=>@letH (H1++[.cells cv9 3 none false]) ⟨fun H2 =>
 @loopV2 (.slice (some ⟨H1.length,0,none⟩) 0 0) (nv 0) H2 ⟨fun out7 i8 H3 K1 =>
 @qbb (qbc .lenS [a1]) ⟨fun v12 =>
 @qbb (xbin .lss 0 i8 v12) ⟨fun v13 =>
 @qbv v13 ⟨fun q=>if q=true then @qbb (qbd (some 3) H3 [H]) ⟨fun v17 =>
 @qbb (qbc (.ixS 1) [a1,i8]) ⟨fun v20 =>
 @qbb (qbd none H3 [v20]) ⟨fun v21 =>
 @qbb (qbc (.ixS 1) [b2,i8]) ⟨fun v24 =>
 @qbb (qbd none H3 [v24]) ⟨fun v25 =>
 @cG 167 [v17,v21,v25] H3 ⟨fun v26 H4 =>
 @qb0 (qbr [nv 0] [(0,1)] [v26]) ⟨fun cv27=>@letH (H4++[.cells cv27 3 none false]) ⟨fun H5 =>
 @qbn (xact (.app 3 1 8) H5 [out7,(.slice (some ⟨H4.length,0,none⟩) 1 1)]) ⟨fun v28 H6 =>
 @qbb (xbin .add 0 i8 (nv 1)) ⟨fun v15 =>
 K1 v28 v15 H6⟩⟩⟩⟩⟩⟩⟩⟩⟩⟩ else
 R out7 H3⟩⟩⟩⟩⟩⟩⟩
theorem g108_of {f0 a1 b2:Value} {H:AH} {R:Value→AH→Prop} (h:g108 f0 a1 b2 H R):FN Tryz.prog 108 [f0,a1,b2] H R:=
  FN.of_XM (ms:=[(4,[7,8])]) qbt (cast (by kernel_rfl) h)
def g110 (e0:Value) (H:AH) (R:Value→AH→Prop):Prop:=
 @letH (H++[.cells [nv 0,nv 0,.slice none 0 0] 29 none false]) ⟨fun H1 =>
 @qb0 (qbr [nv 0,nv 0,.slice none 0 0] [] []) ⟨fun v4 =>
 @qbn (xact (.st 3) H1 [H,(.agg v4.toArray)]) ⟨fun _v H2 =>
 @qbb (qbd (some 3) H2 [H]) ⟨fun r0=>R (.tuple [r0,e0].toArray) H2⟩⟩⟩⟩
theorem g110_of {e0:Value} {H:AH} {R:Value→AH→Prop} (h:g110 e0 H R):FN Tryz.prog 110 [e0] H R:=
  FN.of_XM (ms:=[]) qbt (cast (by kernel_rfl) h)
def g112 (q0 n1 qg4:Value) (H:AH) (R:Value→AH→Prop):Prop:=
 @letH (H++[.cells [nv 0,nv 0,.slice none 0 0] 29 none false]) ⟨fun H1 =>
 @cG 111 [q0] H1 ⟨fun v12 H2 =>
 @qbb (qbc (.ext 0) [v12]) ⟨fun v13 =>
 @qbb (qbc (.ext 1) [v12]) ⟨fun v14 =>
 @letH (H2++[.cells [nv 0,nv 0,.slice none 0 0] 76 none false]) ⟨fun H3 =>
 @qbn (xact (.st 3) H3 [H2,v13]) ⟨fun _v H4 =>
 @qbb (qbd (some 3) H4 [H2]) ⟨fun v17 =>
 @cG 173 [v17,qg4] H4 ⟨fun v19 H5 =>
 @qb0 (qbr [nv 0,nv 0,.slice none 0 0] [(0,1),(1,1),(2,1)] [q0,n1,v19]) ⟨fun v20 =>
 @qbn (xact (.st 3) H5 [H,(.agg v20.toArray)]) ⟨fun _v H6 =>
 @qbb (qbd (some 3) H6 [H]) ⟨fun r0=>R (.tuple [r0,nv 0].toArray) H6⟩⟩⟩⟩⟩⟩⟩⟩⟩⟩⟩
theorem g112_of {q0 n1 qg4:Value} {H:AH} {R:Value→AH→Prop} (h:g112 q0 n1 qg4 H R):FN Tryz.prog 112 [q0,n1,qg4] H R:=
  FN.of_XM (ms:=[]) qbt (cast (by kernel_rfl) h)
def g113 (rows0 does1:Value) (H:AH) (R:Value→AH→Prop):Prop:=
 @qbb (qbc .lenS [rows0]) ⟨fun v9 =>
 @loopV2 (.slice none 0 0) (nv 0) H ⟨fun out5 v10 H1 K1 =>
 @qbb (xbin .lss 0 v10 v9) ⟨fun v11 =>
 @qbv v11 ⟨fun q=>if q=true then @qbb (qbc (.ixS 1) [rows0,v10]) ⟨fun v12 =>
 @qbb (qbd none H1 [v12]) ⟨fun v13 =>
 @qjr Tryz.prog [does1,v13] H1 ⟨fun v17 H2 =>
 @qb0 (qbr [.slice none 0 0] [(0,1)] [v17]) ⟨fun cv18=>@letH (H2++[.cells cv18 31 none false]) ⟨fun H3 =>
 @qbn (xact (.app 31 1 24) H3 [out5,(.slice (some ⟨H2.length,0,none⟩) 1 1)]) ⟨fun v19 H4 =>
 @qbb (xbin .add 0 v10 (nv 1)) ⟨fun v20 =>
 K1 v19 v20 H4⟩⟩⟩⟩⟩⟩⟩ else
 R out5 H1⟩⟩⟩⟩
theorem g113_of {rows0 does1:Value} {H:AH} {R:Value→AH→Prop} (h:g113 rows0 does1 H R):FN Tryz.prog 113 [rows0,does1] H R:=
  FN.of_XM (ms:=[(4,[5,10])]) qbt (cast (by kernel_rfl) h)
def g114 (r0 v1:Value) (H:AH) (R:Value→AH→Prop):Prop:=
 @qbb (qbc .lenS [r0]) ⟨fun v8 =>
 @loopV2 (nv 0) (nv 0) H ⟨fun last4 v9 H1 K1 =>
 @qbb (xbin .lss 0 v9 v8) ⟨fun v10 =>
 @qbv v10 ⟨fun q=>if q=true then @qbb (qbc (.ixS 1) [r0,v9]) ⟨fun v11 =>
 @qbb (qbd none H1 [v11]) ⟨fun v12 =>
 @qbb (qbd (some 3) H1 [v1]) ⟨fun v13 =>
 @cG 115 [v13,last4,v12] H1 ⟨fun v16 H2 =>
 @qbb (xbin .add 0 v9 (nv 1)) ⟨fun v17 =>
 K1 v16 v17 H2⟩⟩⟩⟩⟩ else
 @cG 102 [r0] H1 ⟨fun v19 H3 =>
 @qb0 (qbr [nv 0] [(0,1)] [last4]) ⟨fun cv21=>@letH (H3++[.cells cv21 3 none false]) ⟨fun H4 =>
 @qbn (xact (.app 3 1 8) H4 [v19,(.slice (some ⟨H3.length,0,none⟩) 1 1)]) ⟨fun v22 H5 =>
 R v22 H5⟩⟩⟩⟩⟩⟩⟩⟩
theorem g114_of {r0 v1:Value} {H:AH} {R:Value→AH→Prop} (h:g114 r0 v1 H R):FN Tryz.prog 114 [r0,v1] H R:=
  FN.of_XM (ms:=[(4,[4,9])]) qbt (cast (by kernel_rfl) h)
def g116 (f0 w1:Value) (H:AH) (R:Value→AH→Prop):Prop:=
 @letH (H++[.cells (qbq f0) 76 none false]) ⟨fun H1 =>
 @loopV2 (nv 0) (nv 0) H1 ⟨fun s5 i6 H2 K1 =>
 @qbb (qbc .lenS [w1]) ⟨fun v9 =>
 @qbb (xbin .lss 0 i6 v9) ⟨fun v10 =>
 @qbv v10 ⟨fun q=>if q=true then @qbb (qbd (some 3) H2 [H]) ⟨fun v13 =>
 @qbb (qbc (.ixS 1) [w1,i6]) ⟨fun v17 =>
 @qbb (qbd none H2 [v17]) ⟨fun v18 =>
 @cG 167 [v13,s5,v18] H2 ⟨fun v19 H3 =>
 @qbb (xbin .add 0 i6 (nv 1)) ⟨fun v12 =>
 K1 v19 v12 H3⟩⟩⟩⟩⟩ else
 R s5 H2⟩⟩⟩⟩⟩
theorem g116_of {f0 w1:Value} {H:AH} {R:Value→AH→Prop} (h:g116 f0 w1 H R):FN Tryz.prog 116 [f0,w1] H R:=
  FN.of_XM (ms:=[(4,[5,6])]) qbt (cast (by kernel_rfl) h)
def g117 (c0 i1:Value) (H:AH) (R:Value→AH→Prop):Prop:=
 @letH (H++[.cells (qbq c0) 29 none false]) ⟨fun H1 =>
 @qbb (xbin .geq 0 i1 (nv 0)) ⟨fun v6 =>
 @qbf (asB v6) (fun J1=>J1 i1 H1) H1 ⟨fun v8 H2 =>
 @qbf (asB v6) (fun J2=>@qbb (qbc (.fld 1) [H]) ⟨fun v9 =>
 J2 v9 H2⟩) H2 ⟨fun v9a H3 =>
 @qbf (asB v6) (fun J3=>@qbb (qbd none H3 [v9a]) ⟨fun v10 =>
 J3 v10 H3⟩) H3 ⟨fun v10a H4 =>
 @qbf (asB v6) (fun J4=>@qbb (xbin .lss 0 v8 v10a) ⟨fun v11 =>
 J4 v11 H4⟩) H4 ⟨fun v11a H5 =>
 @qcs v6 v11a (.bool false) ⟨fun v12 =>
 @qbf (asB v12) (fun J5=>@qbb (qbc (.fld 1) [H]) ⟨fun v14 =>
 J5 v14 H5⟩) H5 ⟨fun v14a H6 =>
 @qbf (asB v12) (fun J6=>@qbb (qbd none H6 [v14a]) ⟨fun v15 =>
 J6 v15 H6⟩) H6 ⟨fun v15a H7 =>
 @qbf (asB v12) (fun J7=>@qbb (xbin .geq 0 v15a (nv 2)) ⟨fun v16 =>
 J7 v16 H7⟩) H7 ⟨fun v16a H8 =>
 @qcs v12 v16a (.bool false) ⟨fun v17 =>
 R v17 H8⟩⟩⟩⟩⟩⟩⟩⟩⟩⟩⟩
theorem g117_of {c0 i1:Value} {H:AH} {R:Value→AH→Prop} (h:g117 c0 i1 H R):FN Tryz.prog 117 [c0,i1] H R:=
  FN.of_XM (ms:=[]) qbt (cast (by kernel_rfl) h)
def g118 (i0:Value) (H:AH) (R:Value→AH→Prop):Prop:=
 @letH (H++[.cells (qbq i0) 3 none false]) ⟨fun H1 =>
 @qbb (qbc (.fn 177 0 1) [H]) ⟨fun v3 =>
 R v3 H1⟩⟩
theorem g118_of {i0:Value} {H:AH} {R:Value→AH→Prop} (h:g118 i0 H R):FN Tryz.prog 118 [i0] H R:=
  FN.of_XM (ms:=[]) qbt (cast (by kernel_rfl) h)
def g119 (q0 rows1 value2:Value) (H:AH) (R:Value→AH→Prop):Prop:=
 @letH (H++[.cells (qbq value2) 50 none false]) ⟨fun H1 =>
 @cG 111 [q0] H1 ⟨fun v15 H2 =>
 @qbb (qbc (.ext 0) [v15]) ⟨fun v16 =>
 @qbb (qbc (.ext 1) [v15]) ⟨fun v17 =>
 @letH (H2++[.cells [nv 0,nv 0,.slice none 0 0] 76 none false]) ⟨fun H3 =>
 @qbn (xact (.st 3) H3 [H2,v16]) ⟨fun _v H4 =>
 @qbb (qbc (.fn 179 0 1) [H]) ⟨fun v19 =>
 @cG 140 [rows1,v19] H4 ⟨fun v20 H5 =>
 @qbb (xbin .lss 0 v20 (nv 0)) ⟨fun v22 =>
 @qbv v22 ⟨fun q=>if q=true then R rows1 H5 else
 @qbb (qbc (.ixS 1) [rows1,v20]) ⟨fun v26 =>
 @qbb (qbd none H5 [v26]) ⟨fun v27 =>
 @letH (H5++[.cells [.slice none 0 0] 31 none false]) ⟨fun H6 =>
 @qbn (xact (.st 1) H6 [H5,v27]) ⟨fun _v H7 =>
 @qbb (qbd (some 3) H7 [H2]) ⟨fun v29 =>
 @qbb (qbd none H7 [H]) ⟨fun v30 =>
 @qbb (qbd none H7 [H5]) ⟨fun v31 =>
 @letH (H7++[.cells [nv 0] 3 none false]) ⟨fun H8 =>
 @qjr Tryz.prog [v30,v31] H8 ⟨fun v32 H9 =>
 (chkX [0] (⟨0,(some 3),[H2],v29⟩ :: []) H9∧@cG 142 [v29,v32] H9 ⟨fun v33 H10 =>
 @qbb (qbc (.ext 0) [v33]) ⟨fun v34 =>
 @qbb (qbc (.ext 1) [v33]) ⟨fun v35 =>
 @qbn (xact (.st 1) H10 [H7,v34]) ⟨fun _v H11 =>
 @cG 181 [rows1] H11 ⟨fun v37 H12 =>
 @qbb (xbin .add 0 v20 (nv 1)) ⟨fun v40 =>
 @cG 180 [v37,v20,v40] H12 ⟨fun v41 H13 =>
 @qbb (qbc (.fn 182 0 4) [H2,H,H7,H5]) ⟨fun v42 =>
 @cG 113 [v41,v42] H13 ⟨fun v43 H14 =>
 R v43 H14⟩⟩⟩⟩⟩⟩⟩⟩⟩)⟩⟩⟩⟩⟩⟩⟩⟩⟩⟩⟩⟩⟩⟩⟩⟩⟩⟩⟩
theorem g119_of {q0 rows1 value2:Value} {H:AH} {R:Value→AH→Prop} (h:g119 q0 rows1 value2 H R):FN Tryz.prog 119 [q0,rows1,value2] H R:=
  FN.of_XM (ms:=[]) qbt (cast (by kernel_rfl) h)
def g120 (r0 v1:Value) (H:AH) (R:Value→AH→Prop):Prop:=
 @qbb (qbd none H [v1]) ⟨fun v5 =>
 @qbb (qbc (.ixS 1) [r0,v5]) ⟨fun v6 =>
 @qbb (qbd none H [v6]) ⟨fun v7 =>
 R v7 H⟩⟩⟩
theorem g120_of {r0 v1:Value} {H:AH} {R:Value→AH→Prop} (h:g120 r0 v1 H R):FN Tryz.prog 120 [r0,v1] H R:=
  FN.of_XM (ms:=[]) qbt (cast (by kernel_rfl) h)
def g121 (r0 v1:Value) (H:AH) (R:Value→AH→Prop):Prop:=
 @qbb (qbc (.fld 1) [v1]) ⟨fun v5 =>
 @qbb (qbd none H [v5]) ⟨fun v6 =>
 @qsh (xnew (.make (nv 0) 1 8 3) [v6,v6]) ⟨fun cv7 ev7 mkv7=>@letH (H++[.cells cv7 ev7 none false]) ⟨fun H1 =>
 @qb0 (qbr [.slice none 0 0,.slice none 0 0] [(0,1),(1,1)] [r0,(mkv7 H.length)]) ⟨fun cv8=>@letH (H1++[.cells cv8 31 none false]) ⟨fun H2 =>
 @cG 122 [(.slice (some ⟨H1.length,0,none⟩) 2 2)] H2 ⟨fun v9 H3 =>
 R v9 H3⟩⟩⟩⟩⟩⟩⟩
theorem g121_of {r0 v1:Value} {H:AH} {R:Value→AH→Prop} (h:g121 r0 v1 H R):FN Tryz.prog 121 [r0,v1] H R:=
  FN.of_XM (ms:=[]) qbt (cast (by kernel_rfl) h)
def g123 (r0 v1:Value) (H:AH) (R:Value→AH→Prop):Prop:=
 @qbb (qbc (.fld 1) [v1]) ⟨fun v4 =>
 @qbb (qbd none H [v4]) ⟨fun v5 =>
 @qsh (xnew (.make (nv 0) 1 8 3) [v5,v5]) ⟨fun cv6 ev6 mkv6=>@letH (H++[.cells cv6 ev6 none false]) ⟨fun H1 =>
 @qb0 (qbr [.slice none 0 0,.slice none 0 0] [(0,1),(1,1)] [(mkv6 H.length),r0]) ⟨fun cv8=>@letH (H1++[.cells cv8 31 none false]) ⟨fun H2 =>
 @cG 122 [(.slice (some ⟨H1.length,0,none⟩) 2 2)] H2 ⟨fun v9 H3 =>
 R v9 H3⟩⟩⟩⟩⟩⟩⟩
theorem g123_of {r0 v1:Value} {H:AH} {R:Value→AH→Prop} (h:g123 r0 v1 H R):FN Tryz.prog 123 [r0,v1] H R:=
  FN.of_XM (ms:=[]) qbt (cast (by kernel_rfl) h)
def g124 (l0:Value) (H:AH) (R:Value→AH→Prop):Prop:=
 @cG 184 [l0] H ⟨fun v4 H1 =>
 R v4 H1⟩
theorem g124_of {l0:Value} {H:AH} {R:Value→AH→Prop} (h:g124 l0 H R):FN Tryz.prog 124 [l0] H R:=
  FN.of_XM (ms:=[]) qbt (cast (by kernel_rfl) h)
def g125 (r0:Value) (H:AH) (R:Value→AH→Prop):Prop:=
 @qb0 (qbr [.slice none 0 0,.slice none 0 0] [(0,1),(1,1)] [r0,r0]) ⟨fun cv5=>@letH (H++[.cells cv5 31 none false]) ⟨fun H1 =>
 @cG 122 [(.slice (some ⟨H.length,0,none⟩) 2 2)] H1 ⟨fun v6 H2 =>
 R v6 H2⟩⟩⟩
theorem g125_of {r0:Value} {H:AH} {R:Value→AH→Prop} (h:g125 r0 H R):FN Tryz.prog 125 [r0] H R:=
  FN.of_XM (ms:=[]) qbt (cast (by kernel_rfl) h)
def g126 (r0 v1:Value) (H:AH) (R:Value→AH→Prop):Prop:=
 @qbb (qbc (.fld 1) [v1]) ⟨fun v4 =>
 @qbb (qbd none H [v4]) ⟨fun v5 =>
 @qsh (xnew (.make (nv 0) 1 8 3) [v5,v5]) ⟨fun cv6 ev6 mkv6=>@letH (H++[.cells cv6 ev6 none false]) ⟨fun H1 =>
 @qb0 (qbr [.slice none 0 0,.slice none 0 0] [(0,1),(1,1)] [(mkv6 H.length),r0]) ⟨fun cv8=>@letH (H1++[.cells cv8 31 none false]) ⟨fun H2 =>
 @cG 122 [(.slice (some ⟨H1.length,0,none⟩) 2 2)] H2 ⟨fun v9 H3 =>
 R v9 H3⟩⟩⟩⟩⟩⟩⟩
theorem g126_of {r0 v1:Value} {H:AH} {R:Value→AH→Prop} (h:g126 r0 v1 H R):FN Tryz.prog 126 [r0,v1] H R:=
  FN.of_XM (ms:=[]) qbt (cast (by kernel_rfl) h)
def g127 (r0 v1:Value) (H:AH) (R:Value→AH→Prop):Prop:=
 @qbb (qbc .lenS [r0]) ⟨fun v9 =>
 @loopV2 (.slice none 0 0) (nv 0) H ⟨fun out4 v10 H1 K1 =>
 @qbb (xbin .lss 0 v10 v9) ⟨fun v11 =>
 @qbv v11 ⟨fun q=>if q=true then @qbb (qbc (.ixS 1) [r0,v10]) ⟨fun v12 =>
 @qbb (qbd none H1 [v12]) ⟨fun v13 =>
 @qbb (qbc (.fld 1) [v1]) ⟨fun v14 =>
 @qbb (qbd none H1 [v14]) ⟨fun v15 =>
 @loopV2 out4 (nv 0) H1 ⟨fun out4a v16 H2 K2 =>
 @qbb (xbin .lss 0 v16 v15) ⟨fun v17 =>
 @qbv v17 ⟨fun q=>if q=true then @qbb (xbin .and 0 v13 (nv 1)) ⟨fun v21 =>
 @qbb (qbc (.fld 2) [v1]) ⟨fun v22 =>
 @qbb (qbd none H2 [v22]) ⟨fun v23 =>
 @qbb (qbc (.ixS 1) [v23,nv 0]) ⟨fun v24 =>
 @qbb (qbd none H2 [v24]) ⟨fun v25 =>
 @qbb (qbc (.ixS 1) [v25,v16]) ⟨fun v27 =>
 @qbb (qbd none H2 [v27]) ⟨fun v28 =>
 @qbb (xbin .mul 0 v21 v28) ⟨fun v29 =>
 @qbb (xbin .shr 0 v13 (.int .u64 1)) ⟨fun v31 =>
 @qbb (qbc (.fld 2) [v1]) ⟨fun v32 =>
 @qbb (qbd none H2 [v32]) ⟨fun v33 =>
 @qbb (qbc (.ixS 1) [v33,nv 1]) ⟨fun v34 =>
 @qbb (qbd none H2 [v34]) ⟨fun v35 =>
 @qbb (qbc (.ixS 1) [v35,v16]) ⟨fun v37 =>
 @qbb (qbd none H2 [v37]) ⟨fun v38 =>
 @qbb (xbin .mul 0 v31 v38) ⟨fun v39 =>
 @qbb (xbin .xor 0 v29 v39) ⟨fun v40 =>
 @qb0 (qbr [nv 0] [(0,1)] [v40]) ⟨fun cv41=>@letH (H2++[.cells cv41 3 none false]) ⟨fun H3 =>
 @qbn (xact (.app 3 1 8) H3 [out4a,(.slice (some ⟨H2.length,0,none⟩) 1 1)]) ⟨fun v42 H4 =>
 @qbb (xbin .add 0 v16 (nv 1)) ⟨fun v43 =>
 K2 v42 v43 H4⟩⟩⟩⟩⟩⟩⟩⟩⟩⟩⟩⟩⟩⟩⟩⟩⟩⟩⟩⟩⟩ else
 @qbb (xbin .add 0 v10 (nv 1)) ⟨fun v44 =>
 K1 out4a v44 H2⟩⟩⟩⟩⟩⟩⟩⟩ else
 R out4 H1⟩⟩⟩⟩
theorem g127_of {r0 v1:Value} {H:AH} {R:Value→AH→Prop} (h:g127 r0 v1 H R):FN Tryz.prog 127 [r0,v1] H R:=
  FN.of_XM (ms:=[(4,[4,10]),(10,[4,16])]) qbt (cast (by kernel_rfl) h)
def g128 (r0 v1:Value) (H:AH) (R:Value→AH→Prop):Prop:=
 @letH (H++[.cells (qbq r0) 31 none false]) ⟨fun H1 =>
 @qbb (qbc (.fn 130 0 2) [H,v1]) ⟨fun v4 =>
 @cG 129 [v4] H1 ⟨fun v5 H2 =>
 R v5 H2⟩⟩⟩
theorem g128_of {r0 v1:Value} {H:AH} {R:Value→AH→Prop} (h:g128 r0 v1 H R):FN Tryz.prog 128 [r0,v1] H R:=
  FN.of_XM (ms:=[]) qbt (cast (by kernel_rfl) h)
def g129 (seq0:Value) (H:AH) (R:Value→AH→Prop):Prop:=
 @cG 185 [.slice none 0 0,seq0] H ⟨fun v4 H1 =>
 R v4 H1⟩
theorem g129_of {seq0:Value} {H:AH} {R:Value→AH→Prop} (h:g129 seq0 H R):FN Tryz.prog 129 [seq0] H R:=
  FN.of_XM (ms:=[]) qbt (cast (by kernel_rfl) h)
def g130 (yield0 v1 v2:Value) (H:AH) (R:Value→AH→Prop):Prop:=
 @qbb (qbd none H [v1]) ⟨fun v6 =>
 @qbb (qbc .lenS [v6]) ⟨fun v7 =>
 @loopV1 (nv 0) H ⟨fun v8 H1 K1 =>
 @qbb (xbin .lss 0 v8 v7) ⟨fun v9 =>
 @qbv v9 ⟨fun q=>if q=true then @qbb (qbc (.ixS 1) [v6,v8]) ⟨fun v10 =>
 @qbb (qbd none H1 [v10]) ⟨fun v11 =>
 @qbb (qbd (some 3) H1 [v2]) ⟨fun v13 =>
 @cG 131 [v13,nv 2,v11] H1 ⟨fun v15 H2 =>
 @qjr Tryz.prog [yield0,v15] H2 ⟨fun v16 H3 =>
 @qbb (eun .not v16) ⟨fun v17 =>
 @qbv v17 ⟨fun q=>if q=true then R (.tuple [].toArray) H3 else
 @qbb (xbin .add 0 v8 (nv 1)) ⟨fun v18 =>
 K1 v18 H3⟩⟩⟩⟩⟩⟩⟩⟩ else
 R (.tuple [].toArray) H1⟩⟩⟩⟩⟩
theorem g130_of {yield0 v1 v2:Value} {H:AH} {R:Value→AH→Prop} (h:g130 yield0 v1 v2 H R):FN Tryz.prog 130 [yield0,v1,v2] H R:=
  FN.of_XM (ms:=[(1,[8])]) qbt (cast (by kernel_rfl) h)
def g133 (r0:Value) (H:AH) (R:Value→AH→Prop):Prop:=
 @qbb (qbc .lenS [r0]) ⟨fun v7 =>
 @loopV2 (nv 0) (nv 0) H ⟨fun n3 v8 H1 K1 =>
 @qbb (xbin .lss 0 v8 v7) ⟨fun v9 =>
 @qbv v9 ⟨fun q=>if q=true then @qbb (qbc (.ixS 1) [r0,v8]) ⟨fun v10 =>
 @qbb (qbd none H1 [v10]) ⟨fun v11 =>
 @qbb (xbin .xor 0 n3 v11) ⟨fun v14 =>
 @qbb (xbin .add 0 v8 (nv 1)) ⟨fun v15 =>
 K1 v14 v15 H1⟩⟩⟩⟩ else
 R n3 H1⟩⟩⟩⟩
theorem g133_of {r0:Value} {H:AH} {R:Value→AH→Prop} (h:g133 r0 H R):FN Tryz.prog 133 [r0] H R:=
  FN.of_XM (ms:=[(4,[3,8])]) qbt (cast (by kernel_rfl) h)
def g134 (r0 v1 v2:Value) (H:AH) (R:Value→AH→Prop):Prop:=
 @qbb (qbc (.fld 1) [v1]) ⟨fun v8 =>
 @qbb (qbd none H [v8]) ⟨fun v9 =>
 @qsh (xnew (.make (nv 0) 1 8 3) [v9,v9]) ⟨fun cv10 ev10 mkv10=>@letH (H++[.cells cv10 ev10 none false]) ⟨fun H1 =>
 @qbb (qbc .lenS [r0]) ⟨fun v12 =>
 @loopV1 (nv 0) H1 ⟨fun v13 H2 K1 =>
 @qbb (xbin .lss 0 v13 v12) ⟨fun v14 =>
 @qbv v14 ⟨fun q=>if q=true then @qbb (qbc (.ixS 1) [r0,v13]) ⟨fun v16 =>
 @qbb (qbd none H2 [v16]) ⟨fun v17 =>
 @qbb (qbd none H2 [v2]) ⟨fun v19 =>
 @qbb (qbc (.ixS 1) [v19,v13]) ⟨fun v21 =>
 @qbb (qbd none H2 [v21]) ⟨fun v22 =>
 @qbb (qbc (.ixS 1) [(mkv10 H.length),v22]) ⟨fun v24 =>
 @qbn (xact (.st 1) H2 [v24,v17]) ⟨fun _v H3 =>
 @qbb (xbin .add 0 v13 (nv 1)) ⟨fun v25 =>
 K1 v25 H3⟩⟩⟩⟩⟩⟩⟩⟩ else
 R (mkv10 H.length) H2⟩⟩⟩⟩⟩⟩⟩⟩
theorem g134_of {r0 v1 v2:Value} {H:AH} {R:Value→AH→Prop} (h:g134 r0 v1 v2 H R):FN Tryz.prog 134 [r0,v1,v2] H R:=
  FN.of_XM (ms:=[(4,[13])]) qbt (cast (by kernel_rfl) h)
def g140 (s0 f1:Value) (H:AH) (R:Value→AH→Prop):Prop:=
 @qbb (qbc .lenS [s0]) ⟨fun v7 =>
 @loopV1 (nv 0) H ⟨fun v8 H1 K1 =>
 @qbb (xbin .lss 0 v8 v7) ⟨fun v9 =>
 @qbv v9 ⟨fun q=>if q=true then @qbb (qbc (.ixS 1) [s0,v8]) ⟨fun v14 =>
 @qbb (qbd none H1 [v14]) ⟨fun v15 =>
 @qjr Tryz.prog [f1,v15] H1 ⟨fun v16 H2 =>
 @qbv v16 ⟨fun q=>if q=true then R v8 H2 else
 @qbb (xbin .add 0 v8 (nv 1)) ⟨fun v18 =>
 K1 v18 H2⟩⟩⟩⟩⟩ else
 R (.int .i64 (-1)) H1⟩⟩⟩⟩
theorem g140_of {s0 f1:Value} {H:AH} {R:Value→AH→Prop} (h:g140 s0 f1 H R):FN Tryz.prog 140 [s0,f1] H R:=
  FN.of_XM (ms:=[(3,[8])]) qbt (cast (by kernel_rfl) h)
def g145 (a0 b1:Value) (H:AH) (R:Value→AH→Prop):Prop:=
 @qbb (qbc .lenS [a0]) ⟨fun v7 =>
 @qbb (qbc .lenS [b1]) ⟨fun v9 =>
 @qbb (xbin .neq 0 v7 v9) ⟨fun v10 =>
 @qbv v10 ⟨fun q=>if q=true then R (.bool false) H else
 @loopV1 (nv 0) H ⟨fun i5 H1 K1 =>
 @qbb (qbc .lenS [a0]) ⟨fun v13 =>
 @qbb (xbin .lss 0 i5 v13) ⟨fun v14 =>
 @qbv v14 ⟨fun q=>if q=true then @qbb (qbc (.ixS 1) [a0,i5]) ⟨fun v19 =>
 @qbb (qbd none H1 [v19]) ⟨fun v20 =>
 @qbb (qbc (.ixS 1) [b1,i5]) ⟨fun v23 =>
 @qbb (qbd none H1 [v23]) ⟨fun v24 =>
 @qbb (xbin .neq 0 v20 v24) ⟨fun v25 =>
 @qbv v25 ⟨fun q=>if q=true then R (.bool false) H1 else
 @qbb (xbin .add 0 i5 (nv 1)) ⟨fun v16 =>
 K1 v16 H1⟩⟩⟩⟩⟩⟩⟩ else
 R (.bool true) H1⟩⟩⟩⟩⟩⟩⟩⟩
theorem g145_of {a0 b1:Value} {H:AH} {R:Value→AH→Prop} (h:g145 a0 b1 H R):FN Tryz.prog 145 [a0,b1] H R:=
  FN.of_XM (ms:=[(6,[5])]) qbt (cast (by kernel_rfl) h)
def g177 (r0 v1:Value) (H:AH) (R:Value→AH→Prop):Prop:=
 @qbb (qbd none H [v1]) ⟨fun v6 =>
 @qbb (qbd none H [v1]) ⟨fun v7 =>
 @qbb (xbin .add 0 v7 (nv 1)) ⟨fun v8 =>
 @cG 102 [r0] H ⟨fun v5 H1 =>
 (chkX [3,2] (⟨3,none,[v1],v7⟩ :: (⟨2,none,[v1],v6⟩ :: [])) H1∧@cG 178 [v5,v6,v8] H1 ⟨fun v9 H2 =>
 R v9 H2⟩)⟩⟩⟩⟩
theorem g177_of {r0 v1:Value} {H:AH} {R:Value→AH→Prop} (h:g177 r0 v1 H R):FN Tryz.prog 177 [r0,v1] H R:=
  FN.of_XM (ms:=[]) qbt (cast (by kernel_rfl) h)
def g179 (r0 v1:Value) (H:AH) (R:Value→AH→Prop):Prop:=
 @qbb (qbd none H [v1]) ⟨fun v4 =>
 @qjr Tryz.prog [v4,r0] H ⟨fun v6 H1 =>
 @qbb (xbin .neq 0 v6 (nv 0)) ⟨fun v7 =>
 R v7 H1⟩⟩⟩
theorem g179_of {r0 v1:Value} {H:AH} {R:Value→AH→Prop} (h:g179 r0 v1 H R):FN Tryz.prog 179 [r0,v1] H R:=
  FN.of_XM (ms:=[]) qbt (cast (by kernel_rfl) h)
def g182 (r0 v1 v2 v3 v4:Value) (H:AH) (R:Value→AH→Prop):Prop:=
 @qbb (qbd (some 3) H [v1]) ⟨fun v11 =>
 @qbb (qbd none H [v2]) ⟨fun v12 =>
 @qbb (qbd none H [v3]) ⟨fun v15 =>
 @qjr Tryz.prog [v12,r0] H ⟨fun v14 H1 =>
 (chkX [4,0] (⟨4,none,[v3],v15⟩ :: (⟨0,(some 3),[v1],v11⟩ :: [])) H1∧@cG 131 [v11,v14,v15] H1 ⟨fun v16 H2 =>
 @cG 102 [r0] H2 ⟨fun v18 H3 =>
 @qbb (qbd none H3 [v4]) ⟨fun v19 =>
 @qbb (qbc .lenS [v19]) ⟨fun v20 =>
 @loopV1 (nv 0) H3 ⟨fun v21 H4 K1 =>
 @qbb (xbin .lss 0 v21 v20) ⟨fun v22 =>
 @qbv v22 ⟨fun q=>if q=true then @qbb (qbc (.ixS 1) [v19,v21]) ⟨fun v24 =>
 @qbb (qbd none H4 [v24]) ⟨fun v25 =>
 @qbb (qbd (some 3) H4 [v1]) ⟨fun v28 =>
 @qbb (qbc (.ixS 1) [v18,v21]) ⟨fun v31 =>
 @qbb (qbd none H4 [v31]) ⟨fun v32 =>
 @qbb (qbd (some 3) H4 [v1]) ⟨fun v33 =>
 @cG 131 [v33,v16,v25] H4 ⟨fun v36 H5 =>
 (chkX [6,2] (⟨6,none,[v31],v32⟩ :: (⟨2,(some 3),[v1],v28⟩ :: [])) H5∧@cG 115 [v28,v32,v36] H5 ⟨fun v37 H6 =>
 @qbb (qbc (.ixS 1) [v18,v21]) ⟨fun v38 =>
 @qbn (xact (.st 1) H6 [v38,v37]) ⟨fun _v H7 =>
 @qbb (xbin .add 0 v21 (nv 1)) ⟨fun v39 =>
 K1 v39 H7⟩⟩⟩⟩)⟩⟩⟩⟩⟩⟩⟩ else
 R v18 H4⟩⟩⟩⟩⟩⟩⟩)⟩⟩⟩⟩
theorem g182_of {r0 v1 v2 v3 v4:Value} {H:AH} {R:Value→AH→Prop} (h:g182 r0 v1 v2 v3 v4 H R):FN Tryz.prog 182 [r0,v1,v2,v3,v4] H R:=
  FN.of_XM (ms:=[(5,[21])]) qbt (cast (by kernel_rfl) h)
end Go.Sim
