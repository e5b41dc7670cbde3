/- Part of the proof: ZSpG1. -/
import Derived.Test.YtbfpepbfpebmmaaGreatMMatShSToXfS
import Derived.Test.YtbfpepbfpebmmaaGreatMMatShD
import Derived.Test.YtbfpepbfpebmmaaGreatMMatZShMixToZPfFieldI
import Derived.KernelRfl
set_option linter.all false
set_option maxRecDepth 100000
namespace Go.Sim
open Go Go.Proofs
local instance coZSpG1:Coe AH Value:=⟨fun H=>.pointer (some ⟨H.length,0,none⟩)⟩
def g173 (f0 rows1:Value) (H:AH) (R:Value→AH→Prop):Prop:=
 @letH (H++[.cells (qbq f0) 76 none false]) ⟨fun H1 =>
 @qbb (qbd (some 3) H1 [H]) ⟨fun v6 =>
 @cG 204 [v6,rows1] H1 ⟨fun v8 H2 =>
 @qbb (qbc .nilc [v8]) ⟨fun v10 =>
 @qbb (qbc (.fld 3) [v10]) ⟨fun v11 =>
 @qbb (qbd none H2 [v11]) ⟨fun v12 =>
 @cG 206 [rows1] H2 ⟨fun v15 H3 =>
 (chkX [3] (⟨3,none,[v11],v12⟩ :: []) H3∧@cG 205 [v8,v15] H3 ⟨fun v16 H4 =>
 (chkX [3] (⟨3,none,[v11],v12⟩ :: []) H4∧@qbb (qbc .lenS [v16]) ⟨fun v17 =>
 @qbb (qbc (.slS 1 false true) [v12,v17]) ⟨fun v18 =>
 R v18 H4⟩⟩)⟩)⟩⟩⟩⟩⟩⟩⟩
theorem g173_of {f0 rows1:Value} {H:AH} {R:Value→AH→Prop} (h:g173 f0 rows1 H R):FN Tryz.prog 173 [f0,rows1] H R:=
  FN.of_XM (ms:=[]) qbt (cast (by kernel_rfl) h)
def g204 (f0 rows1:Value) (H:AH) (R:Value→AH→Prop):Prop:=
 @letH (H++[.cells (qbq f0) 76 none false]) ⟨fun H1 =>
 @qbb (qbd (some 3) H1 [H]) ⟨fun v9 =>
 @qb0 (qbr [nv 0,nv 0,.slice none 0 0,.slice none 0 0] [(0,3)] [v9]) ⟨fun v10 =>
 @letH (H1++[.cells (qbq (.agg v10.toArray)) 193 none false]) ⟨fun H2 =>
 @qbb (qbc .lenS [rows1]) ⟨fun v13 =>
 @loopV1 (nv 0) H2 ⟨fun v14 H3 K1 =>
 @qbb (xbin .lss 0 v14 v13) ⟨fun v15 =>
 @qbv v15 ⟨fun q=>if q=true then @qbb (qbc (.ixS 1) [rows1,v14]) ⟨fun v16 =>
 @qbb (qbd none H3 [v16]) ⟨fun v17 =>
 @qbb (qbc .lenS [v17]) ⟨fun v19 =>
 @qsh (xnew (.make (nv 0) 1 8 3) [v19,v19]) ⟨fun cv20 ev20 mkv20=>@letH (H3++[.cells cv20 ev20 none false]) ⟨fun H4 =>
 @qbn (xact (.cpy 1) H4 [(mkv20 H3.length),v17]) ⟨fun v23 H5 =>
 @qbb (qbc .nilc [H1]) ⟨fun v26 =>
 @qbb (qbc (.fld 3) [v26]) ⟨fun v27 =>
 @qbb (qbd none H5 [v27]) ⟨fun v28 =>
 @qb0 (qbr [.slice none 0 0] [(0,1)] [(mkv20 H3.length)]) ⟨fun cv30=>@letH (H5++[.cells cv30 31 none false]) ⟨fun H6 =>
 @qbn (xact (.app 31 1 24) H6 [v28,(.slice (some ⟨H5.length,0,none⟩) 1 1)]) ⟨fun v31 H7 =>
 @qbb (qbc .nilc [H1]) ⟨fun v32 =>
 @qbb (qbc (.fld 3) [v32]) ⟨fun v33 =>
 @qbn (xact (.st 1) H7 [v33,v31]) ⟨fun _v H8 =>
 @qbb (xbin .add 0 v14 (nv 1)) ⟨fun v34 =>
 K1 v34 H8⟩⟩⟩⟩⟩⟩⟩⟩⟩⟩⟩⟩⟩⟩⟩⟩ else
 R H1 H3⟩⟩⟩⟩⟩⟩⟩⟩
theorem g204_of {f0 rows1:Value} {H:AH} {R:Value→AH→Prop} (h:g204 f0 rows1 H R):FN Tryz.prog 204 [f0,rows1] H R:=
  FN.of_XM (ms:=[(4,[14])]) qbt (cast (by kernel_rfl) h)
def g205 (m0 width1:Value) (H:AH) (R:Value→AH→Prop):Prop:=
 @loopV2 (.slice none 0 0) (nv 0) H ⟨fun pivots5 v13 H1 K1 =>
 @qbb (xbin .lss 0 v13 width1) ⟨fun v14 =>
 @qbv v14 ⟨fun q=>if q=true then @qbb (qbc .lenS [pivots5]) ⟨fun v17 =>
 @loopV1 v17 H1 ⟨fun i8 H2 K2 =>
 @qbb (qbc .nilc [m0]) ⟨fun v21 =>
 @qbb (qbc (.fld 3) [v21]) ⟨fun v22 =>
 @qbb (qbd none H2 [v22]) ⟨fun v23 =>
 @qbb (qbc .lenS [v23]) ⟨fun v24 =>
 @qbb (xbin .lss 0 i8 v24) ⟨fun v25 =>
 @qbf (asB v25) (fun J3=>J3 m0 H2) H2 ⟨fun v27 H3 =>
 @qbf (asB v25) (fun J4=>@qbb (qbc .nilc [v27]) ⟨fun v28 =>
 J4 v28 H3⟩) H3 ⟨fun v28a H4 =>
 @qbf (asB v25) (fun J5=>@qbb (qbc (.fld 3) [v28a]) ⟨fun v29 =>
 J5 v29 H4⟩) H4 ⟨fun v29a H5 =>
 @qbf (asB v25) (fun J6=>@qbb (qbd none H5 [v29a]) ⟨fun v30 =>
 J6 v30 H5⟩) H5 ⟨fun v30a H6 =>
 @qbf (asB v25) (fun J7=>J7 i8 H6) H6 ⟨fun v31 H7 =>
 @qbf (asB v25) (fun J8=>@qbb (qbc (.ixS 1) [v30a,v31]) ⟨fun v32 =>
 J8 v32 H7⟩) H7 ⟨fun v32a H8 =>
 @qbf (asB v25) (fun J9=>@qbb (qbd none H8 [v32a]) ⟨fun v33 =>
 J9 v33 H8⟩) H8 ⟨fun v33a H9 =>
 @qbf (asB v25) (fun J10=>J10 v13 H9) H9 ⟨fun v34 H10 =>
 @qbf (asB v25) (fun J11=>@qbb (qbc (.ixS 1) [v33a,v34]) ⟨fun v35 =>
 J11 v35 H10⟩) H10 ⟨fun v35a H11 =>
 @qbf (asB v25) (fun J12=>@qbb (qbd none H11 [v35a]) ⟨fun v36 =>
 J12 v36 H11⟩) H11 ⟨fun v36a H12 =>
 @qbf (asB v25) (fun J13=>@qbb (xbin .eql 0 v36a (nv 0)) ⟨fun v37 =>
 J13 v37 H12⟩) H12 ⟨fun v37a H13 =>
 @qcs v25 v37a (.bool false) ⟨fun v38 =>
 @qbv v38 ⟨fun q=>if q=true then @qbb (xbin .add 0 i8 (nv 1)) ⟨fun v40 =>
 K2 v40 H13⟩ else
 @qbb (qbc .nilc [m0]) ⟨fun v43 =>
 @qbb (qbc (.fld 3) [v43]) ⟨fun v44 =>
 @qbb (qbd none H13 [v44]) ⟨fun v45 =>
 @qbb (qbc .lenS [v45]) ⟨fun v46 =>
 @qbb (xbin .eql 0 i8 v46) ⟨fun v47 =>
 @qbv v47 ⟨fun q=>if q=true then @qbb (xbin .add 0 v13 (nv 1)) ⟨fun v126 =>
 K1 pivots5 v126 H13⟩ else
 @qbb (qbc .nilc [m0]) ⟨fun v49 =>
 @qbb (qbc (.fld 3) [v49]) ⟨fun v50 =>
 @qbb (qbd none H13 [v50]) ⟨fun v51 =>
 @qbb (qbc .nilc [m0]) ⟨fun v54 =>
 @qbb (qbc (.fld 3) [v54]) ⟨fun v55 =>
 @qbb (qbd none H13 [v55]) ⟨fun v56 =>
 @qbb (qbc .nilc [m0]) ⟨fun v59 =>
 @qbb (qbc (.fld 3) [v59]) ⟨fun v60 =>
 @qbb (qbd none H13 [v60]) ⟨fun v61 =>
 @qbb (qbc (.ixS 1) [v61,v17]) ⟨fun v63 =>
 @qbb (qbd none H13 [v63]) ⟨fun v64 =>
 @qbb (qbc .nilc [m0]) ⟨fun v66 =>
 @qbb (qbc (.fld 3) [v66]) ⟨fun v67 =>
 @qbb (qbd none H13 [v67]) ⟨fun v68 =>
 @qbb (qbc (.ixS 1) [v68,i8]) ⟨fun v70 =>
 @qbb (qbd none H13 [v70]) ⟨fun v71 =>
 @qbb (qbc (.ixS 1) [v51,i8]) ⟨fun v72 =>
 @qbn (xact (.st 1) H13 [v72,v64]) ⟨fun _v H14 =>
 @qbb (qbc (.ixS 1) [v56,v17]) ⟨fun v73 =>
 @qbn (xact (.st 1) H14 [v73,v71]) ⟨fun _v H15 =>
 @qbb (qbc .nilc [m0]) ⟨fun v76 =>
 @qbb (qbc (.fld 0) [v76]) ⟨fun v77 =>
 @qbb (qbd (some 3) H15 [v77]) ⟨fun v78 =>
 @qbb (qbc .nilc [m0]) ⟨fun v80 =>
 @qbb (qbc (.fld 3) [v80]) ⟨fun v81 =>
 @qbb (qbd none H15 [v81]) ⟨fun v82 =>
 @qbb (qbc (.ixS 1) [v82,v17]) ⟨fun v84 =>
 @qbb (qbd none H15 [v84]) ⟨fun v85 =>
 @qbb (qbc (.ixS 1) [v85,v13]) ⟨fun v87 =>
 @qbb (qbd none H15 [v87]) ⟨fun v88 =>
 @cG 142 [v78,v88] H15 ⟨fun v89 H16 =>
 @qbb (qbc (.ext 0) [v89]) ⟨fun v90 =>
 @qbb (qbc (.ext 1) [v89]) ⟨fun v91 =>
 @cG 219 [m0,v17,v90] H16 ⟨fun v95 H17 =>
 @qbb (qbc .nilc [m0]) ⟨fun v97 =>
 @qbb (qbc (.fld 3) [v97]) ⟨fun v98 =>
 @qbb (qbd none H17 [v98]) ⟨fun v99 =>
 @qbb (qbc .lenS [v99]) ⟨fun v100 =>
 @loopV1 (nv 0) H17 ⟨fun v101 H18 K14 =>
 @qbb (xbin .lss 0 v101 v100) ⟨fun v102 =>
 @qbv v102 ⟨fun q=>if q=true then @qbb (xbin .neq 0 v101 v17) ⟨fun v106 =>
 @qbv v106 ⟨fun q=>if q=true then @qbb (qbc .nilc [m0]) ⟨fun v110 =>
 @qbb (qbc (.fld 3) [v110]) ⟨fun v111 =>
 @qbb (qbd none H18 [v111]) ⟨fun v112 =>
 @qbb (qbc (.ixS 1) [v112,v101]) ⟨fun v114 =>
 @qbb (qbd none H18 [v114]) ⟨fun v115 =>
 @qbb (qbc (.ixS 1) [v115,v13]) ⟨fun v117 =>
 @qbb (qbd none H18 [v117]) ⟨fun v118 =>
 @cG 220 [m0,v101,v118,v17] H18 ⟨fun v120 H19 =>
 @qbb (xbin .add 0 v101 (nv 1)) ⟨fun v121 =>
 K14 v121 H19⟩⟩⟩⟩⟩⟩⟩⟩⟩ else
 @qbb (xbin .add 0 v101 (nv 1)) ⟨fun v121a =>
 K14 v121a H18⟩⟩⟩ else
 @qb0 (qbr [nv 0] [(0,1)] [v13]) ⟨fun cv124=>@letH (H18++[.cells cv124 3 none false]) ⟨fun H20 =>
 @qbn (xact (.app 3 1 8) H20 [pivots5,(.slice (some ⟨H18.length,0,none⟩) 1 1)]) ⟨fun v125 H21 =>
 @qbb (xbin .add 0 v13 (nv 1)) ⟨fun v126a =>
 K1 v125 v126a H21⟩⟩⟩⟩⟩⟩⟩⟩⟩⟩⟩⟩⟩⟩⟩⟩⟩⟩⟩⟩⟩⟩⟩⟩⟩⟩⟩⟩⟩⟩⟩⟩⟩⟩⟩⟩⟩⟩⟩⟩⟩⟩⟩⟩⟩⟩⟩⟩⟩⟩⟩⟩⟩⟩⟩⟩⟩⟩⟩⟩⟩⟩⟩⟩⟩⟩⟩⟩⟩⟩⟩ else
 R pivots5 H1⟩⟩⟩
theorem g205_of {m0 width1:Value} {H:AH} {R:Value→AH→Prop} (h:g205 m0 width1 H R):FN Tryz.prog 205 [m0,width1] H R:=
  FN.of_XM (ms:=[(4,[5,13]),(12,[8]),(22,[101])]) qbt (cast (by kernel_rfl) h)
def g206 (rows0:Value) (H:AH) (R:Value→AH→Prop):Prop:=
 @qbb (qbc .lenS [rows0]) ⟨fun v4 =>
 @qbb (xbin .eql 0 v4 (nv 0)) ⟨fun v5 =>
 @qbv v5 ⟨fun q=>if q=true then R (nv 0) H else
 @qbb (qbc (.ixS 1) [rows0,nv 0]) ⟨fun v7 =>
 @qbb (qbd none H [v7]) ⟨fun v8 =>
 @qbb (qbc .lenS [v8]) ⟨fun v9 =>
 R v9 H⟩⟩⟩⟩⟩⟩
theorem g206_of {rows0:Value} {H:AH} {R:Value→AH→Prop} (h:g206 rows0 H R):FN Tryz.prog 206 [rows0] H R:=
  FN.of_XM (ms:=[]) qbt (cast (by kernel_rfl) h)
def g219 (m0 i1 c2:Value) (H:AH) (R:Value→AH→Prop):Prop:=
 @qbb (qbc .nilc [m0]) ⟨fun v9 =>
 @qbb (qbc (.fld 3) [v9]) ⟨fun v10 =>
 @qbb (qbd none H [v10]) ⟨fun v11 =>
 @qbb (qbc (.ixS 1) [v11,i1]) ⟨fun v13 =>
 @qbb (qbd none H [v13]) ⟨fun v14 =>
 @qbb (qbc .lenS [v14]) ⟨fun v15 =>
 @loopV1 (nv 0) H ⟨fun v16 H1 K1 =>
 @qbb (xbin .lss 0 v16 v15) ⟨fun v17 =>
 @qbv v17 ⟨fun q=>if q=true then @qbb (qbc (.ixS 1) [v14,v16]) ⟨fun v19 =>
 @qbb (qbd none H1 [v19]) ⟨fun v20 =>
 @qbb (qbc .nilc [m0]) ⟨fun v22 =>
 @qbb (qbc (.fld 3) [v22]) ⟨fun v23 =>
 @qbb (qbd none H1 [v23]) ⟨fun v24 =>
 @qbb (qbc (.ixS 1) [v24,i1]) ⟨fun v26 =>
 @qbb (qbd none H1 [v26]) ⟨fun v27 =>
 @qbb (qbc .nilc [m0]) ⟨fun v30 =>
 @qbb (qbc (.fld 0) [v30]) ⟨fun v31 =>
 @qbb (qbd (some 3) H1 [v31]) ⟨fun v32 =>
 @cG 131 [v32,c2,v20] H1 ⟨fun v35 H2 =>
 (chkX [6,3] (⟨6,none,[v26],v27⟩ :: (⟨3,none,[v23],v24⟩ :: [])) H2∧@qbb (qbc (.ixS 1) [v27,v16]) ⟨fun v36 =>
 @qbn (xact (.st 1) H2 [v36,v35]) ⟨fun _v H3 =>
 @qbb (xbin .add 0 v16 (nv 1)) ⟨fun v37 =>
 K1 v37 H3⟩⟩⟩)⟩⟩⟩⟩⟩⟩⟩⟩⟩⟩⟩ else
 R (.tuple [].toArray) H1⟩⟩⟩⟩⟩⟩⟩⟩⟩
theorem g219_of {m0 i1 c2:Value} {H:AH} {R:Value→AH→Prop} (h:g219 m0 i1 c2 H R):FN Tryz.prog 219 [m0,i1,c2] H R:=
  FN.of_XM (ms:=[(1,[16])]) qbt (cast (by kernel_rfl) h)
def g220 (m0 i1 c2 j3:Value) (H:AH) (R:Value→AH→Prop):Prop:=
 @qbb (xbin .eql 0 c2 (nv 0)) ⟨fun v11 =>
 @qbv v11 ⟨fun q=>if q=true then R (.tuple [].toArray) H else
 @qbb (qbc .nilc [m0]) ⟨fun v13 =>
 @qbb (qbc (.fld 3) [v13]) ⟨fun v14 =>
 @qbb (qbd none H [v14]) ⟨fun v15 =>
 @qbb (qbc (.ixS 1) [v15,j3]) ⟨fun v17 =>
 @qbb (qbd none H [v17]) ⟨fun v18 =>
 @qbb (qbc .lenS [v18]) ⟨fun v19 =>
 @loopV1 (nv 0) H ⟨fun v20 H1 K1 =>
 @qbb (xbin .lss 0 v20 v19) ⟨fun v21 =>
 @qbv v21 ⟨fun q=>if q=true then @qbb (qbc (.ixS 1) [v18,v20]) ⟨fun v23 =>
 @qbb (qbd none H1 [v23]) ⟨fun v24 =>
 @qbb (xbin .neq 0 v24 (nv 0)) ⟨fun v26 =>
 @qbv v26 ⟨fun q=>if q=true then @qbb (qbc .nilc [m0]) ⟨fun v28 =>
 @qbb (qbc (.fld 3) [v28]) ⟨fun v29 =>
 @qbb (qbd none H1 [v29]) ⟨fun v30 =>
 @qbb (qbc (.ixS 1) [v30,i1]) ⟨fun v32 =>
 @qbb (qbd none H1 [v32]) ⟨fun v33 =>
 @qbb (qbc .nilc [m0]) ⟨fun v36 =>
 @qbb (qbc (.fld 0) [v36]) ⟨fun v37 =>
 @qbb (qbd (some 3) H1 [v37]) ⟨fun v38 =>
 @qbb (qbc .nilc [m0]) ⟨fun v40 =>
 @qbb (qbc (.fld 3) [v40]) ⟨fun v41 =>
 @qbb (qbd none H1 [v41]) ⟨fun v42 =>
 @qbb (qbc (.ixS 1) [v42,i1]) ⟨fun v44 =>
 @qbb (qbd none H1 [v44]) ⟨fun v45 =>
 @qbb (qbc (.ixS 1) [v45,v20]) ⟨fun v47 =>
 @qbb (qbd none H1 [v47]) ⟨fun v48 =>
 @qbb (qbc .nilc [m0]) ⟨fun v50 =>
 @qbb (qbc (.fld 0) [v50]) ⟨fun v51 =>
 @qbb (qbd (some 3) H1 [v51]) ⟨fun v52 =>
 @cG 131 [v52,c2,v24] H1 ⟨fun v55 H2 =>
 (chkX [21,18,15,11,6,3] (⟨21,none,[v47],v48⟩ :: (⟨18,none,[v44],v45⟩ :: (⟨15,none,[v41],v42⟩ :: (⟨11,(some 3),[v37],v38⟩ :: (⟨6,none,[v32],v33⟩ :: (⟨3,none,[v29],v30⟩ :: [])))))) H2∧@cG 115 [v38,v48,v55] H2 ⟨fun v56 H3 =>
 (chkX [6,3] (⟨21,none,[v47],v48⟩ :: (⟨18,none,[v44],v45⟩ :: (⟨15,none,[v41],v42⟩ :: (⟨11,(some 3),[v37],v38⟩ :: (⟨6,none,[v32],v33⟩ :: (⟨3,none,[v29],v30⟩ :: [])))))) H3∧@qbb (qbc (.ixS 1) [v33,v20]) ⟨fun v57 =>
 @qbn (xact (.st 1) H3 [v57,v56]) ⟨fun _v H4 =>
 @qbb (xbin .add 0 v20 (nv 1)) ⟨fun v58 =>
 K1 v58 H4⟩⟩⟩)⟩)⟩⟩⟩⟩⟩⟩⟩⟩⟩⟩⟩⟩⟩⟩⟩⟩⟩⟩⟩ else
 @qbb (xbin .add 0 v20 (nv 1)) ⟨fun v58a =>
 K1 v58a H1⟩⟩⟩⟩⟩ else
 R (.tuple [].toArray) H1⟩⟩⟩⟩⟩⟩⟩⟩⟩⟩⟩
theorem g220_of {m0 i1 c2 j3:Value} {H:AH} {R:Value→AH→Prop} (h:g220 m0 i1 c2 j3 H R):FN Tryz.prog 220 [m0,i1,c2,j3] H R:=
  FN.of_XM (ms:=[(3,[20])]) qbt (cast (by kernel_rfl) h)
def g181 (s0:Value) (H:AH) (R:Value→AH→Prop):Prop:=
 @qbb (xbin .eql 2 s0 (.slice none 0 0)) ⟨fun v4 =>
 @qbv v4 ⟨fun q=>if q=true then R (.slice none 0 0) H else
 @qb0 (qbr [] [] []) ⟨fun cv5=>@letH (H++[.cells cv5 31 none false]) ⟨fun H1 =>
 @qbn (xact (.app 31 1 24) H1 [(.slice (some ⟨H.length,0,none⟩) 0 0),s0]) ⟨fun v7 H2 =>
 R v7 H2⟩⟩⟩⟩⟩
theorem g181_of {s0:Value} {H:AH} {R:Value→AH→Prop} (h:g181 s0 H R):FN Tryz.prog 181 [s0] H R:=
  FN.of_XM (ms:=[]) qbt (cast (by kernel_rfl) h)
def g184 (slices0:Value) (H:AH) (R:Value→AH→Prop):Prop:=
 @qbb (qbc .lenS [slices0]) ⟨fun v10 =>
 @loopV2 (nv 0) (nv 0) H ⟨fun size3 v11 H1 K1 =>
 @qbb (xbin .lss 0 v11 v10) ⟨fun v12 =>
 @qbv v12 ⟨fun q=>if q=true then @qbb (qbc (.ixS 1) [slices0,v11]) ⟨fun v13 =>
 @qbb (qbd none H1 [v13]) ⟨fun v14 =>
 @qbb (qbc .lenS [v14]) ⟨fun v17 =>
 @qbb (xbin .add 0 size3 v17) ⟨fun v18 =>
 @qbb (xbin .lss 0 v18 (nv 0)) ⟨fun v20 =>
 @qbv v20 ⟨fun q=>if q=true then @qbb (qbc .bad [(.string (.mk #[108,101,110,32,111,117,116,32,111,102,32,114,97,110,103,101]))]) ⟨fun v21 =>
 @qbb (qbc .bad [v21]) ⟨fun _v =>
 @qbb (xbin .add 0 v11 (nv 1)) ⟨fun v22 =>
 K1 v18 v22 H1⟩⟩⟩ else
 @qbb (xbin .add 0 v11 (nv 1)) ⟨fun v22a =>
 K1 v18 v22a H1⟩⟩⟩⟩⟩⟩⟩ else
 @cG 207 [.slice none 0 0,size3] H1 ⟨fun v24 H2 =>
 @qbb (qbc .lenS [slices0]) ⟨fun v26 =>
 @loopV2 v24 (nv 0) H2 ⟨fun newslice6 v27 H3 K2 =>
 @qbb (xbin .lss 0 v27 v26) ⟨fun v28 =>
 @qbv v28 ⟨fun q=>if q=true then @qbb (qbc (.ixS 1) [slices0,v27]) ⟨fun v29 =>
 @qbb (qbd none H3 [v29]) ⟨fun v30 =>
 @qbn (xact (.app 31 1 24) H3 [newslice6,v30]) ⟨fun v33 H4 =>
 @qbb (xbin .add 0 v27 (nv 1)) ⟨fun v34 =>
 K2 v33 v34 H4⟩⟩⟩⟩ else
 R newslice6 H3⟩⟩⟩⟩⟩⟩⟩⟩⟩
theorem g184_of {slices0:Value} {H:AH} {R:Value→AH→Prop} (h:g184 slices0 H R):FN Tryz.prog 184 [slices0] H R:=
  FN.of_XM (ms:=[(4,[3,11]),(14,[6,27])]) qbt (cast (by kernel_rfl) h)
def g122 (slices0:Value) (H:AH) (R:Value→AH→Prop):Prop:=
 @qbb (qbc .lenS [slices0]) ⟨fun v10 =>
 @loopV2 (nv 0) (nv 0) H ⟨fun size3 v11 H1 K1 =>
 @qbb (xbin .lss 0 v11 v10) ⟨fun v12 =>
 @qbv v12 ⟨fun q=>if q=true then @qbb (qbc (.ixS 1) [slices0,v11]) ⟨fun v13 =>
 @qbb (qbd none H1 [v13]) ⟨fun v14 =>
 @qbb (qbc .lenS [v14]) ⟨fun v17 =>
 @qbb (xbin .add 0 size3 v17) ⟨fun v18 =>
 @qbb (xbin .lss 0 v18 (nv 0)) ⟨fun v20 =>
 @qbv v20 ⟨fun q=>if q=true then @qbb (qbc .bad [(.string (.mk #[108,101,110,32,111,117,116,32,111,102,32,114,97,110,103,101]))]) ⟨fun v21 =>
 @qbb (qbc .bad [v21]) ⟨fun _v =>
 @qbb (xbin .add 0 v11 (nv 1)) ⟨fun v22 =>
 K1 v18 v22 H1⟩⟩⟩ else
 @qbb (xbin .add 0 v11 (nv 1)) ⟨fun v22a =>
 K1 v18 v22a H1⟩⟩⟩⟩⟩⟩⟩ else
 @cG 183 [.slice none 0 0,size3] H1 ⟨fun v24 H2 =>
 @qbb (qbc .lenS [slices0]) ⟨fun v26 =>
 @loopV2 v24 (nv 0) H2 ⟨fun newslice6 v27 H3 K2 =>
 @qbb (xbin .lss 0 v27 v26) ⟨fun v28 =>
 @qbv v28 ⟨fun q=>if q=true then @qbb (qbc (.ixS 1) [slices0,v27]) ⟨fun v29 =>
 @qbb (qbd none H3 [v29]) ⟨fun v30 =>
 @qbn (xact (.app 3 1 8) H3 [newslice6,v30]) ⟨fun v33 H4 =>
 @qbb (xbin .add 0 v27 (nv 1)) ⟨fun v34 =>
 K2 v33 v34 H4⟩⟩⟩⟩ else
 R newslice6 H3⟩⟩⟩⟩⟩⟩⟩⟩⟩
theorem g122_of {slices0:Value} {H:AH} {R:Value→AH→Prop} (h:g122 slices0 H R):FN Tryz.prog 122 [slices0] H R:=
  FN.of_XM (ms:=[(4,[3,11]),(14,[6,27])]) qbt (cast (by kernel_rfl) h)
def g207 (s0 n1:Value) (H:AH) (R:Value→AH→Prop):Prop:=
 @joinV0 (fun J1=>@qbb (xbin .lss 0 n1 (nv 0)) ⟨fun v6 =>
 @qbv v6 ⟨fun q=>if q=true then @qbb (qbc .bad [(.string (.mk #[99,97,110,110,111,116,32,98,101,32,110,101,103,97,116,105,118,101]))]) ⟨fun v7 =>
 @qbb (qbc .bad [v7]) ⟨fun _v =>
 J1 H⟩⟩ else
 J1 H⟩⟩) ⟨fun H1 =>
 @joinV1 (fun J2=>@qbb (qbc .capN [s0]) ⟨fun v10 =>
 @qbb (qbc .lenS [s0]) ⟨fun v12 =>
 @qbb (xbin .sub 0 v10 v12) ⟨fun v13 =>
 @qbb (xbin .sub 0 n1 v13) ⟨fun v14 =>
 @qbb (xbin .gtr 0 v14 (nv 0)) ⟨fun v16 =>
 @qbv v16 ⟨fun q=>if q=true then @qbb (qbc .capN [s0]) ⟨fun v19 =>
 @qbb (qbc (.slS 1 false true) [s0,v19]) ⟨fun v20 =>
 @qbn (xact (.apz [.slice none 0 0] 1 24 31) H1 [v20,v14]) ⟨fun v22 H2 =>
 @qbb (qbc .lenS [s0]) ⟨fun v24 =>
 @qbb (qbc (.slS 1 false true) [v22,v24]) ⟨fun v25 =>
 J2 v25 H2⟩⟩⟩⟩⟩ else
 J2 s0 H1⟩⟩⟩⟩⟩⟩) ⟨fun s0a H3 =>
 R s0a H3⟩⟩
theorem g207_of {s0 n1:Value} {H:AH} {R:Value→AH→Prop} (h:g207 s0 n1 H R):FN Tryz.prog 207 [s0,n1] H R:=
  FN.of_XM (ms:=[(1,[]),(3,[0])]) qbt (cast (by kernel_rfl) h)
end Go.Sim
