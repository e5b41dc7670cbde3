/- Part of the proof: ZMoG. -/
import Derived.Test.YtbfpepbfpebmmaaGreatTLinShSToXfS
import Derived.Test.YtbfpepbfpebmmaaGreatTLinSimX3ToShD
import Derived.Test.YtbfpepbfpebmmaaGreatTLinZShMixToZPfFieldI
import Derived.KernelRfl
set_option linter.all false
set_option maxRecDepth 100000
namespace Go.Sim
open Go Go.Proofs
local instance coZMoG:Coe AH Value:=⟨fun H=>.pointer (some ⟨H.length,0,none⟩)⟩
def g12 (x0:Value) (H:AH) (R:Value→AH→Prop):Prop:=
 @letH (H++[.cells (qbn x0) 24 none false]) ⟨fun H1 =>
 @letH (H1++[.cells [nv 0,nv 0,.slice none 0 0] 29 none false]) ⟨fun H2 =>
 @qb5 (qbv [nv 0,nv 0,nv 0,nv 0,nv 0,nv 0] [(0,1),(1,1),(2,1),(3,1),(4,1),(5,1)] [nv 2,nv 3,nv 4,nv 5,nv 7,nv 8]) ⟨fun cv11=>@letH (H2++[.cells cv11 3 none false]) ⟨fun H3 =>
 @qbb (qbc (.fld 0) [H]) ⟨fun v12 =>
 @qbb (qbh none H3 [v12]) ⟨fun v13 =>
 @qbb (xbin .rem 0 v13 (.int .u8 6)) ⟨fun v14 =>
 @qbb (qbc (.ixS 1) [(.slice (some ⟨H2.length,0,none⟩) 6 6),v14]) ⟨fun v15 =>
 @qbb (qbh none H3 [v15]) ⟨fun v16 =>
 @qbb (qbc (.fld 1) [H]) ⟨fun v17 =>
 @qbb (qbh none H3 [v17]) ⟨fun v18 =>
 @qbb (xbin .rem 0 v18 (.int .u8 10)) ⟨fun v19 =>
 @qbb (qbc (.conv .i64) [v19]) ⟨fun v20 =>
 @qbb (xbin .add 0 (nv 1) v20) ⟨fun v21 =>
 @qb5 (qbv [nv 0,nv 0,nv 0,nv 0,nv 0,nv 0] [(0,1),(1,1),(2,1),(3,1),(4,1),(5,1)] [nv 8,nv 5,nv 4,nv 3,nv 2,nv 2]) ⟨fun cv22=>@letH (H3++[.cells cv22 3 none false]) ⟨fun H4 =>
 @qbb (qbc (.fld 0) [H]) ⟨fun v23 =>
 @qbb (qbh none H4 [v23]) ⟨fun v24 =>
 @qbb (xbin .rem 0 v24 (.int .u8 6)) ⟨fun v25 =>
 @qbb (qbc (.ixS 1) [(.slice (some ⟨H3.length,0,none⟩) 6 6),v25]) ⟨fun v26 =>
 @qbb (qbh none H4 [v26]) ⟨fun v27 =>
 @qbb (qbc (.fld 2) [H]) ⟨fun v28 =>
 @qbb (qbh none H4 [v28]) ⟨fun v29 =>
 @qbb (qbc (.conv .i64) [v29]) ⟨fun v30 =>
 @qbb (xbin .add 0 v27 (nv 1)) ⟨fun v32 =>
 @qbb (xbin .rem 0 v30 v32) ⟨fun v33 =>
 @qb5 (qbv [] [] []) ⟨fun cv34=>@letH (H4++[.cells cv34 31 none false]) ⟨fun H5 =>
 @loopV2 (.slice (some ⟨H4.length,0,none⟩) 0 0) (nv 0) H5 ⟨fun rows7 i8 H6 K1 =>
 @qbb (xbin .lss 0 i8 v33) ⟨fun v37 =>
 @qbq v37 ⟨fun q=>if q=true then @cG 60 [v21] H6 ⟨fun v41 H7 =>
 @loopV1 (nv 0) H7 ⟨fun j10 H8 K2 =>
 @qbb (xbin .lss 0 j10 v21) ⟨fun v44 =>
 @qbq v44 ⟨fun q=>if q=true then @joinV0 (fun J3=>@qbb (qbc (.fld 3) [H]) ⟨fun v47 =>
 @qbb (qbh none H8 [v47]) ⟨fun v48 =>
 @qbb (qbc .lenS [v48]) ⟨fun v49 =>
 @qbb (xbin .gtr 0 v49 (nv 0)) ⟨fun v50 =>
 @qbq v50 ⟨fun q=>if q=true then @qbb (qbc (.fld 3) [H]) ⟨fun v53 =>
 @qbb (qbh none H8 [v53]) ⟨fun v54 =>
 @qbb (xbin .mul 0 i8 v21) ⟨fun v57 =>
 @qbb (xbin .add 0 v57 j10) ⟨fun v59 =>
 @qbb (qbc (.fld 3) [H]) ⟨fun v60 =>
 @qbb (qbh none H8 [v60]) ⟨fun v61 =>
 @qbb (qbc .lenS [v61]) ⟨fun v62 =>
 @qbb (xbin .rem 0 v59 v62) ⟨fun v63 =>
 @qbb (qbc (.ixS 1) [v54,v63]) ⟨fun v64 =>
 @qbb (qbh none H8 [v64]) ⟨fun v65 =>
 @qbb (qbc (.conv .i64) [v65]) ⟨fun v66 =>
 @qbb (xbin .rem 0 v66 v16) ⟨fun v68 =>
 @qbb (qbc (.ixS 1) [v41,j10]) ⟨fun v69 =>
 @qbt (xact (.st 1) H8 [v69,v68]) ⟨fun _v H9 =>
 J3 H9⟩⟩⟩⟩⟩⟩⟩⟩⟩⟩⟩⟩⟩⟩ else
 J3 H8⟩⟩⟩⟩⟩) ⟨fun H10 =>
 @qbb (xbin .add 0 j10 (nv 1)) ⟨fun v46 =>
 K2 v46 H10⟩⟩ else
 @joinV0 (fun J4=>@qbb (xbin .lss 0 i8 v21) ⟨fun v72 =>
 @qbq v72 ⟨fun q=>if q=true then @qbb (qbc (.ixS 1) [v41,i8]) ⟨fun v75 =>
 @qbt (xact (.st 1) H8 [v75,nv 1]) ⟨fun _v H11 =>
 J4 H11⟩⟩ else
 J4 H8⟩⟩) ⟨fun H12 =>
 @qb5 (qbv [.slice none 0 0] [(0,1)] [v41]) ⟨fun cv78=>@letH (H12++[.cells cv78 31 none false]) ⟨fun H13 =>
 @qbt (xact (.app 31 1 24) H13 [rows7,(.slice (some ⟨H12.length,0,none⟩) 1 1)]) ⟨fun v79 H14 =>
 @qbb (xbin .add 0 i8 (nv 1)) ⟨fun v39 =>
 K1 v79 v39 H14⟩⟩⟩⟩⟩⟩⟩⟩⟩ else
 @cG 62 [v16] H6 ⟨fun v83 H15 =>
 @cG 61 [v83,v21,rows7] H15 ⟨fun v86 H16 =>
 @qb5 (qbv [nv 0,nv 0,.slice none 0 0] [(0,1),(1,1),(2,1)] [v16,v21,v86]) ⟨fun v87 =>
 @qbt (xact (.st 3) H16 [H1,(.agg v87.toArray)]) ⟨fun _v H17 =>
 @qbb (qbh (some 3) H17 [H1]) ⟨fun r0=>R r0 H17⟩⟩⟩⟩⟩⟩⟩⟩⟩⟩⟩⟩⟩⟩⟩⟩⟩⟩⟩⟩⟩⟩⟩⟩⟩⟩⟩⟩⟩⟩⟩⟩⟩⟩⟩⟩
theorem g12_of {x0:Value} {H:AH} {R:Value→AH→Prop} (h:g12 x0 H R):FN Tryz.prog 12 [x0] H R:=
  FN.of_XM (ms:=[(7,[7,8]),(14,[10]),(17,[]),(19,[])]) qbs (cast (by kernel_rfl) h)
def g38 (c0:Value) (H:AH) (R:Value→AH→Prop):Prop:=
 @letH (H++[.cells (qbn c0) 29 none false]) ⟨fun H1 =>
 @qbb (qbc (.fld 0) [H]) ⟨fun v6 =>
 @qbb (qbh none H1 [v6]) ⟨fun v7 =>
 @qbb (qbc (.fld 1) [H]) ⟨fun v8 =>
 @qbb (qbh none H1 [v8]) ⟨fun v9 =>
 @qbb (qbc (.fld 1) [H]) ⟨fun v10 =>
 @qbb (qbh none H1 [v10]) ⟨fun v11 =>
 @qbb (qbc (.fld 2) [H]) ⟨fun v12 =>
 @qbb (qbh none H1 [v12]) ⟨fun v13 =>
 @cG 83 [v7,v9,v11,v13] H1 ⟨fun v14 H2 =>
 @qbb (qbc (.ext 0) [v14]) ⟨fun v15 =>
 @qbb (qbc (.ext 1) [v14]) ⟨fun v16 =>
 @letH (H2++[.cells [nv 0,nv 0,.slice none 0 0] 96 none false]) ⟨fun H3 =>
 @qbt (xact (.st 3) H3 [H2,v15]) ⟨fun _v H4 =>
 @qbg (asB v16) (fun J1=>@qbb (qbc (.fld 2) [H]) ⟨fun v19 =>
 J1 v19 H4⟩) H4 ⟨fun v19a H5 =>
 @qbg (asB v16) (fun J2=>@qbb (qbh none H5 [v19a]) ⟨fun v20 =>
 J2 v20 H5⟩) H5 ⟨fun v20a H6=>@letD (bif (asB v16) then⟨3,none,[v19a],v20a⟩ :: [] else []) ⟨fun D1 =>
 @qbg (asB v16) (fun J3=>@qbb (qbh (some 3) H6 [H2]) ⟨fun v21 =>
 J3 v21 H6⟩) H6 ⟨fun v21a H7=>@letD (bif (asB v16) then⟨4,(some 3),[H2],v21a⟩ :: D1 else D1) ⟨fun D2 =>
 @qbg (asB v16) (fun J4=>@qbb (qbc (.fld 1) [H]) ⟨fun v22 =>
 J4 v22 H7⟩) H7 ⟨fun v22a H8 =>
 @qbg (asB v16) (fun J5=>@qbb (qbh none H8 [v22a]) ⟨fun v23 =>
 J5 v23 H8⟩) H8 ⟨fun v23a H9=>@letD (bif (asB v16) then⟨6,none,[v22a],v23a⟩ :: D2 else D2) ⟨fun D3 =>
 @qbg (asB v16) (fun J6=>@qbb (qbc (.fld 2) [H]) ⟨fun v24 =>
 J6 v24 H9⟩) H9 ⟨fun v24a H10 =>
 @qbg (asB v16) (fun J7=>@qbb (qbh none H10 [v24a]) ⟨fun v25 =>
 J7 v25 H10⟩) H10 ⟨fun v25a H11 =>
 @qbg (asB v16) (fun J8=>@cG 86 [v25a] H11 ⟨fun v26 H12 =>
 (chkX [6,4,3] D3 H12∧J8 v26 H12)⟩) H11 ⟨fun v26a H13 =>
 @qbg (asB v16) (fun J9=>@cG 85 [v21a,v23a,v26a] H13 ⟨fun v27 H14 =>
 (chkX [3] D3 H14∧J9 v27 H14)⟩) H13 ⟨fun v27a H15 =>
 @qbg (asB v16) (fun J10=>@cG 84 [v20a,v27a,(.func (.func 87) #[] #[])] H15 ⟨fun v28 H16 =>
 J10 v28 H16⟩) H15 ⟨fun v28a H17 =>
 @qb1 v16 v28a (.bool false) ⟨fun v29 =>
 R v29 H17⟩⟩⟩⟩⟩⟩⟩⟩⟩⟩⟩⟩⟩⟩⟩⟩⟩⟩⟩⟩⟩⟩⟩⟩⟩⟩⟩⟩
theorem g38_of {c0:Value} {H:AH} {R:Value→AH→Prop} (h:g38 c0 H R):FN Tryz.prog 38 [c0] H R:=
  FN.of_XM (ms:=[]) qbs (cast (by kernel_rfl) h)
def g60 (n0:Value) (H:AH) (R:Value→AH→Prop):Prop:=
 @bindN (xnew (.make (nv 0) 1 8 3) [n0,n0]) ⟨fun cv4 ev4 mkv4=>@letH (H++[.cells cv4 ev4 none false]) ⟨fun H1 =>
 R (mkv4 H.length) H1⟩⟩
theorem g60_of {n0:Value} {H:AH} {R:Value→AH→Prop} (h:g60 n0 H R):FN Tryz.prog 60 [n0] H R:=
  FN.of_XM (ms:=[]) qbs (cast (by kernel_rfl) h)
def g61 (f0 n1 qd6:Value) (H:AH) (R:Value→AH→Prop):Prop:=
 @letH (H++[.cells (qbn f0) 76 none false]) ⟨fun H1 =>
 @qb5 (qbv [] [] []) ⟨fun cv16=>@letH (H1++[.cells cv16 31 none false]) ⟨fun H2 =>
 @loopV2 (.slice (some ⟨H1.length,0,none⟩) 0 0) (nv 0) H2 ⟨fun m7 i8 H3 K1 =>
 @qbb (qbc .lenS [qd6]) ⟨fun v19 =>
 @qbb (xbin .lss 0 i8 v19) ⟨fun v20 =>
 @qbq v20 ⟨fun q=>if q=true then @qb5 (qbv [] [] []) ⟨fun cv24=>@letH (H3++[.cells cv24 3 none false]) ⟨fun H4 =>
 @qbb (qbc (.ixS 1) [qd6,i8]) ⟨fun v27 =>
 @qbb (qbh none H4 [v27]) ⟨fun v28 =>
 @qbt (xact (.app 3 1 8) H4 [(.slice (some ⟨H3.length,0,none⟩) 0 0),v28]) ⟨fun v29 H5 =>
 @qb5 (qbv [.slice none 0 0] [(0,1)] [v29]) ⟨fun cv30=>@letH (H5++[.cells cv30 31 none false]) ⟨fun H6 =>
 @qbt (xact (.app 31 1 24) H6 [m7,(.slice (some ⟨H5.length,0,none⟩) 1 1)]) ⟨fun v31 H7 =>
 @qbb (xbin .add 0 i8 (nv 1)) ⟨fun v22 =>
 K1 v31 v22 H7⟩⟩⟩⟩⟩⟩⟩⟩⟩ else
 @loopV2 (nv 0) (nv 0) H3 ⟨fun r9 c10 H8 K2 =>
 @qbb (xbin .lss 0 c10 n1) ⟨fun v34 =>
 @qbg (asB v34) (fun J3=>J3 r9 H8) H8 ⟨fun v36 H9 =>
 @qbg (asB v34) (fun J4=>J4 m7 H9) H9 ⟨fun v37 H10 =>
 @qbg (asB v34) (fun J5=>@qbb (qbc .lenS [v37]) ⟨fun v38 =>
 J5 v38 H10⟩) H10 ⟨fun v38a H11 =>
 @qbg (asB v34) (fun J6=>@qbb (xbin .lss 0 v36 v38a) ⟨fun v39 =>
 J6 v39 H11⟩) H11 ⟨fun v39a H12 =>
 @qb1 v34 v39a (.bool false) ⟨fun v40 =>
 @qbq v40 ⟨fun q=>if q=true then @joinV1 (fun J7=>@loopV1 r9 H12 ⟨fun p11 H13 K8 =>
 @qbb (qbc .lenS [m7]) ⟨fun v46 =>
 @qbb (xbin .lss 0 p11 v46) ⟨fun v47 =>
 @qbg (asB v47) (fun J9=>J9 m7 H13) H13 ⟨fun v49 H14 =>
 @qbg (asB v47) (fun J10=>J10 p11 H14) H14 ⟨fun v50 H15 =>
 @qbg (asB v47) (fun J11=>@qbb (qbc (.ixS 1) [v49,v50]) ⟨fun v51 =>
 J11 v51 H15⟩) H15 ⟨fun v51a H16 =>
 @qbg (asB v47) (fun J12=>@qbb (qbh none H16 [v51a]) ⟨fun v52 =>
 J12 v52 H16⟩) H16 ⟨fun v52a H17 =>
 @qbg (asB v47) (fun J13=>J13 c10 H17) H17 ⟨fun v53 H18 =>
 @qbg (asB v47) (fun J14=>@qbb (qbc (.ixS 1) [v52a,v53]) ⟨fun v54 =>
 J14 v54 H18⟩) H18 ⟨fun v54a H19 =>
 @qbg (asB v47) (fun J15=>@qbb (qbh none H19 [v54a]) ⟨fun v55 =>
 J15 v55 H19⟩) H19 ⟨fun v55a H20 =>
 @qbg (asB v47) (fun J16=>@qbb (xbin .eql 0 v55a (nv 0)) ⟨fun v56 =>
 J16 v56 H20⟩) H20 ⟨fun v56a H21 =>
 @qb1 v47 v56a (.bool false) ⟨fun v57 =>
 @qbq v57 ⟨fun q=>if q=true then @qbb (xbin .add 0 p11 (nv 1)) ⟨fun v59 =>
 K8 v59 H21⟩ else
 @qbb (qbc .lenS [m7]) ⟨fun v62 =>
 @qbb (xbin .eql 0 p11 v62) ⟨fun v63 =>
 @qbq v63 ⟨fun q=>if q=true then J7 r9 H21 else
 @qbb (qbc (.ixS 1) [m7,p11]) ⟨fun v66 =>
 @qbb (qbh none H21 [v66]) ⟨fun v67 =>
 @qbb (qbc (.ixS 1) [m7,r9]) ⟨fun v72 =>
 @qbb (qbh none H21 [v72]) ⟨fun v73 =>
 @qbb (qbc (.ixS 1) [m7,p11]) ⟨fun v74 =>
 @qbt (xact (.st 1) H21 [v74,v73]) ⟨fun _v H22 =>
 @qbb (qbh (some 3) H22 [H]) ⟨fun v76 =>
 @qbb (qbc (.ixS 1) [v67,c10]) ⟨fun v79 =>
 @qbb (qbh none H22 [v79]) ⟨fun v80 =>
 @cG 107 [v76,v80] H22 ⟨fun v81 H23 =>
 @qbb (qbc (.ext 0) [v81]) ⟨fun v82 =>
 @qbb (qbc (.ext 1) [v81]) ⟨fun v83 =>
 @qbb (qbh (some 3) H23 [H]) ⟨fun v86 =>
 @cG 74 [v86,v82,v67] H23 ⟨fun v89 H24 =>
 @qbb (qbc (.ixS 1) [m7,r9]) ⟨fun v90 =>
 @qbt (xact (.st 1) H24 [v90,v89]) ⟨fun _v H25 =>
 @loopV1 (nv 0) H25 ⟨fun k15 H26 K17 =>
 @qbb (qbc .lenS [m7]) ⟨fun v93 =>
 @qbb (xbin .lss 0 k15 v93) ⟨fun v94 =>
 @qbq v94 ⟨fun q=>if q=true then @joinV0 (fun J18=>@qbb (xbin .neq 0 k15 r9) ⟨fun v99 =>
 @qbq v99 ⟨fun q=>if q=true then @qbb (qbh (some 3) H26 [H]) ⟨fun v102 =>
 @qbb (qbc (.ixS 1) [m7,k15]) ⟨fun v105 =>
 @qbb (qbh none H26 [v105]) ⟨fun v106 =>
 @qbb (qbh (some 3) H26 [H]) ⟨fun v107 =>
 @qbb (qbh (some 3) H26 [H]) ⟨fun v108 =>
 @qbb (qbc (.ixS 1) [m7,k15]) ⟨fun v111 =>
 @qbb (qbh none H26 [v111]) ⟨fun v112 =>
 @qbb (qbc (.ixS 1) [v112,c10]) ⟨fun v114 =>
 @qbb (qbh none H26 [v114]) ⟨fun v115 =>
 @qbb (qbc (.ixS 1) [m7,r9]) ⟨fun v119 =>
 @qbb (qbh none H26 [v119]) ⟨fun v120 =>
 @cG 81 [v108,v115] H26 ⟨fun v116 H27 =>
 (chkX [20,7,6,2] (⟨20,none,[v119],v120⟩ :: (⟨7,(some 3),[H],v107⟩ :: (⟨6,none,[v105],v106⟩ :: (⟨2,(some 3),[H],v102⟩ :: [])))) H27∧@cG 74 [v107,v116,v120] H27 ⟨fun v121 H28 =>
 (chkX [6,2] (⟨20,none,[v119],v120⟩ :: (⟨7,(some 3),[H],v107⟩ :: (⟨6,none,[v105],v106⟩ :: (⟨2,(some 3),[H],v102⟩ :: [])))) H28∧@cG 108 [v102,v106,v121] H28 ⟨fun v122 H29 =>
 @qbb (qbc (.ixS 1) [m7,k15]) ⟨fun v123 =>
 @qbt (xact (.st 1) H29 [v123,v122]) ⟨fun _v H30 =>
 J18 H30⟩⟩⟩)⟩)⟩⟩⟩⟩⟩⟩⟩⟩⟩⟩⟩⟩ else
 J18 H26⟩⟩) ⟨fun H31 =>
 @qbb (xbin .add 0 k15 (nv 1)) ⟨fun v96 =>
 K17 v96 H31⟩⟩ else
 @qbb (xbin .add 0 r9 (nv 1)) ⟨fun v125 =>
 J7 v125 H26⟩⟩⟩⟩⟩⟩⟩⟩⟩⟩⟩⟩⟩⟩⟩⟩⟩⟩⟩⟩⟩⟩⟩⟩⟩⟩⟩⟩⟩⟩⟩⟩⟩⟩⟩⟩⟩) ⟨fun r9a H32 =>
 @qbb (xbin .add 0 c10 (nv 1)) ⟨fun v42 =>
 K2 r9a v42 H32⟩⟩ else
 @qbb (qbc (.slS 1 false true) [m7,r9]) ⟨fun v128 =>
 R v128 H12⟩⟩⟩⟩⟩⟩⟩⟩⟩⟩⟩⟩⟩⟩⟩⟩
theorem g61_of {f0 n1 qd6:Value} {H:AH} {R:Value→AH→Prop} (h:g61 f0 n1 qd6 H R):FN Tryz.prog 61 [f0,n1,qd6] H R:=
  FN.of_XM (ms:=[(4,[7,8]),(11,[9,10]),(14,[9]),(17,[11]),(28,[15]),(31,[])]) qbs (cast (by kernel_rfl) h)
def g62 (q0:Value) (H:AH) (R:Value→AH→Prop):Prop:=
 @letH (H++[.cells [nv 0,nv 0,.slice none 0 0] 76 none false]) ⟨fun H1 =>
 @cG 109 [q0] H1 ⟨fun v7 H2 =>
 @qbb (qbc (.ext 0) [v7]) ⟨fun v8 =>
 @qbb (qbc (.ext 1) [v7]) ⟨fun v9 =>
 @letH (H2++[.cells [nv 0,nv 0,.slice none 0 0] 76 none false]) ⟨fun H3 =>
 @qbt (xact (.st 3) H3 [H2,v8]) ⟨fun _v H4 =>
 @qbb (qbh (some 3) H4 [H2]) ⟨fun v10 =>
 @qbt (xact (.st 3) H4 [H,v10]) ⟨fun _v H5 =>
 @qbb (qbh (some 3) H5 [H]) ⟨fun r0=>R r0 H5⟩⟩⟩⟩⟩⟩⟩⟩⟩
theorem g62_of {q0:Value} {H:AH} {R:Value→AH→Prop} (h:g62 q0 H R):FN Tryz.prog 62 [q0] H R:=
  FN.of_XM (ms:=[]) qbs (cast (by kernel_rfl) h)
def g74 (f0 a1 l2:Value) (H:AH) (R:Value→AH→Prop):Prop:=
 @letH (H++[.cells (qbn f0) 76 none false]) ⟨fun H1 =>
 @qb5 (qbv [] [] []) ⟨fun cv9=>@letH (H1++[.cells cv9 3 none false]) ⟨fun H2 =>
 @loopV2 (.slice (some ⟨H1.length,0,none⟩) 0 0) (nv 0) H2 ⟨fun out7 i8 H3 K1 =>
 @qbb (qbc .lenS [l2]) ⟨fun v12 =>
 @qbb (xbin .lss 0 i8 v12) ⟨fun v13 =>
 @qbq v13 ⟨fun q=>if q=true then @qbb (qbh (some 3) H3 [H]) ⟨fun v17 =>
 @qbb (qbc (.ixS 1) [l2,i8]) ⟨fun v21 =>
 @qbb (qbh none H3 [v21]) ⟨fun v22 =>
 @cG 132 [v17,a1,v22] H3 ⟨fun v23 H4 =>
 @qb5 (qbv [nv 0] [(0,1)] [v23]) ⟨fun cv24=>@letH (H4++[.cells cv24 3 none false]) ⟨fun H5 =>
 @qbt (xact (.app 3 1 8) H5 [out7,(.slice (some ⟨H4.length,0,none⟩) 1 1)]) ⟨fun v25 H6 =>
 @qbb (xbin .add 0 i8 (nv 1)) ⟨fun v15 =>
 K1 v25 v15 H6⟩⟩⟩⟩⟩⟩⟩⟩ else
 R out7 H3⟩⟩⟩⟩⟩⟩⟩
theorem g74_of {f0 a1 l2:Value} {H:AH} {R:Value→AH→Prop} (h:g74 f0 a1 l2 H R):FN Tryz.prog 74 [f0,a1,l2] H R:=
  FN.of_XM (ms:=[(4,[7,8])]) qbs (cast (by kernel_rfl) h)
def g83 (q0 n1 most2 rows3:Value) (H:AH) (R:Value→AH→Prop):Prop:=
 @letH (H++[.cells (qbn q0) 3 none false]) ⟨fun H1 =>
 @letH (H1++[.cells (qbn n1) 3 none false]) ⟨fun H2 =>
 @letH (H2++[.cells [nv 0,nv 0,.slice none 0 0] 96 none false]) ⟨fun H3 =>
 @qbb (qbh none H3 [H]) ⟨fun v13 =>
 @cG 94 [v13] H3 ⟨fun v14 H4 =>
 @qbb (qbc (.ext 0) [v14]) ⟨fun v15 =>
 @qbb (qbc (.ext 1) [v14]) ⟨fun v16 =>
 @letH (H4++[.cells [nv 0,nv 0,.slice none 0 0] 96 none false]) ⟨fun H5 =>
 @qbt (xact (.st 3) H5 [H4,v15]) ⟨fun _v H6 =>
 @qbg (asB v16) (fun J1=>@qbb (qbh none H6 [H1]) ⟨fun v19 =>
 J1 v19 H6⟩) H6 ⟨fun v19a H7 =>
 @qbg (asB v16) (fun J2=>@qbb (xbin .geq 0 v19a (nv 1)) ⟨fun v20 =>
 J2 v20 H7⟩) H7 ⟨fun v20a H8 =>
 @qb1 v16 v20a (.bool false) ⟨fun v21 =>
 @qbg (asB v21) (fun J3=>@qbb (qbh none H8 [H1]) ⟨fun v23 =>
 J3 v23 H8⟩) H8 ⟨fun v23a H9 =>
 @qbg (asB v21) (fun J4=>@qbb (xbin .leq 0 v23a (nv 24)) ⟨fun v24 =>
 J4 v24 H9⟩) H9 ⟨fun v24a H10 =>
 @qb1 v21 v24a (.bool false) ⟨fun v25 =>
 @qbg (asB v25) (fun J5=>J5 rows3 H10) H10 ⟨fun v27 H11 =>
 @qbg (asB v25) (fun J6=>@qbb (qbc .lenS [v27]) ⟨fun v28 =>
 J6 v28 H11⟩) H11 ⟨fun v28a H12 =>
 @qbg (asB v25) (fun J7=>J7 most2 H12) H12 ⟨fun v29 H13 =>
 @qbg (asB v25) (fun J8=>@qbb (xbin .leq 0 v28a v29) ⟨fun v30 =>
 J8 v30 H13⟩) H13 ⟨fun v30a H14 =>
 @qb1 v25 v30a (.bool false) ⟨fun v31 =>
 @qbb (qbh (some 3) H14 [H4]) ⟨fun v32 =>
 @qbg (asB v31) (fun J9=>J9 rows3 H14) H14 ⟨fun v35 H15 =>
 @qbg (asB v31) (fun J10=>@qbb (qbc (.fn 139 0 2) [H,H1]) ⟨fun v36 =>
 J10 v36 H15⟩) H15 ⟨fun v36a H16 =>
 @qbg (asB v31) (fun J11=>@cG 138 [v35,v36a] H16 ⟨fun v37 H17 =>
 (chkX [0] (⟨0,(some 3),[H4],v32⟩ :: []) H17∧J11 v37 H17)⟩) H16 ⟨fun v37a H18 =>
 @qbg (asB v31) (fun J12=>@qbb (eun .not v37a) ⟨fun v38 =>
 J12 v38 H18⟩) H18 ⟨fun v38a H19 =>
 @qb1 v31 v38a (.bool false) ⟨fun v39 =>
 @qbt (xact (.st 3) H19 [H2,v32]) ⟨fun _v H20 =>
 @qbb (qbh (some 3) H20 [H2]) ⟨fun r0=>R (.tuple [r0,v39].toArray) H20⟩⟩⟩⟩⟩⟩⟩⟩⟩⟩⟩⟩⟩⟩⟩⟩⟩⟩⟩⟩⟩⟩⟩⟩⟩⟩⟩⟩
theorem g83_of {q0 n1 most2 rows3:Value} {H:AH} {R:Value→AH→Prop} (h:g83 q0 n1 most2 rows3 H R):FN Tryz.prog 83 [q0,n1,most2,rows3] H R:=
  FN.of_XM (ms:=[]) qbs (cast (by kernel_rfl) h)
def g84 (s10 s21 eq2:Value) (H:AH) (R:Value→AH→Prop):Prop:=
 @qbb (qbc .lenS [s10]) ⟨fun v11 =>
 @qbb (qbc .lenS [s21]) ⟨fun v13 =>
 @qbb (xbin .neq 0 v11 v13) ⟨fun v14 =>
 @qbq v14 ⟨fun q=>if q=true then R (.bool false) H else
 @qbb (qbc .lenS [s10]) ⟨fun v16 =>
 @loopV1 (nv 0) H ⟨fun v17 H1 K1 =>
 @qbb (xbin .lss 0 v17 v16) ⟨fun v18 =>
 @qbq v18 ⟨fun q=>if q=true then @qbb (qbc (.ixS 1) [s10,v17]) ⟨fun v20 =>
 @qbb (qbh none H1 [v20]) ⟨fun v21 =>
 @qbb (qbc (.ixS 1) [s21,v17]) ⟨fun v24 =>
 @qbb (qbh none H1 [v24]) ⟨fun v25 =>
 @qjc Tryz.prog [eq2,v21,v25] H1 ⟨fun v29 H2 =>
 @qbb (eun .not v29) ⟨fun v30 =>
 @qbq v30 ⟨fun q=>if q=true then R (.bool false) H2 else
 @qbb (xbin .add 0 v17 (nv 1)) ⟨fun v31 =>
 K1 v31 H2⟩⟩⟩⟩⟩⟩⟩⟩ else
 R (.bool true) H1⟩⟩⟩⟩⟩⟩⟩⟩
theorem g84_of {s10 s21 eq2:Value} {H:AH} {R:Value→AH→Prop} (h:g84 s10 s21 eq2 H R):FN Tryz.prog 84 [s10,s21,eq2] H R:=
  FN.of_XM (ms:=[(6,[17])]) qbs (cast (by kernel_rfl) h)
def g85 (o0 n1 qd6:Value) (H:AH) (R:Value→AH→Prop):Prop:=
 @letH (H++[.cells (qbn o0) 96 none false]) ⟨fun H1 =>
 @letH (H1++[.cells [nv 0] 3 none false]) ⟨fun H2 =>
 @qbt (xact (.st 1) H2 [H1,nv 0]) ⟨fun _v H3 =>
 @loopV2 (nv 0) H1 H3 ⟨fun r7 c8 H4 K1 =>
 @qbb (qbh none H4 [c8]) ⟨fun v15 =>
 @qbb (xbin .lss 0 v15 n1) ⟨fun v17 =>
 @qbg (asB v17) (fun J2=>J2 r7 H4) H4 ⟨fun v19 H5 =>
 @qbg (asB v17) (fun J3=>J3 qd6 H5) H5 ⟨fun v20 H6 =>
 @qbg (asB v17) (fun J4=>@qbb (qbc .lenS [v20]) ⟨fun v21 =>
 J4 v21 H6⟩) H6 ⟨fun v21a H7 =>
 @qbg (asB v17) (fun J5=>@qbb (xbin .lss 0 v19 v21a) ⟨fun v22 =>
 J5 v22 H7⟩) H7 ⟨fun v22a H8 =>
 @qb1 v17 v22a (.bool false) ⟨fun v23 =>
 @qbq v23 ⟨fun q=>if q=true then @joinV1 (fun J6=>@qbb (qbc (.slS 1 true false) [qd6,r7]) ⟨fun v28 =>
 @qbb (qbc (.fn 141 0 1) [c8]) ⟨fun v29 =>
 @cG 140 [v28,v29] H8 ⟨fun v30 H9 =>
 @qbb (xbin .lss 0 v30 (nv 0)) ⟨fun v32 =>
 @qbq v32 ⟨fun q=>if q=true then J6 r7 H9 else
 @qbb (xbin .add 0 r7 v30) ⟨fun v38 =>
 @qbb (xbin .add 0 r7 v30) ⟨fun v42 =>
 @qbb (qbc (.ixS 1) [qd6,v42]) ⟨fun v43 =>
 @qbb (qbh none H9 [v43]) ⟨fun v44 =>
 @qbb (qbc (.ixS 1) [qd6,r7]) ⟨fun v47 =>
 @qbb (qbh none H9 [v47]) ⟨fun v48 =>
 @qbb (qbc (.ixS 1) [qd6,r7]) ⟨fun v49 =>
 @qbt (xact (.st 1) H9 [v49,v44]) ⟨fun _v H10 =>
 @qbb (qbc (.ixS 1) [qd6,v38]) ⟨fun v50 =>
 @qbt (xact (.st 1) H10 [v50,v48]) ⟨fun _v H11 =>
 @qbb (qbc (.fld 0) [H]) ⟨fun v52 =>
 @qbb (qbh (some 3) H11 [v52]) ⟨fun v53 =>
 @qbb (qbc (.ixS 1) [qd6,r7]) ⟨fun v56 =>
 @qbb (qbh none H11 [v56]) ⟨fun v57 =>
 @qbb (qbh none H11 [c8]) ⟨fun v58 =>
 @qbb (qbc (.ixS 1) [v57,v58]) ⟨fun v59 =>
 @qbb (qbh none H11 [v59]) ⟨fun v60 =>
 @cG 142 [v53,v60] H11 ⟨fun v61 H12 =>
 @qbb (qbc (.ext 0) [v61]) ⟨fun v62 =>
 @qbb (qbc (.ext 1) [v61]) ⟨fun v63 =>
 @qbb (qbc (.ixS 1) [qd6,r7]) ⟨fun v66 =>
 @qbb (qbh none H12 [v66]) ⟨fun v67 =>
 @qbb (qbc .lenS [v67]) ⟨fun v68 =>
 @loopV1 (nv 0) H12 ⟨fun v69 H13 K7 =>
 @qbb (xbin .lss 0 v69 v68) ⟨fun v70 =>
 @qbq v70 ⟨fun q=>if q=true then @qbb (qbc (.ixS 1) [qd6,r7]) ⟨fun v74 =>
 @qbb (qbh none H13 [v74]) ⟨fun v75 =>
 @qbb (qbc (.fld 0) [H]) ⟨fun v77 =>
 @qbb (qbh (some 3) H13 [v77]) ⟨fun v78 =>
 @qbb (qbc (.ixS 1) [qd6,r7]) ⟨fun v82 =>
 @qbb (qbh none H13 [v82]) ⟨fun v83 =>
 @qbb (qbc (.ixS 1) [v83,v69]) ⟨fun v85 =>
 @qbb (qbh none H13 [v85]) ⟨fun v86 =>
 @cG 131 [v78,v62,v86] H13 ⟨fun v87 H14 =>
 (chkX [3] (⟨3,none,[v74],v75⟩ :: []) H14∧@qbb (qbc (.ixS 1) [v75,v69]) ⟨fun v88 =>
 @qbt (xact (.st 1) H14 [v88,v87]) ⟨fun _v H15 =>
 @qbb (xbin .add 0 v69 (nv 1)) ⟨fun v89 =>
 K7 v89 H15⟩⟩⟩)⟩⟩⟩⟩⟩⟩⟩⟩⟩ else
 @qbb (qbc .lenS [qd6]) ⟨fun v91 =>
 @loopV1 (nv 0) H13 ⟨fun v92 H16 K8 =>
 @qbb (xbin .lss 0 v92 v91) ⟨fun v93 =>
 @qbq v93 ⟨fun q=>if q=true then @qbb (qbc (.ixS 1) [qd6,v92]) ⟨fun v95 =>
 @qbb (qbh none H16 [v95]) ⟨fun v96 =>
 @qbb (xbin .neq 0 v92 r7) ⟨fun v99 =>
 @qbq v99 ⟨fun q=>if q=true then @qbb (qbh (some 3) H16 [H]) ⟨fun v100 =>
 @qbb (qbc (.fld 0) [H]) ⟨fun v102 =>
 @qbb (qbh (some 3) H16 [v102]) ⟨fun v103 =>
 @qbb (qbh none H16 [c8]) ⟨fun v105 =>
 @qbb (qbc (.ixS 1) [v96,v105]) ⟨fun v106 =>
 @qbb (qbh none H16 [v106]) ⟨fun v107 =>
 @qbb (qbc (.ixS 1) [qd6,r7]) ⟨fun v111 =>
 @qbb (qbh none H16 [v111]) ⟨fun v112 =>
 @cG 96 [v103,v107] H16 ⟨fun v108 H17 =>
 (chkX [12,0] (⟨12,none,[v111],v112⟩ :: (⟨0,(some 3),[H],v100⟩ :: [])) H17∧@cG 95 [v100,v96,v108,v112] H17 ⟨fun v113 H18 =>
 @qbb (xbin .add 0 v92 (nv 1)) ⟨fun v114 =>
 K8 v114 H18⟩⟩)⟩⟩⟩⟩⟩⟩⟩⟩⟩ else
 @qbb (xbin .add 0 v92 (nv 1)) ⟨fun v114a =>
 K8 v114a H16⟩⟩⟩⟩⟩ else
 @qbb (xbin .add 0 r7 (nv 1)) ⟨fun v116 =>
 J6 v116 H16⟩⟩⟩⟩⟩⟩⟩⟩⟩⟩⟩⟩⟩⟩⟩⟩⟩⟩⟩⟩⟩⟩⟩⟩⟩⟩⟩⟩⟩⟩⟩⟩⟩⟩⟩⟩) ⟨fun r7a H19 =>
 @qbb (qbh none H19 [c8]) ⟨fun v117 =>
 @letH (H19++[.cells [nv 0] 3 none false]) ⟨fun H20 =>
 @qbt (xact (.st 1) H20 [H19,v117]) ⟨fun _v H21 =>
 @qbb (qbh none H21 [H19]) ⟨fun v24 =>
 @qbb (xbin .add 0 v24 (nv 1)) ⟨fun v25 =>
 @qbt (xact (.st 1) H21 [H19,v25]) ⟨fun _v H22 =>
 K1 r7a H19 H22⟩⟩⟩⟩⟩⟩⟩ else
 @qbb (qbc (.slS 1 false true) [qd6,r7]) ⟨fun v120 =>
 R v120 H8⟩⟩⟩⟩⟩⟩⟩⟩⟩⟩⟩⟩⟩
theorem g85_of {o0 n1 qd6:Value} {H:AH} {R:Value→AH→Prop} (h:g85 o0 n1 qd6 H R):FN Tryz.prog 85 [o0,n1,qd6] H R:=
  FN.of_XM (ms:=[(4,[7,8]),(7,[7]),(15,[69]),(22,[92])]) qbs (cast (by kernel_rfl) h)
def g86 (rows0:Value) (H:AH) (R:Value→AH→Prop):Prop:=
 @qbb (qbc .lenS [rows0]) ⟨fun v7 =>
 @bindN (xnew (.make (.slice none 0 0) 1 24 31) [v7,v7]) ⟨fun cv8 ev8 mkv8=>@letH (H++[.cells cv8 ev8 none false]) ⟨fun H1 =>
 @qbb (qbc .lenS [rows0]) ⟨fun v10 =>
 @loopV1 (nv 0) H1 ⟨fun v11 H2 K1 =>
 @qbb (xbin .lss 0 v11 v10) ⟨fun v12 =>
 @qbq v12 ⟨fun q=>if q=true then @qbb (qbc (.ixS 1) [rows0,v11]) ⟨fun v14 =>
 @qbb (qbh none H2 [v14]) ⟨fun v15 =>
 @qbb (qbc .lenS [v15]) ⟨fun v19 =>
 @bindN (xnew (.make (nv 0) 1 8 3) [v19,v19]) ⟨fun cv20 ev20 mkv20=>@letH (H2++[.cells cv20 ev20 none false]) ⟨fun H3 =>
 @qbb (qbc (.ixS 1) [(mkv8 H.length),v11]) ⟨fun v21 =>
 @qbt (xact (.st 1) H3 [v21,(mkv20 H2.length)]) ⟨fun _v H4 =>
 @qbb (qbc (.ixS 1) [(mkv8 H.length),v11]) ⟨fun v24 =>
 @qbb (qbh none H4 [v24]) ⟨fun v25 =>
 @qbt (xact (.cpy 1) H4 [v25,v15]) ⟨fun v27 H5 =>
 @qbb (xbin .add 0 v11 (nv 1)) ⟨fun v28 =>
 K1 v28 H5⟩⟩⟩⟩⟩⟩⟩⟩⟩⟩⟩ else
 R (mkv8 H.length) H2⟩⟩⟩⟩⟩⟩⟩
theorem g86_of {rows0:Value} {H:AH} {R:Value→AH→Prop} (h:g86 rows0 H R):FN Tryz.prog 86 [rows0] H R:=
  FN.of_XM (ms:=[(4,[11])]) qbs (cast (by kernel_rfl) h)
def g87 (s10 s21:Value) (H:AH) (R:Value→AH→Prop):Prop:=
 @qbb (qbc .lenS [s10]) ⟨fun v7 =>
 @qbb (qbc .lenS [s21]) ⟨fun v9 =>
 @qbb (xbin .neq 0 v7 v9) ⟨fun v10 =>
 @qbq v10 ⟨fun q=>if q=true then R (.bool false) H else
 @qbb (qbc .lenS [s10]) ⟨fun v12 =>
 @loopV1 (nv 0) H ⟨fun v13 H1 K1 =>
 @qbb (xbin .lss 0 v13 v12) ⟨fun v14 =>
 @qbq v14 ⟨fun q=>if q=true then @qbb (qbc (.ixS 1) [s10,v13]) ⟨fun v18 =>
 @qbb (qbh none H1 [v18]) ⟨fun v19 =>
 @qbb (qbc (.ixS 1) [s21,v13]) ⟨fun v22 =>
 @qbb (qbh none H1 [v22]) ⟨fun v23 =>
 @qbb (xbin .neq 0 v19 v23) ⟨fun v24 =>
 @qbq v24 ⟨fun q=>if q=true then R (.bool false) H1 else
 @qbb (xbin .add 0 v13 (nv 1)) ⟨fun v25 =>
 K1 v25 H1⟩⟩⟩⟩⟩⟩⟩ else
 R (.bool true) H1⟩⟩⟩⟩⟩⟩⟩⟩
theorem g87_of {s10 s21:Value} {H:AH} {R:Value→AH→Prop} (h:g87 s10 s21 H R):FN Tryz.prog 87 [s10,s21] H R:=
  FN.of_XM (ms:=[(6,[13])]) qbs (cast (by kernel_rfl) h)
def g92 (q0 n1 l2:Value) (H:AH) (R:Value→AH→Prop):Prop:=
 @letH (H++[.cells (qbn q0) 3 none false]) ⟨fun H1 =>
 @qbb (qbc .lenS [l2]) ⟨fun v8 =>
 @qbb (xbin .eql 0 v8 n1) ⟨fun v10 =>
 @qbg (asB v10) (fun J1=>J1 l2 H1) H1 ⟨fun v12 H2 =>
 @qbg (asB v10) (fun J2=>@qbb (qbc (.fn 147 0 1) [H]) ⟨fun v13 =>
 J2 v13 H2⟩) H2 ⟨fun v13a H3 =>
 @qbg (asB v10) (fun J3=>@cG 146 [v12,v13a] H3 ⟨fun v14 H4 =>
 J3 v14 H4⟩) H3 ⟨fun v14a H5 =>
 @qbg (asB v10) (fun J4=>@qbb (eun .not v14a) ⟨fun v15 =>
 J4 v15 H5⟩) H5 ⟨fun v15a H6 =>
 @qb1 v10 v15a (.bool false) ⟨fun v16 =>
 R v16 H6⟩⟩⟩⟩⟩⟩⟩⟩
theorem g92_of {q0 n1 l2:Value} {H:AH} {R:Value→AH→Prop} (h:g92 q0 n1 l2 H R):FN Tryz.prog 92 [q0,n1,l2] H R:=
  FN.of_XM (ms:=[]) qbs (cast (by kernel_rfl) h)
def g94 (q0:Value) (H:AH) (R:Value→AH→Prop):Prop:=
 @letH (H++[.cells [nv 0,nv 0,.slice none 0 0] 96 none false]) ⟨fun H1 =>
 @cG 111 [q0] H1 ⟨fun v8 H2 =>
 @qbb (qbc (.ext 0) [v8]) ⟨fun v9 =>
 @qbb (qbc (.ext 1) [v8]) ⟨fun v10 =>
 @letH (H2++[.cells [nv 0,nv 0,.slice none 0 0] 76 none false]) ⟨fun H3 =>
 @qbt (xact (.st 3) H3 [H2,v9]) ⟨fun _v H4 =>
 @qbb (qbh (some 3) H4 [H2]) ⟨fun v11 =>
 @qb5 (qbv [nv 0,nv 0,.slice none 0 0] [(0,3)] [v11]) ⟨fun v12 =>
 @qbb (xbin .eql 0 v10 (nv 0)) ⟨fun v14 =>
 @qbg (asB v14) (fun J1=>J1 q0 H4) H4 ⟨fun v16 H5 =>
 @qbg (asB v14) (fun J2=>@qbb (xbin .leq 0 v16 (nv 16)) ⟨fun v17 =>
 J2 v17 H5⟩) H5 ⟨fun v17a H6 =>
 @qb1 v14 v17a (.bool false) ⟨fun v18 =>
 @qbt (xact (.st 3) H6 [H,(.agg v12.toArray)]) ⟨fun _v H7 =>
 @qbb (qbh (some 3) H7 [H]) ⟨fun r0=>R (.tuple [r0,v18].toArray) H7⟩⟩⟩⟩⟩⟩⟩⟩⟩⟩⟩⟩⟩⟩
theorem g94_of {q0:Value} {H:AH} {R:Value→AH→Prop} (h:g94 q0 H R):FN Tryz.prog 94 [q0] H R:=
  FN.of_XM (ms:=[]) qbs (cast (by kernel_rfl) h)
def g95 (o0 y1 a2 x3:Value) (H:AH) (R:Value→AH→Prop):Prop:=
 @letH (H++[.cells (qbn o0) 96 none false]) ⟨fun H1 =>
 @qbb (xbin .eql 0 a2 (nv 0)) ⟨fun v10 =>
 @qbq v10 ⟨fun q=>if q=true then R (.tuple [].toArray) H1 else
 @qbb (qbc .lenS [y1]) ⟨fun v12 =>
 @loopV1 (nv 0) H1 ⟨fun v13 H2 K1 =>
 @qbb (xbin .lss 0 v13 v12) ⟨fun v14 =>
 @qbq v14 ⟨fun q=>if q=true then @qbb (qbc (.fld 0) [H]) ⟨fun v18 =>
 @qbb (qbh (some 3) H2 [v18]) ⟨fun v19 =>
 @qbb (qbc (.ixS 1) [y1,v13]) ⟨fun v22 =>
 @qbb (qbh none H2 [v22]) ⟨fun v23 =>
 @qbb (qbc (.fld 0) [H]) ⟨fun v24 =>
 @qbb (qbh (some 3) H2 [v24]) ⟨fun v25 =>
 @qbb (qbc (.ixS 1) [x3,v13]) ⟨fun v29 =>
 @qbb (qbh none H2 [v29]) ⟨fun v30 =>
 @cG 131 [v25,a2,v30] H2 ⟨fun v31 H3 =>
 (chkX [7,3] (⟨7,none,[v22],v23⟩ :: (⟨3,(some 3),[v18],v19⟩ :: [])) H3∧@cG 150 [v19,v23,v31] H3 ⟨fun v32 H4 =>
 @qbb (qbc (.ixS 1) [y1,v13]) ⟨fun v33 =>
 @qbt (xact (.st 1) H4 [v33,v32]) ⟨fun _v H5 =>
 @qbb (xbin .add 0 v13 (nv 1)) ⟨fun v34 =>
 K1 v34 H5⟩⟩⟩⟩)⟩⟩⟩⟩⟩⟩⟩⟩⟩ else
 R (.tuple [].toArray) H2⟩⟩⟩⟩⟩⟩⟩
theorem g95_of {o0 y1 a2 x3:Value} {H:AH} {R:Value→AH→Prop} (h:g95 o0 y1 a2 x3 H R):FN Tryz.prog 95 [o0,y1,a2,x3] H R:=
  FN.of_XM (ms:=[(4,[13])]) qbs (cast (by kernel_rfl) h)
def g102 (s0:Value) (H:AH) (R:Value→AH→Prop):Prop:=
 @qbb (xbin .eql 2 s0 (.slice none 0 0)) ⟨fun v4 =>
 @qbq v4 ⟨fun q=>if q=true then R (.slice none 0 0) H else
 @qb5 (qbv [] [] []) ⟨fun cv5=>@letH (H++[.cells cv5 3 none false]) ⟨fun H1 =>
 @qbt (xact (.app 3 1 8) H1 [(.slice (some ⟨H.length,0,none⟩) 0 0),s0]) ⟨fun v7 H2 =>
 R v7 H2⟩⟩⟩⟩⟩
theorem g102_of {s0:Value} {H:AH} {R:Value→AH→Prop} (h:g102 s0 H R):FN Tryz.prog 102 [s0] H R:=
  FN.of_XM (ms:=[]) qbs (cast (by kernel_rfl) h)
def g108 (f0 a1 b2:Value) (H:AH) (R:Value→AH→Prop):Prop:=
 @letH (H++[.cells (qbn f0) 76 none false]) ⟨fun H1 =>
 @qb5 (qbv [] [] []) ⟨fun cv9=>@letH (H1++[.cells cv9 3 none false]) ⟨fun H2 =>
 @loopV2 (.slice (some ⟨H1.length,0,none⟩) 0 0) (nv 0) H2 ⟨fun out7 i8 H3 K1 =>
 @qbb (qbc .lenS [a1]) ⟨fun v12 =>
 @qbb (xbin .lss 0 i8 v12) ⟨fun v13 =>
 @qbq v13 ⟨fun q=>if q=true then @qbb (qbh (some 3) H3 [H]) ⟨fun v17 =>
 @qbb (qbc (.ixS 1) [a1,i8]) ⟨fun v20 =>
 @qbb (qbh none H3 [v20]) ⟨fun v21 =>
 @qbb (qbc (.ixS 1) [b2,i8]) ⟨fun v24 =>
 @qbb (qbh none H3 [v24]) ⟨fun v25 =>
 @cG 167 [v17,v21,v25] H3 ⟨fun v26 H4 =>
 @qb5 (qbv [nv 0] [(0,1)] [v26]) ⟨fun cv27=>@letH (H4++[.cells cv27 3 none false]) ⟨fun H5 =>
 @qbt (xact (.app 3 1 8) H5 [out7,(.slice (some ⟨H4.length,0,none⟩) 1 1)]) ⟨fun v28 H6 =>
 @qbb (xbin .add 0 i8 (nv 1)) ⟨fun v15 =>
 K1 v28 v15 H6⟩⟩⟩⟩⟩⟩⟩⟩⟩⟩ else
 R out7 H3⟩⟩⟩⟩⟩⟩⟩
theorem g108_of {f0 a1 b2:Value} {H:AH} {R:Value→AH→Prop} (h:g108 f0 a1 b2 H R):FN Tryz.prog 108 [f0,a1,b2] H R:=
  FN.of_XM (ms:=[(4,[7,8])]) qbs (cast (by kernel_rfl) h)
def g138 (s0 f1:Value) (H:AH) (R:Value→AH→Prop):Prop:=
 @cG 140 [s0,f1] H ⟨fun v7 H1 =>
 @qbb (xbin .geq 0 v7 (nv 0)) ⟨fun v8 =>
 R v8 H1⟩⟩
theorem g138_of {s0 f1:Value} {H:AH} {R:Value→AH→Prop} (h:g138 s0 f1 H R):FN Tryz.prog 138 [s0,f1] H R:=
  FN.of_XM (ms:=[]) qbs (cast (by kernel_rfl) h)
def g139 (x0 v1 v2:Value) (H:AH) (R:Value→AH→Prop):Prop:=
 @qbb (qbh none H [v1]) ⟨fun v5 =>
 @qbb (qbh none H [v2]) ⟨fun v6 =>
 @cG 92 [v5,v6,x0] H ⟨fun v8 H1 =>
 @qbb (eun .not v8) ⟨fun v9 =>
 R v9 H1⟩⟩⟩⟩
theorem g139_of {x0 v1 v2:Value} {H:AH} {R:Value→AH→Prop} (h:g139 x0 v1 v2 H R):FN Tryz.prog 139 [x0,v1,v2] H R:=
  FN.of_XM (ms:=[]) qbs (cast (by kernel_rfl) h)
def g140 (s0 f1:Value) (H:AH) (R:Value→AH→Prop):Prop:=
 @qbb (qbc .lenS [s0]) ⟨fun v7 =>
 @loopV1 (nv 0) H ⟨fun v8 H1 K1 =>
 @qbb (xbin .lss 0 v8 v7) ⟨fun v9 =>
 @qbq v9 ⟨fun q=>if q=true then @qbb (qbc (.ixS 1) [s0,v8]) ⟨fun v14 =>
 @qbb (qbh none H1 [v14]) ⟨fun v15 =>
 @qjc Tryz.prog [f1,v15] H1 ⟨fun v16 H2 =>
 @qbq v16 ⟨fun q=>if q=true then R v8 H2 else
 @qbb (xbin .add 0 v8 (nv 1)) ⟨fun v18 =>
 K1 v18 H2⟩⟩⟩⟩⟩ else
 R (.int .i64 (-1)) H1⟩⟩⟩⟩
theorem g140_of {s0 f1:Value} {H:AH} {R:Value→AH→Prop} (h:g140 s0 f1 H R):FN Tryz.prog 140 [s0,f1] H R:=
  FN.of_XM (ms:=[(3,[8])]) qbs (cast (by kernel_rfl) h)
def g141 (x0 v1:Value) (H:AH) (R:Value→AH→Prop):Prop:=
 @qbb (qbh none H [v1]) ⟨fun v5 =>
 @qbb (qbc (.ixS 1) [x0,v5]) ⟨fun v6 =>
 @qbb (qbh none H [v6]) ⟨fun v7 =>
 @qbb (xbin .neq 0 v7 (nv 0)) ⟨fun v8 =>
 R v8 H⟩⟩⟩⟩
theorem g141_of {x0 v1:Value} {H:AH} {R:Value→AH→Prop} (h:g141 x0 v1 H R):FN Tryz.prog 141 [x0,v1] H R:=
  FN.of_XM (ms:=[]) qbs (cast (by kernel_rfl) h)
def g147 (a0 v1:Value) (H:AH) (R:Value→AH→Prop):Prop:=
 @qbb (xbin .lss 0 a0 (nv 0)) ⟨fun v5 =>
 @qbg (asNB v5) (fun J1=>J1 a0 H) H ⟨fun v7 H1 =>
 @qbg (asNB v5) (fun J2=>@qbb (qbh none H1 [v1]) ⟨fun v8 =>
 J2 v8 H1⟩) H1 ⟨fun v8a H2 =>
 @qbg (asNB v5) (fun J3=>@qbb (xbin .geq 0 v7 v8a) ⟨fun v9 =>
 J3 v9 H2⟩) H2 ⟨fun v9a H3 =>
 @qb1 v5 (.bool true) v9a ⟨fun v10 =>
 R v10 H3⟩⟩⟩⟩⟩
theorem g147_of {a0 v1:Value} {H:AH} {R:Value→AH→Prop} (h:g147 a0 v1 H R):FN Tryz.prog 147 [a0,v1] H R:=
  FN.of_XM (ms:=[]) qbs (cast (by kernel_rfl) h)
end Go.Sim
