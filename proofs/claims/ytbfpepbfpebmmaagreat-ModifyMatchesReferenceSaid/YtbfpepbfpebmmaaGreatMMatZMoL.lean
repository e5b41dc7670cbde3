/- Part of the proof: ZMoL. -/
import Derived.Test.YtbfpepbfpebmmaaGreatMMatShSToXfS
import Derived.Test.YtbfpepbfpebmmaaGreatMMatShD
import Derived.Test.YtbfpepbfpebmmaaGreatMMatZShMixToZPfFieldI
import Derived.KernelRfl
set_option linter.all false
set_option maxRecDepth 100000
namespace Go.Sim
open Go Go.Proofs
local instance coZMoL:Coe AH Value:=⟨fun H=>.pointer (some ⟨H.length,0,none⟩)⟩
def g3 (x0 y1 z2:Value) (H:AH) (R:Value→AH→Prop):Prop:=
 @letH (H++[.cells (qbq x0) 24 none false]) ⟨fun H1 =>
 @letH (H1++[.cells (qbq y1) 24 none false]) ⟨fun H2 =>
 @letH (H2++[.cells (qbq z2) 25 none false]) ⟨fun H3 =>
 @cG 11 [] H3 ⟨fun v14 H4 =>
 @qbb (eun .not v14) ⟨fun v16 =>
 @qbv v16 ⟨fun q=>if q=true then R (.bool false) H4 else
 @qbb (qbd (some 4) H4 [H]) ⟨fun v17 =>
 @cG 12 [v17] H4 ⟨fun v18 H5 =>
 @letH (H5++[.cells [nv 0,nv 0,.slice none 0 0] 29 none false]) ⟨fun H6 =>
 @qbn (xact (.st 3) H6 [H5,v18]) ⟨fun _v H7 =>
 @qbb (qbd (some 4) H7 [H1]) ⟨fun v19 =>
 @cG 12 [v19] H7 ⟨fun v20 H8 =>
 @letH (H8++[.cells [nv 0,nv 0,.slice none 0 0] 29 none false]) ⟨fun H9 =>
 @qbn (xact (.st 3) H9 [H8,v20]) ⟨fun _v H10 =>
 @qbb (qbc (.ixA 6 1) [H2,nv 0]) ⟨fun v21 =>
 @qbb (qbd none H10 [v21]) ⟨fun v22 =>
 @qbb (qbc (.conv .i64) [v22]) ⟨fun v23 =>
 @qbb (xbin .rem 0 v23 (nv 12)) ⟨fun v24 =>
 @qbb (xbin .sub 0 v24 (nv 1)) ⟨fun v25 =>
 @qbb (qbc (.fld 1) [H5]) ⟨fun v26 =>
 @qbb (qbd none H10 [v26]) ⟨fun v27 =>
 @qbb (qbd (some 6) H10 [H2]) ⟨fun v28 =>
 @cG 14 [v28] H10 ⟨fun v29 H11 =>
 (chkX [1] (⟨1,none,[v26],v27⟩ :: []) H11∧@cG 13 [v27,v29] H11 ⟨fun v30 H12 =>
 @joinV0 (fun J1=>@qbb (qbc (.ixA 6 1) [H2,nv 1]) ⟨fun v31 =>
 @qbb (qbd none H12 [v31]) ⟨fun v32 =>
 @qbb (xbin .rem 0 v32 (.int .u8 4)) ⟨fun v33 =>
 @qbb (xbin .eql 0 v33 (.int .u8 0)) ⟨fun v34 =>
 @qbv v34 ⟨fun q=>if q=true then @qbb (qbc (.ixA 6 1) [H2,nv 2]) ⟨fun v36 =>
 @qbb (qbd none H12 [v36]) ⟨fun v37 =>
 @qbb (qbc (.conv .i64) [v37]) ⟨fun v38 =>
 @qbb (qbc (.fld 1) [H5]) ⟨fun v39 =>
 @qbb (qbd none H12 [v39]) ⟨fun v40 =>
 @qbb (xbin .rem 0 v38 v40) ⟨fun v41 =>
 @qbb (qbc (.ixA 6 1) [H2,nv 3]) ⟨fun v42 =>
 @qbb (qbd none H12 [v42]) ⟨fun v43 =>
 @qbb (qbc (.conv .i64) [v43]) ⟨fun v44 =>
 @qbb (xbin .rem 0 v44 (nv 12)) ⟨fun v45 =>
 @qbb (xbin .sub 0 v45 (nv 1)) ⟨fun v46 =>
 @qbb (qbc (.ixS 1) [v30,v41]) ⟨fun v47 =>
 @qbn (xact (.st 1) H12 [v47,v46]) ⟨fun _v H13 =>
 J1 H13⟩⟩⟩⟩⟩⟩⟩⟩⟩⟩⟩⟩⟩ else
 J1 H12⟩⟩⟩⟩⟩) ⟨fun H14 =>
 @joinV1 (fun J2=>@qbb (qbc (.ixA 6 1) [H2,nv 1]) ⟨fun v48 =>
 @qbb (qbd none H14 [v48]) ⟨fun v49 =>
 @qbb (xbin .rem 0 v49 (.int .u8 16)) ⟨fun v50 =>
 @qbb (xbin .eql 0 v50 (.int .u8 1)) ⟨fun v51 =>
 @qbv v51 ⟨fun q=>if q=true then @qbb (qbc (.fld 1) [H5]) ⟨fun v53 =>
 @qbb (qbd none H14 [v53]) ⟨fun v54 =>
 @qb0 (qbr [nv 0] [(0,1)] [v54]) ⟨fun cv55=>@letH (H14++[.cells cv55 3 none false]) ⟨fun H15 =>
 @qbn (xact (.app 3 1 8) H15 [v30,(.slice (some ⟨H14.length,0,none⟩) 1 1)]) ⟨fun v56 H16 =>
 J2 v56 H16⟩⟩⟩⟩⟩ else
 J2 v30 H14⟩⟩⟩⟩⟩) ⟨fun g11 H17 =>
 @qbb (qbd (some 3) H17 [H5]) ⟨fun v57 =>
 @qbb (qbd (some 3) H17 [H5]) ⟨fun v59 =>
 @cG 16 [v57] H17 ⟨fun v58 H18 =>
 (chkX [2] (⟨2,(some 3),[H5],v59⟩ :: []) H18∧@cG 17 [v59] H18 ⟨fun v60 H19 =>
 @cG 15 [v58,v60] H19 ⟨fun v61 H20 =>
 @qbb (eun .not v61) ⟨fun v62 =>
 @qbf (asNB v62) (fun J3=>@qbb (qbd (some 3) H20 [H5]) ⟨fun v64 =>
 J3 v64 H20⟩) H20 ⟨fun v64a H21 =>
 @qbf (asNB v62) (fun J4=>J4 v25 H21) H21 ⟨fun v65 H22 =>
 @qbf (asNB v62) (fun J5=>@qbb (qbd (some 3) H22 [H5]) ⟨fun v67 =>
 J5 v67 H22⟩) H22 ⟨fun v67a H23=>@letD (bif (asNB v62) then⟨10,(some 3),[H5],v67a⟩ :: (⟨2,(some 3),[H5],v59⟩ :: []) else (⟨2,(some 3),[H5],v59⟩ :: [])) ⟨fun D1 =>
 @qbf (asNB v62) (fun J6=>J6 v25 H23) H23 ⟨fun v68 H24 =>
 @qbf (asNB v62) (fun J7=>@cG 18 [v64a,v65] H24 ⟨fun v66 H25 =>
 (chkX [10] D1 H25∧J7 v66 H25)⟩) H24 ⟨fun v66a H26 =>
 @qbf (asNB v62) (fun J8=>@cG 19 [v67a,v68] H26 ⟨fun v69 H27 =>
 J8 v69 H27⟩) H26 ⟨fun v69a H28 =>
 @qbf (asNB v62) (fun J9=>@cG 15 [v66a,v69a] H28 ⟨fun v70 H29 =>
 J9 v70 H29⟩) H28 ⟨fun v70a H30 =>
 @qbf (asNB v62) (fun J10=>@qbb (eun .not v70a) ⟨fun v71 =>
 J10 v71 H30⟩) H30 ⟨fun v71a H31 =>
 @qcs v62 (.bool true) v71a ⟨fun v72 =>
 @qbf (asNB v72) (fun J11=>@qbb (qbd (some 3) H31 [H5]) ⟨fun v74 =>
 J11 v74 H31⟩) H31 ⟨fun v74a H32 =>
 @qbf (asNB v72) (fun J12=>J12 v25 H32) H32 ⟨fun v75 H33 =>
 @qbf (asNB v72) (fun J13=>@qbb (qbd (some 3) H33 [H5]) ⟨fun v77 =>
 J13 v77 H33⟩) H33 ⟨fun v77a H34=>@letD (bif (asNB v72) then⟨20,(some 3),[H5],v77a⟩ :: D1 else D1) ⟨fun D2 =>
 @qbf (asNB v72) (fun J14=>J14 v25 H34) H34 ⟨fun v78 H35 =>
 @qbf (asNB v72) (fun J15=>@cG 20 [v74a,v75] H35 ⟨fun v76 H36 =>
 (chkX [20] D2 H36∧J15 v76 H36)⟩) H35 ⟨fun v76a H37 =>
 @qbf (asNB v72) (fun J16=>@cG 21 [v77a,v78] H37 ⟨fun v79 H38 =>
 J16 v79 H38⟩) H37 ⟨fun v79a H39 =>
 @qbf (asNB v72) (fun J17=>@cG 15 [v76a,v79a] H39 ⟨fun v80 H40 =>
 J17 v80 H40⟩) H39 ⟨fun v80a H41 =>
 @qbf (asNB v72) (fun J18=>@qbb (eun .not v80a) ⟨fun v81 =>
 J18 v81 H41⟩) H41 ⟨fun v81a H42 =>
 @qcs v72 (.bool true) v81a ⟨fun v82 =>
 @qbf (asNB v82) (fun J19=>@qbb (qbd (some 3) H42 [H5]) ⟨fun v84 =>
 J19 v84 H42⟩) H42 ⟨fun v84a H43 =>
 @qbf (asNB v82) (fun J20=>@qbb (qbd (some 3) H43 [H8]) ⟨fun v85 =>
 J20 v85 H43⟩) H43 ⟨fun v85a H44 =>
 @qbf (asNB v82) (fun J21=>@qbb (qbd (some 3) H44 [H5]) ⟨fun v87 =>
 J21 v87 H44⟩) H44 ⟨fun v87a H45=>@letD (bif (asNB v82) then⟨30,(some 3),[H5],v87a⟩ :: D2 else D2) ⟨fun D3 =>
 @qbf (asNB v82) (fun J22=>@qbb (qbd (some 3) H45 [H8]) ⟨fun v88 =>
 J22 v88 H45⟩) H45 ⟨fun v88a H46=>@letD (bif (asNB v82) then⟨31,(some 3),[H8],v88a⟩ :: D3 else D3) ⟨fun D4 =>
 @qbf (asNB v82) (fun J23=>@cG 22 [v84a,v85a] H46 ⟨fun v86 H47 =>
 (chkX [31,30] D4 H47∧J23 v86 H47)⟩) H46 ⟨fun v86a H48 =>
 @qbf (asNB v82) (fun J24=>@cG 23 [v87a,v88a] H48 ⟨fun v89 H49 =>
 J24 v89 H49⟩) H48 ⟨fun v89a H50 =>
 @qbf (asNB v82) (fun J25=>@cG 15 [v86a,v89a] H50 ⟨fun v90 H51 =>
 J25 v90 H51⟩) H50 ⟨fun v90a H52 =>
 @qbf (asNB v82) (fun J26=>@qbb (eun .not v90a) ⟨fun v91 =>
 J26 v91 H52⟩) H52 ⟨fun v91a H53 =>
 @qcs v82 (.bool true) v91a ⟨fun v92 =>
 @qbf (asNB v92) (fun J27=>@qbb (qbd (some 3) H53 [H5]) ⟨fun v94 =>
 J27 v94 H53⟩) H53 ⟨fun v94a H54 =>
 @qbf (asNB v92) (fun J28=>@qbb (qbd (some 3) H54 [H8]) ⟨fun v95 =>
 J28 v95 H54⟩) H54 ⟨fun v95a H55 =>
 @qbf (asNB v92) (fun J29=>@qbb (qbd (some 3) H55 [H5]) ⟨fun v97 =>
 J29 v97 H55⟩) H55 ⟨fun v97a H56=>@letD (bif (asNB v92) then⟨40,(some 3),[H5],v97a⟩ :: D4 else D4) ⟨fun D5 =>
 @qbf (asNB v92) (fun J30=>@qbb (qbd (some 3) H56 [H8]) ⟨fun v98 =>
 J30 v98 H56⟩) H56 ⟨fun v98a H57=>@letD (bif (asNB v92) then⟨41,(some 3),[H8],v98a⟩ :: D5 else D5) ⟨fun D6 =>
 @qbf (asNB v92) (fun J31=>@cG 24 [v94a,v95a] H57 ⟨fun v96 H58 =>
 (chkX [41,40] D6 H58∧J31 v96 H58)⟩) H57 ⟨fun v96a H59 =>
 @qbf (asNB v92) (fun J32=>@cG 25 [v97a,v98a] H59 ⟨fun v99 H60 =>
 J32 v99 H60⟩) H59 ⟨fun v99a H61 =>
 @qbf (asNB v92) (fun J33=>@cG 15 [v96a,v99a] H61 ⟨fun v100 H62 =>
 J33 v100 H62⟩) H61 ⟨fun v100a H63 =>
 @qbf (asNB v92) (fun J34=>@qbb (eun .not v100a) ⟨fun v101 =>
 J34 v101 H63⟩) H63 ⟨fun v101a H64 =>
 @qcs v92 (.bool true) v101a ⟨fun v102 =>
 @qbv v102 ⟨fun q=>if q=true then R (.bool false) H64 else
 @qbb (qbd (some 3) H64 [H5]) ⟨fun v103 =>
 @qbb (qbd (some 3) H64 [H8]) ⟨fun v104 =>
 @qbb (qbd (some 3) H64 [H5]) ⟨fun v106 =>
 @qbb (qbd (some 3) H64 [H8]) ⟨fun v107 =>
 @cG 26 [v103,v104] H64 ⟨fun v105 H65 =>
 (chkX [4,3] (⟨4,(some 3),[H8],v107⟩ :: (⟨3,(some 3),[H5],v106⟩ :: [])) H65∧@cG 27 [v106,v107] H65 ⟨fun v108 H66 =>
 @cG 15 [v105,v108] H66 ⟨fun v109 H67 =>
 @qbb (eun .not v109) ⟨fun v110 =>
 @qbf (asNB v110) (fun J35=>@qbb (qbd (some 3) H67 [H5]) ⟨fun v112 =>
 J35 v112 H67⟩) H67 ⟨fun v112a H68 =>
 @qbf (asNB v110) (fun J36=>@qbb (qbd (some 3) H68 [H5]) ⟨fun v114 =>
 J36 v114 H68⟩) H68 ⟨fun v114a H69=>@letD (bif (asNB v110) then⟨11,(some 3),[H5],v114a⟩ :: (⟨4,(some 3),[H8],v107⟩ :: (⟨3,(some 3),[H5],v106⟩ :: [])) else (⟨4,(some 3),[H8],v107⟩ :: (⟨3,(some 3),[H5],v106⟩ :: []))) ⟨fun D7 =>
 @qbf (asNB v110) (fun J37=>@cG 28 [v112a] H69 ⟨fun v113 H70 =>
 (chkX [11] D7 H70∧J37 v113 H70)⟩) H69 ⟨fun v113a H71 =>
 @qbf (asNB v110) (fun J38=>@cG 29 [v114a] H71 ⟨fun v115 H72 =>
 J38 v115 H72⟩) H71 ⟨fun v115a H73 =>
 @qbf (asNB v110) (fun J39=>@cG 15 [v113a,v115a] H73 ⟨fun v116 H74 =>
 J39 v116 H74⟩) H73 ⟨fun v116a H75 =>
 @qbf (asNB v110) (fun J40=>@qbb (eun .not v116a) ⟨fun v117 =>
 J40 v117 H75⟩) H75 ⟨fun v117a H76 =>
 @qcs v110 (.bool true) v117a ⟨fun v118 =>
 @qbf (asNB v118) (fun J41=>@qbb (qbd (some 3) H76 [H5]) ⟨fun v120 =>
 J41 v120 H76⟩) H76 ⟨fun v120a H77 =>
 @qbf (asNB v118) (fun J42=>J42 g11 H77) H77 ⟨fun v121 H78 =>
 @qbf (asNB v118) (fun J43=>@qbb (qbd (some 3) H78 [H5]) ⟨fun v123 =>
 J43 v123 H78⟩) H78 ⟨fun v123a H79=>@letD (bif (asNB v118) then⟨20,(some 3),[H5],v123a⟩ :: D7 else D7) ⟨fun D8 =>
 @qbf (asNB v118) (fun J44=>J44 g11 H79) H79 ⟨fun v124 H80 =>
 @qbf (asNB v118) (fun J45=>@cG 30 [v120a,v121] H80 ⟨fun v122 H81 =>
 (chkX [20] D8 H81∧J45 v122 H81)⟩) H80 ⟨fun v122a H82 =>
 @qbf (asNB v118) (fun J46=>@cG 31 [v123a,v124] H82 ⟨fun v125 H83 =>
 J46 v125 H83⟩) H82 ⟨fun v125a H84 =>
 @qbf (asNB v118) (fun J47=>@cG 15 [v122a,v125a] H84 ⟨fun v126 H85 =>
 J47 v126 H85⟩) H84 ⟨fun v126a H86 =>
 @qbf (asNB v118) (fun J48=>@qbb (eun .not v126a) ⟨fun v127 =>
 J48 v127 H86⟩) H86 ⟨fun v127a H87 =>
 @qcs v118 (.bool true) v127a ⟨fun v128 =>
 @qbf (asNB v128) (fun J49=>@qbb (qbd (some 4) H87 [H]) ⟨fun v130 =>
 J49 v130 H87⟩) H87 ⟨fun v130a H88 =>
 @qbf (asNB v128) (fun J50=>@qbb (qbd (some 4) H88 [H1]) ⟨fun v132 =>
 J50 v132 H88⟩) H88 ⟨fun v132a H89=>@letD (bif (asNB v128) then⟨29,(some 4),[H1],v132a⟩ :: D8 else D8) ⟨fun D9 =>
 @qbf (asNB v128) (fun J51=>@qbb (qbd (some 4) H89 [H]) ⟨fun v135 =>
 J51 v135 H89⟩) H89 ⟨fun v135a H90=>@letD (bif (asNB v128) then⟨32,(some 4),[H],v135a⟩ :: D9 else D9) ⟨fun D10 =>
 @qbf (asNB v128) (fun J52=>@qbb (qbd (some 4) H90 [H1]) ⟨fun v137 =>
 J52 v137 H90⟩) H90 ⟨fun v137a H91=>@letD (bif (asNB v128) then⟨34,(some 4),[H1],v137a⟩ :: D10 else D10) ⟨fun D11 =>
 @qbf (asNB v128) (fun J53=>@cG 32 [v130a] H91 ⟨fun v131 H92 =>
 (chkX [34,32,29] D11 H92∧J53 v131 H92)⟩) H91 ⟨fun v131a H93 =>
 @qbf (asNB v128) (fun J54=>@cG 33 [v132a] H93 ⟨fun v133 H94 =>
 (chkX [34,32] D11 H94∧J54 v133 H94)⟩) H93 ⟨fun v133a H95 =>
 @qbf (asNB v128) (fun J55=>@cG 26 [v131a,v133a] H95 ⟨fun v134 H96 =>
 (chkX [34,32] D11 H96∧J55 v134 H96)⟩) H95 ⟨fun v134a H97 =>
 @qbf (asNB v128) (fun J56=>@cG 32 [v135a] H97 ⟨fun v136 H98 =>
 (chkX [34] D11 H98∧J56 v136 H98)⟩) H97 ⟨fun v136a H99 =>
 @qbf (asNB v128) (fun J57=>@cG 33 [v137a] H99 ⟨fun v138 H100 =>
 J57 v138 H100⟩) H99 ⟨fun v138a H101 =>
 @qbf (asNB v128) (fun J58=>@cG 27 [v136a,v138a] H101 ⟨fun v139 H102 =>
 J58 v139 H102⟩) H101 ⟨fun v139a H103 =>
 @qbf (asNB v128) (fun J59=>@cG 15 [v134a,v139a] H103 ⟨fun v140 H104 =>
 J59 v140 H104⟩) H103 ⟨fun v140a H105 =>
 @qbf (asNB v128) (fun J60=>@qbb (eun .not v140a) ⟨fun v141 =>
 J60 v141 H105⟩) H105 ⟨fun v141a H106 =>
 @qcs v128 (.bool true) v141a ⟨fun v142 =>
 @qbv v142 ⟨fun q=>if q=true then R (.bool false) H106 else
 @qbb (qbd (some 3) H106 [H5]) ⟨fun v143 =>
 @cG 34 [v143] H106 ⟨fun v144 H107 =>
 @letH (H107++[.cells [nv 0,nv 0,.slice none 0 0] 29 none false]) ⟨fun H108 =>
 @qbn (xact (.st 3) H108 [H107,v144]) ⟨fun _v H109 =>
 @qbb (qbd (some 3) H109 [H107]) ⟨fun v145 =>
 @qbb (qbd (some 3) H109 [H107]) ⟨fun v148 =>
 @cG 20 [v145,v25] H109 ⟨fun v147 H110 =>
 (chkX [3] (⟨3,(some 3),[H107],v148⟩ :: []) H110∧@cG 21 [v148,v25] H110 ⟨fun v150 H111 =>
 @cG 15 [v147,v150] H111 ⟨fun v151 H112 =>
 @qbb (eun .not v151) ⟨fun v152 =>
 @qbf (asNB v152) (fun J61=>@qbb (qbd (some 3) H112 [H107]) ⟨fun v154 =>
 J61 v154 H112⟩) H112 ⟨fun v154a H113 =>
 @qbf (asNB v152) (fun J62=>@qbb (qbd (some 3) H113 [H107]) ⟨fun v156 =>
 J62 v156 H113⟩) H113 ⟨fun v156a H114=>@letD (bif (asNB v152) then⟨11,(some 3),[H107],v156a⟩ :: (⟨3,(some 3),[H107],v148⟩ :: []) else (⟨3,(some 3),[H107],v148⟩ :: [])) ⟨fun D12 =>
 @qbf (asNB v152) (fun J63=>@cG 28 [v154a] H114 ⟨fun v155 H115 =>
 (chkX [11] D12 H115∧J63 v155 H115)⟩) H114 ⟨fun v155a H116 =>
 @qbf (asNB v152) (fun J64=>@cG 29 [v156a] H116 ⟨fun v157 H117 =>
 J64 v157 H117⟩) H116 ⟨fun v157a H118 =>
 @qbf (asNB v152) (fun J65=>@cG 15 [v155a,v157a] H118 ⟨fun v158 H119 =>
 J65 v158 H119⟩) H118 ⟨fun v158a H120 =>
 @qbf (asNB v152) (fun J66=>@qbb (eun .not v158a) ⟨fun v159 =>
 J66 v159 H120⟩) H120 ⟨fun v159a H121 =>
 @qcs v152 (.bool true) v159a ⟨fun v160 =>
 @qbf (asNB v160) (fun J67=>@qbb (qbd (some 3) H121 [H5]) ⟨fun v162 =>
 J67 v162 H121⟩) H121 ⟨fun v162a H122 =>
 @qbf (asNB v160) (fun J68=>@qbb (qbd (some 3) H122 [H107]) ⟨fun v163 =>
 J68 v163 H122⟩) H122 ⟨fun v163a H123 =>
 @qbf (asNB v160) (fun J69=>@qbb (qbd (some 3) H123 [H5]) ⟨fun v165 =>
 J69 v165 H123⟩) H123 ⟨fun v165a H124=>@letD (bif (asNB v160) then⟨20,(some 3),[H5],v165a⟩ :: D12 else D12) ⟨fun D13 =>
 @qbf (asNB v160) (fun J70=>@qbb (qbd (some 3) H124 [H107]) ⟨fun v166 =>
 J70 v166 H124⟩) H124 ⟨fun v166a H125=>@letD (bif (asNB v160) then⟨21,(some 3),[H107],v166a⟩ :: D13 else D13) ⟨fun D14 =>
 @qbf (asNB v160) (fun J71=>@cG 24 [v162a,v163a] H125 ⟨fun v164 H126 =>
 (chkX [21,20] D14 H126∧J71 v164 H126)⟩) H125 ⟨fun v164a H127 =>
 @qbf (asNB v160) (fun J72=>@cG 25 [v165a,v166a] H127 ⟨fun v167 H128 =>
 J72 v167 H128⟩) H127 ⟨fun v167a H129 =>
 @qbf (asNB v160) (fun J73=>@cG 15 [v164a,v167a] H129 ⟨fun v168 H130 =>
 J73 v168 H130⟩) H129 ⟨fun v168a H131 =>
 @qbf (asNB v160) (fun J74=>@qbb (eun .not v168a) ⟨fun v169 =>
 J74 v169 H131⟩) H131 ⟨fun v169a H132 =>
 @qcs v160 (.bool true) v169a ⟨fun v170 =>
 @qbv v170 ⟨fun q=>if q=true then R (.bool false) H132 else
 @qbb (qbd (some 3) H132 [H5]) ⟨fun v171 =>
 @qbb (qbd (some 3) H132 [H5]) ⟨fun v172 =>
 @cG 23 [v171,v172] H132 ⟨fun v173 H133 =>
 @qbb (qbc (.prt (some 3) 0) [v173]) ⟨fun v174 =>
 @letH (H133++[.cells [nv 0,nv 0,.slice none 0 0] 29 none false]) ⟨fun H134 =>
 @qbn (xact (.st 3) H134 [H133,v174]) ⟨fun _v H135 =>
 @qbf (asB v14) (fun J75=>@qbb (qbd (some 3) H135 [H133]) ⟨fun v177 =>
 J75 v177 H135⟩) H135 ⟨fun v177a H136 =>
 @qbf (asB v14) (fun J76=>@qbb (qbd (some 3) H136 [H107]) ⟨fun v178 =>
 J76 v178 H136⟩) H136 ⟨fun v178a H137 =>
 @qbf (asB v14) (fun J77=>@qbb (qbd (some 3) H137 [H133]) ⟨fun v180 =>
 J77 v180 H137⟩) H137 ⟨fun v180a H138=>@letD (bif (asB v14) then⟨5,(some 3),[H133],v180a⟩ :: [] else []) ⟨fun D15 =>
 @qbf (asB v14) (fun J78=>@qbb (qbd (some 3) H138 [H107]) ⟨fun v181 =>
 J78 v181 H138⟩) H138 ⟨fun v181a H139=>@letD (bif (asB v14) then⟨6,(some 3),[H107],v181a⟩ :: D15 else D15) ⟨fun D16 =>
 @qbf (asB v14) (fun J79=>@cG 22 [v177a,v178a] H139 ⟨fun v179 H140 =>
 (chkX [6,5] D16 H140∧J79 v179 H140)⟩) H139 ⟨fun v179a H141 =>
 @qbf (asB v14) (fun J80=>@cG 23 [v180a,v181a] H141 ⟨fun v182 H142 =>
 J80 v182 H142⟩) H141 ⟨fun v182a H143 =>
 @qbf (asB v14) (fun J81=>@cG 15 [v179a,v182a] H143 ⟨fun v183 H144 =>
 J81 v183 H144⟩) H143 ⟨fun v183a H145 =>
 @qcs v14 v183a (.bool false) ⟨fun v184 =>
 @qbf (asB v184) (fun J82=>@qbb (qbd (some 3) H145 [H133]) ⟨fun v186 =>
 J82 v186 H145⟩) H145 ⟨fun v186a H146 =>
 @qbf (asB v184) (fun J83=>@qbb (qbd (some 3) H146 [H133]) ⟨fun v187 =>
 J83 v187 H146⟩) H146 ⟨fun v187a H147 =>
 @qbf (asB v184) (fun J84=>@qbb (qbd (some 3) H147 [H133]) ⟨fun v189 =>
 J84 v189 H147⟩) H147 ⟨fun v189a H148=>@letD (bif (asB v184) then⟨14,(some 3),[H133],v189a⟩ :: D16 else D16) ⟨fun D17 =>
 @qbf (asB v184) (fun J85=>@qbb (qbd (some 3) H148 [H133]) ⟨fun v190 =>
 J85 v190 H148⟩) H148 ⟨fun v190a H149=>@letD (bif (asB v184) then⟨15,(some 3),[H133],v190a⟩ :: D17 else D17) ⟨fun D18 =>
 @qbf (asB v184) (fun J86=>@cG 24 [v186a,v187a] H149 ⟨fun v188 H150 =>
 (chkX [15,14] D18 H150∧J86 v188 H150)⟩) H149 ⟨fun v188a H151 =>
 @qbf (asB v184) (fun J87=>@cG 25 [v189a,v190a] H151 ⟨fun v191 H152 =>
 J87 v191 H152⟩) H151 ⟨fun v191a H153 =>
 @qbf (asB v184) (fun J88=>@cG 15 [v188a,v191a] H153 ⟨fun v192 H154 =>
 J88 v192 H154⟩) H153 ⟨fun v192a H155 =>
 @qcs v184 v192a (.bool false) ⟨fun v193 =>
 @qbf (asB v193) (fun J89=>@qbb (qbd (some 4) H155 [H]) ⟨fun v195 =>
 J89 v195 H155⟩) H155 ⟨fun v195a H156 =>
 @qbf (asB v193) (fun J90=>@qbb (qbd (some 4) H156 [H1]) ⟨fun v197 =>
 J90 v197 H156⟩) H156 ⟨fun v197a H157=>@letD (bif (asB v193) then⟨22,(some 4),[H1],v197a⟩ :: D18 else D18) ⟨fun D19 =>
 @qbf (asB v193) (fun J91=>@qbb (qbc (.ixA 6 1) [H2,nv 4]) ⟨fun v199 =>
 J91 v199 H157⟩) H157 ⟨fun v199a H158 =>
 @qbf (asB v193) (fun J92=>@qbb (qbd none H158 [v199a]) ⟨fun v200 =>
 J92 v200 H158⟩) H158 ⟨fun v200a H159=>@letD (bif (asB v193) then⟨25,none,[v199a],v200a⟩ :: D19 else D19) ⟨fun D20 =>
 @qbf (asB v193) (fun J93=>@qbb (qbc (.conv .i64) [v200a]) ⟨fun v201 =>
 J93 v201 H159⟩) H159 ⟨fun v201a H160 =>
 @qbf (asB v193) (fun J94=>@qbb (xbin .rem 0 v201a (nv 10)) ⟨fun v202 =>
 J94 v202 H160⟩) H160 ⟨fun v202a H161 =>
 @qbf (asB v193) (fun J95=>@qbb (xbin .add 0 (nv 1) v202a) ⟨fun v203 =>
 J95 v203 H161⟩) H161 ⟨fun v203a H162 =>
 @qbf (asB v193) (fun J96=>@qb0 (qbr [nv 0,nv 0,.slice none 0 0] [(0,1),(1,1)] [nv 2,v203a]) ⟨fun v204 =>
 J96 (.agg v204.toArray) H162⟩) H162 ⟨fun v204a H163 =>
 @qbf (asB v193) (fun J97=>@qbb (qbd (some 4) H163 [H]) ⟨fun v208 =>
 J97 v208 H163⟩) H163 ⟨fun v208a H164=>@letD (bif (asB v193) then⟨33,(some 4),[H],v208a⟩ :: D20 else D20) ⟨fun D21 =>
 @qbf (asB v193) (fun J98=>@qbb (qbd (some 4) H164 [H1]) ⟨fun v210 =>
 J98 v210 H164⟩) H164 ⟨fun v210a H165=>@letD (bif (asB v193) then⟨35,(some 4),[H1],v210a⟩ :: D21 else D21) ⟨fun D22 =>
 @qbf (asB v193) (fun J99=>@qbb (qbc (.ixA 6 1) [H2,nv 4]) ⟨fun v212 =>
 J99 v212 H165⟩) H165 ⟨fun v212a H166 =>
 @qbf (asB v193) (fun J100=>@qbb (qbd none H166 [v212a]) ⟨fun v213 =>
 J100 v213 H166⟩) H166 ⟨fun v213a H167=>@letD (bif (asB v193) then⟨38,none,[v212a],v213a⟩ :: D22 else D22) ⟨fun D23 =>
 @qbf (asB v193) (fun J101=>@qbb (qbc (.conv .i64) [v213a]) ⟨fun v214 =>
 J101 v214 H167⟩) H167 ⟨fun v214a H168 =>
 @qbf (asB v193) (fun J102=>@qbb (xbin .rem 0 v214a (nv 10)) ⟨fun v215 =>
 J102 v215 H168⟩) H168 ⟨fun v215a H169 =>
 @qbf (asB v193) (fun J103=>@qbb (xbin .add 0 (nv 1) v215a) ⟨fun v216 =>
 J103 v216 H169⟩) H169 ⟨fun v216a H170 =>
 @qbf (asB v193) (fun J104=>@qb0 (qbr [nv 0,nv 0,.slice none 0 0] [(0,1),(1,1)] [nv 2,v216a]) ⟨fun v217 =>
 J104 (.agg v217.toArray) H170⟩) H170 ⟨fun v217a H171 =>
 @qbf (asB v193) (fun J105=>@cG 32 [v195a] H171 ⟨fun v196 H172 =>
 (chkX [38,35,33,25,22] D23 H172∧J105 v196 H172)⟩) H171 ⟨fun v196a H173 =>
 @qbf (asB v193) (fun J106=>@cG 33 [v197a] H173 ⟨fun v198 H174 =>
 (chkX [38,35,33,25] D23 H174∧J106 v198 H174)⟩) H173 ⟨fun v198a H175 =>
 @qbf (asB v193) (fun J107=>@cG 23 [v198a,v204a] H175 ⟨fun v205 H176 =>
 (chkX [38,35,33] D23 H176∧J107 v205 H176)⟩) H175 ⟨fun v205a H177 =>
 @qbf (asB v193) (fun J108=>@qbb (qbc (.prt (some 3) 0) [v205a]) ⟨fun v206 =>
 J108 v206 H177⟩) H177 ⟨fun v206a H178 =>
 @qbf (asB v193) (fun J109=>@cG 26 [v196a,v206a] H178 ⟨fun v207 H179 =>
 (chkX [38,35,33] D23 H179∧J109 v207 H179)⟩) H178 ⟨fun v207a H180 =>
 @qbf (asB v193) (fun J110=>@cG 32 [v208a] H180 ⟨fun v209 H181 =>
 (chkX [38,35] D23 H181∧J110 v209 H181)⟩) H180 ⟨fun v209a H182 =>
 @qbf (asB v193) (fun J111=>@cG 33 [v210a] H182 ⟨fun v211 H183 =>
 (chkX [38] D23 H183∧J111 v211 H183)⟩) H182 ⟨fun v211a H184 =>
 @qbf (asB v193) (fun J112=>@cG 23 [v211a,v217a] H184 ⟨fun v218 H185 =>
 J112 v218 H185⟩) H184 ⟨fun v218a H186 =>
 @qbf (asB v193) (fun J113=>@qbb (qbc (.prt (some 3) 0) [v218a]) ⟨fun v219 =>
 J113 v219 H186⟩) H186 ⟨fun v219a H187 =>
 @qbf (asB v193) (fun J114=>@cG 27 [v209a,v219a] H187 ⟨fun v220 H188 =>
 J114 v220 H188⟩) H187 ⟨fun v220a H189 =>
 @qbf (asB v193) (fun J115=>@cG 15 [v207a,v220a] H189 ⟨fun v221 H190 =>
 J115 v221 H190⟩) H189 ⟨fun v221a H191 =>
 @qcs v193 v221a (.bool false) ⟨fun v222 =>
 R v222 H191⟩⟩⟩⟩⟩⟩⟩⟩⟩⟩⟩⟩⟩⟩⟩⟩⟩⟩⟩⟩⟩⟩⟩⟩⟩⟩⟩⟩⟩⟩⟩⟩⟩⟩⟩⟩⟩⟩⟩⟩⟩⟩⟩⟩⟩⟩⟩⟩⟩⟩⟩⟩⟩⟩⟩⟩⟩⟩⟩⟩⟩⟩⟩⟩⟩⟩⟩⟩⟩⟩⟩⟩⟩⟩⟩⟩⟩⟩⟩⟩⟩⟩)⟩⟩⟩⟩⟩⟩⟩⟩⟩⟩⟩⟩⟩⟩⟩⟩⟩⟩⟩⟩⟩⟩⟩⟩⟩⟩⟩⟩⟩⟩⟩⟩⟩⟩⟩⟩⟩⟩⟩⟩⟩⟩⟩⟩⟩)⟩⟩⟩⟩⟩⟩⟩⟩⟩⟩⟩⟩⟩⟩⟩⟩⟩⟩⟩⟩⟩⟩⟩⟩⟩⟩⟩⟩⟩⟩⟩⟩⟩⟩⟩⟩⟩⟩⟩⟩⟩⟩⟩⟩⟩⟩⟩⟩⟩⟩⟩)⟩⟩⟩⟩⟩⟩)⟩⟩⟩⟩⟩⟩⟩⟩⟩⟩⟩⟩⟩⟩⟩⟩⟩⟩⟩⟩⟩⟩⟩
theorem g3_of {x0 y1 z2:Value} {H:AH} {R:Value→AH→Prop} (h:g3 x0 y1 z2 H R):FN Tryz.prog 3 [x0,y1,z2] H R:=
  FN.of_XM (ms:=[(9,[]),(11,[11])]) qbt (cast (by kernel_rfl) h)
end Go.Sim
