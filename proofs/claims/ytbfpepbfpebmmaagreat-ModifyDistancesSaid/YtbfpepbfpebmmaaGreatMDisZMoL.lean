/- Part of the proof: ZMoL. -/
import Derived.Test.YtbfpepbfpebmmaaGreatMDisShSToXfS
import Derived.Test.YtbfpepbfpebmmaaGreatMDisShD
import Derived.Test.YtbfpepbfpebmmaaGreatMDisZShMixToZPfFieldI
import Derived.KernelRfl
set_option linter.all false
set_option maxRecDepth 100000
namespace Go.Sim
open Go Go.Proofs
local instance coZMoL:Coe AH Value:=⟨fun H=>.pointer (some ⟨H.length,0,none⟩)⟩
def g4 (x0 y1 i2:Value) (H:AH) (R:Value→AH→Prop):Prop:=
 @letH (H++[.cells (cellsL x0) 24 none false]) ⟨fun H1 =>
 @letH (H1++[.cells (cellsL y1) 24 none false]) ⟨fun H2 =>
 @cG 11 [] H2 ⟨fun v19 H3 =>
 @bindO (xpure (.fld 0) [H]) ⟨fun v20 =>
 @bindO (xload none H3 [v20]) ⟨fun v21 =>
 @bindO (xpure (.fld 0) [H1]) ⟨fun v22 =>
 @bindP (xact (.st 1) H3 [v22,v21]) ⟨fun _v H4 =>
 @bindO (xpure (.fld 2) [H]) ⟨fun v23 =>
 @bindO (xload none H4 [v23]) ⟨fun v24 =>
 @bindO (xbin .rem 0 v24 (.int .u8 2)) ⟨fun v25 =>
 @bindO (xpure (.fld 2) [H]) ⟨fun v26 =>
 @bindP (xact (.st 1) H4 [v26,v25]) ⟨fun _v H5 =>
 @bindO (xpure (.fld 2) [H1]) ⟨fun v27 =>
 @bindO (xload none H5 [v27]) ⟨fun v28 =>
 @bindO (xbin .rem 0 v28 (.int .u8 2)) ⟨fun v29 =>
 @bindO (xpure (.fld 2) [H1]) ⟨fun v30 =>
 @bindP (xact (.st 1) H5 [v30,v29]) ⟨fun _v H6 =>
 @joinV0 (fun J1=>@bindO (xpure (.fld 0) [H]) ⟨fun v31 =>
 @bindO (xload none H6 [v31]) ⟨fun v32 =>
 @bindO (xbin .rem 0 v32 (.int .u8 6)) ⟨fun v33 =>
 @bindO (xbin .lss 0 v33 (.int .u8 2)) ⟨fun v34 =>
 @condK v34 ⟨fun q=>if q=true then @bindO (xpure (.fld 2) [H]) ⟨fun v35 =>
 @bindO (xload none H6 [v35]) ⟨fun v36 =>
 @bindO (xbin .add 0 (.int .u8 1) v36) ⟨fun v37 =>
 @bindO (xpure (.fld 2) [H]) ⟨fun v38 =>
 @bindP (xact (.st 1) H6 [v38,v37]) ⟨fun _v H7 =>
 @bindO (xpure (.fld 2) [H1]) ⟨fun v39 =>
 @bindO (xload none H7 [v39]) ⟨fun v40 =>
 @bindO (xbin .add 0 (.int .u8 1) v40) ⟨fun v41 =>
 @bindO (xpure (.fld 2) [H1]) ⟨fun v42 =>
 @bindP (xact (.st 1) H7 [v42,v41]) ⟨fun _v H8 =>
 J1 H8⟩⟩⟩⟩⟩⟩⟩⟩⟩⟩ else
 J1 H6⟩⟩⟩⟩⟩) ⟨fun H9 =>
 @bindO (eun .not v19) ⟨fun v44 =>
 @condK v44 ⟨fun q=>if q=true then R (.bool false) H9 else
 @bindO (xload (some 4) H9 [H]) ⟨fun v45 =>
 @cG 12 [v45] H9 ⟨fun v46 H10 =>
 @letH (H10++[.cells [nv 0,nv 0,.slice none 0 0] 29 none false]) ⟨fun H11 =>
 @bindP (xact (.st 3) H11 [H10,v46]) ⟨fun _v H12 =>
 @bindO (xload (some 4) H12 [H1]) ⟨fun v47 =>
 @cG 12 [v47] H12 ⟨fun v48 H13 =>
 @letH (H13++[.cells [nv 0,nv 0,.slice none 0 0] 29 none false]) ⟨fun H14 =>
 @bindP (xact (.st 3) H14 [H13,v48]) ⟨fun _v H15 =>
 @bindO (xpure (.fld 2) [H10]) ⟨fun v49 =>
 @bindO (xload none H15 [v49]) ⟨fun v50 =>
 @bindO (xpure .lenS [v50]) ⟨fun v51 =>
 @bindO (xbin .eql 0 v51 (nv 0)) ⟨fun v52 =>
 @guardJ (asNB v52) (fun J2=>@bindO (xpure (.fld 2) [H13]) ⟨fun v54 =>
 J2 v54 H15⟩) H15 ⟨fun v54a H16 =>
 @guardJ (asNB v52) (fun J3=>@bindO (xload none H16 [v54a]) ⟨fun v55 =>
 J3 v55 H16⟩) H16 ⟨fun v55a H17 =>
 @guardJ (asNB v52) (fun J4=>@bindO (xpure .lenS [v55a]) ⟨fun v56 =>
 J4 v56 H17⟩) H17 ⟨fun v56a H18 =>
 @guardJ (asNB v52) (fun J5=>@bindO (xbin .eql 0 v56a (nv 0)) ⟨fun v57 =>
 J5 v57 H18⟩) H18 ⟨fun v57a H19 =>
 @pickK v52 (.bool true) v57a ⟨fun v58 =>
 @condK v58 ⟨fun q=>if q=true then R v19 H19 else
 @bindO (xload (some 3) H19 [H10]) ⟨fun v60 =>
 @cG 35 [v60] H19 ⟨fun v61 H20 =>
 @bindO (xload (some 3) H20 [H13]) ⟨fun v62 =>
 @cG 35 [v62] H20 ⟨fun v63 H21 =>
 @bindO (xload (some 3) H21 [H10]) ⟨fun v64 =>
 @cG 16 [v64] H21 ⟨fun v65 H22 =>
 @bindO (xpure (.prt (some 3) 0) [v65]) ⟨fun v66 =>
 @cG 35 [v66] H22 ⟨fun v67 H23 =>
 @bindO (xpure (.fld 0) [H10]) ⟨fun v68 =>
 @bindO (xload none H23 [v68]) ⟨fun v69 =>
 @bindO (xbin .eql 0 v69 (nv 2)) ⟨fun v70 =>
 @guardJ (asB v70) (fun J6=>J6 v67 H23) H23 ⟨fun v72 H24 =>
 @guardJ (asB v70) (fun J7=>@bindO (xbin .rem 0 v72 (nv 2)) ⟨fun v73 =>
 J7 v73 H24⟩) H24 ⟨fun v73a H25 =>
 @guardJ (asB v70) (fun J8=>@bindO (xbin .neq 0 v73a (nv 0)) ⟨fun v74 =>
 J8 v74 H25⟩) H25 ⟨fun v74a H26 =>
 @guardJ (asB v70) (fun J9=>J9 v74a H26) H26 ⟨fun v75 H27 =>
 @guardJ (asNB v75) (fun J10=>J10 v67 H27) H27 ⟨fun v76 H28 =>
 @guardJ (asNB v75) (fun J11=>J11 v61 H28) H28 ⟨fun v77 H29 =>
 @guardJ (asNB v75) (fun J12=>@bindO (xbin .neq 0 v76 v77) ⟨fun v78 =>
 J12 v78 H29⟩) H29 ⟨fun v78a H30 =>
 @guardJ (asNB v75) (fun J13=>J13 v78a H30) H30 ⟨fun v79 H31 =>
 @guardJ (asB v79) (fun J14=>J14 v67 H31) H31 ⟨fun v80 H32 =>
 @guardJ (asB v79) (fun J15=>J15 v61 H32) H32 ⟨fun v81 H33 =>
 @guardJ (asB v79) (fun J16=>@bindO (xbin .add 0 v81 (nv 1)) ⟨fun v82 =>
 J16 v82 H33⟩) H33 ⟨fun v82a H34 =>
 @guardJ (asB v79) (fun J17=>@bindO (xbin .neq 0 v80 v82a) ⟨fun v83 =>
 J17 v83 H34⟩) H34 ⟨fun v83a H35 =>
 @guardJ (asNB v75) (fun J18=>@pickK v79 v83a (.bool false) ⟨fun v84 =>
 J18 v84 H35⟩) H35 ⟨fun v84a H36 =>
 @guardJ (asB v70) (fun J19=>@pickK v75 (.bool true) v84a ⟨fun v85 =>
 J19 v85 H36⟩) H36 ⟨fun v85a H37 =>
 @pickK v70 v85a (.bool false) ⟨fun v86 =>
 @guardJ (asNB v86) (fun J20=>J20 v67 H37) H37 ⟨fun v88 H38 =>
 @guardJ (asNB v86) (fun J21=>J21 v61 H38) H38 ⟨fun v89 H39 =>
 @guardJ (asNB v86) (fun J22=>@bindO (xbin .lss 0 v88 v89) ⟨fun v90 =>
 J22 v90 H39⟩) H39 ⟨fun v90a H40 =>
 @pickK v86 (.bool true) v90a ⟨fun v91 =>
 @guardJ (asNB v91) (fun J23=>J23 v67 H40) H40 ⟨fun v93 H41 =>
 @guardJ (asNB v91) (fun J24=>J24 v61 H41) H41 ⟨fun v94 H42 =>
 @guardJ (asNB v91) (fun J25=>@bindO (xbin .add 0 v94 (nv 1)) ⟨fun v95 =>
 J25 v95 H42⟩) H42 ⟨fun v95a H43 =>
 @guardJ (asNB v91) (fun J26=>@bindO (xbin .gtr 0 v93 v95a) ⟨fun v96 =>
 J26 v96 H43⟩) H43 ⟨fun v96a H44 =>
 @pickK v91 (.bool true) v96a ⟨fun v97 =>
 @condK v97 ⟨fun q=>if q=true then R (.bool false) H44 else
 @joinV0 (fun J27=>@bindO (xpure (.fld 1) [H10]) ⟨fun v98 =>
 @bindO (xload none H44 [v98]) ⟨fun v99 =>
 @bindO (xbin .gtr 0 v99 (nv 1)) ⟨fun v100 =>
 @condK v100 ⟨fun q=>if q=true then @bindO (xload (some 3) H44 [H10]) ⟨fun v101 =>
 @bindO (xpure (.conv .i64) [i2]) ⟨fun v103 =>
 @bindO (xpure (.fld 1) [H10]) ⟨fun v104 =>
 @bindO (xload none H44 [v104]) ⟨fun v105 =>
 @bindO (xbin .rem 0 v103 v105) ⟨fun v106 =>
 @letH (H44++[.cells [nv 0,nv 0,.slice none 0 0] 29 none false]) ⟨fun H45 =>
 @cG 18 [v101,v106] H45 ⟨fun v107 H46 =>
 @bindO (xpure (.prt (some 3) 0) [v107]) ⟨fun v108 =>
 @bindP (xact (.st 3) H46 [H44,v108]) ⟨fun _v H47 =>
 @bindO (xload (some 3) H47 [H10]) ⟨fun v109 =>
 @bindO (xpure (.conv .i64) [i2]) ⟨fun v111 =>
 @bindO (xpure (.fld 1) [H10]) ⟨fun v112 =>
 @bindO (xload none H47 [v112]) ⟨fun v113 =>
 @bindO (xbin .rem 0 v111 v113) ⟨fun v114 =>
 @letH (H47++[.cells [nv 0,nv 0,.slice none 0 0] 29 none false]) ⟨fun H48 =>
 @cG 20 [v109,v114] H48 ⟨fun v115 H49 =>
 @bindO (xpure (.prt (some 3) 0) [v115]) ⟨fun v116 =>
 @bindP (xact (.st 3) H49 [H47,v116]) ⟨fun _v H50 =>
 @bindO (xpure (.fld 2) [H44]) ⟨fun v117 =>
 @bindO (xload none H50 [v117]) ⟨fun v118 =>
 @bindO (xpure .lenS [v118]) ⟨fun v119 =>
 @bindO (xpure (.fld 2) [H10]) ⟨fun v120 =>
 @bindO (xload none H50 [v120]) ⟨fun v121 =>
 @bindO (xpure .lenS [v121]) ⟨fun v122 =>
 @bindO (xbin .eql 0 v119 v122) ⟨fun v123 =>
 @guardJ (asB v123) (fun J28=>@bindO (xload (some 3) H50 [H44]) ⟨fun v125 =>
 J28 v125 H50⟩) H50 ⟨fun v125a H51 =>
 @guardJ (asB v123) (fun J29=>@cG 35 [v125a] H51 ⟨fun v126 H52 =>
 J29 v126 H52⟩) H51 ⟨fun v126a H53 =>
 @guardJ (asB v123) (fun J30=>J30 v61 H53) H53 ⟨fun v127 H54 =>
 @guardJ (asB v123) (fun J31=>@bindO (xbin .sub 0 v127 (nv 1)) ⟨fun v128 =>
 J31 v128 H54⟩) H54 ⟨fun v128a H55 =>
 @guardJ (asB v123) (fun J32=>@bindO (xbin .lss 0 v126a v128a) ⟨fun v129 =>
 J32 v129 H55⟩) H55 ⟨fun v129a H56 =>
 @guardJ (asB v123) (fun J33=>J33 v129a H56) H56 ⟨fun v130 H57 =>
 @guardJ (asNB v130) (fun J34=>@bindO (xload (some 3) H57 [H44]) ⟨fun v131 =>
 J34 v131 H57⟩) H57 ⟨fun v131a H58 =>
 @guardJ (asNB v130) (fun J35=>@cG 35 [v131a] H58 ⟨fun v132 H59 =>
 J35 v132 H59⟩) H58 ⟨fun v132a H60 =>
 @guardJ (asNB v130) (fun J36=>J36 v61 H60) H60 ⟨fun v133 H61 =>
 @guardJ (asNB v130) (fun J37=>@bindO (xbin .gtr 0 v132a v133) ⟨fun v134 =>
 J37 v134 H61⟩) H61 ⟨fun v134a H62 =>
 @guardJ (asB v123) (fun J38=>@pickK v130 (.bool true) v134a ⟨fun v135 =>
 J38 v135 H62⟩) H62 ⟨fun v135a H63 =>
 @pickK v123 v135a (.bool false) ⟨fun v136 =>
 @guardJ (asNB v136) (fun J39=>@bindO (xpure (.fld 2) [H47]) ⟨fun v138 =>
 J39 v138 H63⟩) H63 ⟨fun v138a H64 =>
 @guardJ (asNB v136) (fun J40=>@bindO (xload none H64 [v138a]) ⟨fun v139 =>
 J40 v139 H64⟩) H64 ⟨fun v139a H65 =>
 @guardJ (asNB v136) (fun J41=>@bindO (xpure .lenS [v139a]) ⟨fun v140 =>
 J41 v140 H65⟩) H65 ⟨fun v140a H66 =>
 @guardJ (asNB v136) (fun J42=>@bindO (xbin .gtr 0 v140a (nv 0)) ⟨fun v141 =>
 J42 v141 H66⟩) H66 ⟨fun v141a H67 =>
 @guardJ (asNB v136) (fun J43=>J43 v141a H67) H67 ⟨fun v142 H68 =>
 @guardJ (asB v142) (fun J44=>@bindO (xload (some 3) H68 [H47]) ⟨fun v143 =>
 J44 v143 H68⟩) H68 ⟨fun v143a H69 =>
 @guardJ (asB v142) (fun J45=>@cG 35 [v143a] H69 ⟨fun v144 H70 =>
 J45 v144 H70⟩) H69 ⟨fun v144a H71 =>
 @guardJ (asB v142) (fun J46=>J46 v61 H71) H71 ⟨fun v145 H72 =>
 @guardJ (asB v142) (fun J47=>@bindO (xbin .lss 0 v144a v145) ⟨fun v146 =>
 J47 v146 H72⟩) H72 ⟨fun v146a H73 =>
 @guardJ (asNB v136) (fun J48=>@pickK v142 v146a (.bool false) ⟨fun v147 =>
 J48 v147 H73⟩) H73 ⟨fun v147a H74 =>
 @pickK v136 (.bool true) v147a ⟨fun v148 =>
 @condK v148 ⟨fun q=>if q=true then R (.bool false) H74 else
 J27 H74⟩⟩⟩⟩⟩⟩⟩⟩⟩⟩⟩⟩⟩⟩⟩⟩⟩⟩⟩⟩⟩⟩⟩⟩⟩⟩⟩⟩⟩⟩⟩⟩⟩⟩⟩⟩⟩⟩⟩⟩⟩⟩⟩⟩⟩⟩⟩⟩⟩ else
 J27 H44⟩⟩⟩⟩) ⟨fun H75 =>
 @joinV0 (fun J49=>@bindO (xpure (.fld 0) [H10]) ⟨fun v149 =>
 @bindO (xload none H75 [v149]) ⟨fun v150 =>
 @bindO (xbin .eql 0 v150 (nv 2)) ⟨fun v151 =>
 @condK v151 ⟨fun q=>if q=true then @bindO (xload (some 3) H75 [H10]) ⟨fun v152 =>
 @cG 28 [v152] H75 ⟨fun v153 H76 =>
 @bindO (xpure (.prt (some 3) 0) [v153]) ⟨fun v154 =>
 @letH (H76++[.cells [nv 0,nv 0,.slice none 0 0] 29 none false]) ⟨fun H77 =>
 @bindP (xact (.st 3) H77 [H76,v154]) ⟨fun _v H78 =>
 @bindO (xpure (.fld 2) [H76]) ⟨fun v155 =>
 @bindO (xload none H78 [v155]) ⟨fun v156 =>
 @bindO (xpure .lenS [v156]) ⟨fun v157 =>
 @bindO (xbin .gtr 0 v157 (nv 0)) ⟨fun v158 =>
 @guardJ (asB v158) (fun J50=>@bindO (xload (some 3) H78 [H76]) ⟨fun v160 =>
 J50 v160 H78⟩) H78 ⟨fun v160a H79 =>
 @guardJ (asB v158) (fun J51=>@cG 35 [v160a] H79 ⟨fun v161 H80 =>
 J51 v161 H80⟩) H79 ⟨fun v161a H81 =>
 @guardJ (asB v158) (fun J52=>J52 v61 H81) H81 ⟨fun v162 H82 =>
 @guardJ (asB v158) (fun J53=>@bindO (xbin .lss 0 v161a v162) ⟨fun v163 =>
 J53 v163 H82⟩) H82 ⟨fun v163a H83 =>
 @guardJ (asB v158) (fun J54=>J54 v163a H83) H83 ⟨fun v164 H84 =>
 @guardJ (asNB v164) (fun J55=>@bindO (xload (some 3) H84 [H76]) ⟨fun v165 =>
 J55 v165 H84⟩) H84 ⟨fun v165a H85 =>
 @guardJ (asNB v164) (fun J56=>@cG 35 [v165a] H85 ⟨fun v166 H86 =>
 J56 v166 H86⟩) H85 ⟨fun v166a H87 =>
 @guardJ (asNB v164) (fun J57=>@bindO (xbin .rem 0 v166a (nv 2)) ⟨fun v167 =>
 J57 v167 H87⟩) H87 ⟨fun v167a H88 =>
 @guardJ (asNB v164) (fun J58=>@bindO (xbin .neq 0 v167a (nv 0)) ⟨fun v168 =>
 J58 v168 H88⟩) H88 ⟨fun v168a H89 =>
 @guardJ (asB v158) (fun J59=>@pickK v164 (.bool true) v168a ⟨fun v169 =>
 J59 v169 H89⟩) H89 ⟨fun v169a H90 =>
 @pickK v158 v169a (.bool false) ⟨fun v170 =>
 @condK v170 ⟨fun q=>if q=true then R (.bool false) H90 else
 J49 H90⟩⟩⟩⟩⟩⟩⟩⟩⟩⟩⟩⟩⟩⟩⟩⟩⟩⟩⟩⟩⟩ else
 J49 H75⟩⟩⟩⟩) ⟨fun H91 =>
 @bindO (xload (some 3) H91 [H10]) ⟨fun v171 =>
 @bindO (xload (some 3) H91 [H13]) ⟨fun v172 =>
 @cG 22 [v171,v172] H91 ⟨fun v173 H92 =>
 @bindO (xpure (.prt (some 3) 0) [v173]) ⟨fun v174 =>
 @cG 35 [v174] H92 ⟨fun v175 H93 =>
 @bindO (xpure .min2 [v61,v63]) ⟨fun v178 =>
 @bindO (xbin .neq 0 v175 v178) ⟨fun v179 =>
 @condK v179 ⟨fun q=>if q=true then R (.bool false) H93 else
 @bindO (xpure (.fld 1) [H10]) ⟨fun v180 =>
 @bindO (xload none H93 [v180]) ⟨fun v181 =>
 @bindO (xpure (.fld 1) [H13]) ⟨fun v182 =>
 @bindO (xload none H93 [v182]) ⟨fun v183 =>
 @bindO (xbin .eql 0 v181 v183) ⟨fun v184 =>
 @guardJ (asB v184) (fun J60=>@bindO (xload (some 3) H93 [H10]) ⟨fun v186 =>
 J60 v186 H93⟩) H93 ⟨fun v186a H94 =>
 @guardJ (asB v184) (fun J61=>@bindO (xload (some 3) H94 [H13]) ⟨fun v187 =>
 J61 v187 H94⟩) H94 ⟨fun v187a H95 =>
 @guardJ (asB v184) (fun J62=>@cG 24 [v186a,v187a] H95 ⟨fun v188 H96 =>
 J62 v188 H96⟩) H95 ⟨fun v188a H97 =>
 @guardJ (asB v184) (fun J63=>@bindO (xpure (.prt (some 3) 0) [v188a]) ⟨fun v189 =>
 J63 v189 H97⟩) H97 ⟨fun v189a H98 =>
 @guardJ (asB v184) (fun J64=>@cG 35 [v189a] H98 ⟨fun v190 H99 =>
 J64 v190 H99⟩) H98 ⟨fun v190a H100 =>
 @guardJ (asB v184) (fun J65=>J65 v61 H100) H100 ⟨fun v191 H101 =>
 @guardJ (asB v184) (fun J66=>@bindO (xbin .mul 0 (nv 2) v191) ⟨fun v192 =>
 J66 v192 H101⟩) H101 ⟨fun v192a H102 =>
 @guardJ (asB v184) (fun J67=>J67 v63 H102) H102 ⟨fun v193 H103 =>
 @guardJ (asB v184) (fun J68=>@bindO (xpure .min2 [v192a,v193]) ⟨fun v194 =>
 J68 v194 H103⟩) H103 ⟨fun v194a H104 =>
 @guardJ (asB v184) (fun J69=>@bindO (xbin .neq 0 v190a v194a) ⟨fun v195 =>
 J69 v195 H104⟩) H104 ⟨fun v195a H105 =>
 @pickK v184 v195a (.bool false) ⟨fun v196 =>
 @condK v196 ⟨fun q=>if q=true then R (.bool false) H105 else
 @bindO (xload (some 4) H105 [H]) ⟨fun v197 =>
 @cG 32 [v197] H105 ⟨fun v198 H106 =>
 @letH (H106++[.cells [nv 0,nv 0,.slice none 0 0] 29 none false]) ⟨fun H107 =>
 @bindP (xact (.st 3) H107 [H106,v198]) ⟨fun _v H108 =>
 @bindO (xload (some 4) H108 [H1]) ⟨fun v199 =>
 @cG 33 [v199] H108 ⟨fun v200 H109 =>
 @letH (H109++[.cells [nv 0,nv 0,.slice none 0 0] 29 none false]) ⟨fun H110 =>
 @bindP (xact (.st 3) H110 [H109,v200]) ⟨fun _v H111 =>
 @bindO (xload (some 3) H111 [H106]) ⟨fun v201 =>
 @bindO (xload (some 3) H111 [H109]) ⟨fun v202 =>
 @cG 26 [v201,v202] H111 ⟨fun v203 H112 =>
 @bindO (xpure (.prt (some 3) 0) [v203]) ⟨fun v204 =>
 @letH (H112++[.cells [nv 0,nv 0,.slice none 0 0] 29 none false]) ⟨fun H113 =>
 @bindP (xact (.st 3) H113 [H112,v204]) ⟨fun _v H114 =>
 @guardJ (asB v19) (fun J70=>@bindO (xpure (.fld 2) [H106]) ⟨fun v207 =>
 J70 v207 H114⟩) H114 ⟨fun v207a H115 =>
 @guardJ (asB v19) (fun J71=>@bindO (xload none H115 [v207a]) ⟨fun v208 =>
 J71 v208 H115⟩) H115 ⟨fun v208a H116 =>
 @guardJ (asB v19) (fun J72=>@bindO (xpure .lenS [v208a]) ⟨fun v209 =>
 J72 v209 H116⟩) H116 ⟨fun v209a H117 =>
 @guardJ (asB v19) (fun J73=>@bindO (xbin .eql 0 v209a (nv 0)) ⟨fun v210 =>
 J73 v210 H117⟩) H117 ⟨fun v210a H118 =>
 @guardJ (asB v19) (fun J74=>J74 v210a H118) H118 ⟨fun v211 H119 =>
 @guardJ (asB v211) (fun J75=>@bindO (xpure (.fld 2) [H112]) ⟨fun v212 =>
 J75 v212 H119⟩) H119 ⟨fun v212a H120 =>
 @guardJ (asB v211) (fun J76=>@bindO (xload none H120 [v212a]) ⟨fun v213 =>
 J76 v213 H120⟩) H120 ⟨fun v213a H121 =>
 @guardJ (asB v211) (fun J77=>@bindO (xpure .lenS [v213a]) ⟨fun v214 =>
 J77 v214 H121⟩) H121 ⟨fun v214a H122 =>
 @guardJ (asB v211) (fun J78=>@bindO (xbin .eql 0 v214a (nv 0)) ⟨fun v215 =>
 J78 v215 H122⟩) H122 ⟨fun v215a H123 =>
 @guardJ (asB v19) (fun J79=>@pickK v211 v215a (.bool false) ⟨fun v216 =>
 J79 v216 H123⟩) H123 ⟨fun v216a H124 =>
 @guardJ (asB v19) (fun J80=>J80 v216a H124) H124 ⟨fun v217 H125 =>
 @guardJ (asNB v217) (fun J81=>@bindO (xpure (.fld 2) [H106]) ⟨fun v218 =>
 J81 v218 H125⟩) H125 ⟨fun v218a H126 =>
 @guardJ (asNB v217) (fun J82=>@bindO (xload none H126 [v218a]) ⟨fun v219 =>
 J82 v219 H126⟩) H126 ⟨fun v219a H127 =>
 @guardJ (asNB v217) (fun J83=>@bindO (xpure .lenS [v219a]) ⟨fun v220 =>
 J83 v220 H127⟩) H127 ⟨fun v220a H128 =>
 @guardJ (asNB v217) (fun J84=>@bindO (xbin .gtr 0 v220a (nv 0)) ⟨fun v221 =>
 J84 v221 H128⟩) H128 ⟨fun v221a H129 =>
 @guardJ (asNB v217) (fun J85=>J85 v221a H129) H129 ⟨fun v222 H130 =>
 @guardJ (asB v222) (fun J86=>@bindO (xload (some 3) H130 [H112]) ⟨fun v223 =>
 J86 v223 H130⟩) H130 ⟨fun v223a H131 =>
 @guardJ (asB v222) (fun J87=>@bindO (xload (some 3) H131 [H106]) ⟨fun v225 =>
 J87 v225 H131⟩) H131 ⟨fun v225a H132=>@letD (bif (asB v222) then⟨20,(some 3),[H106],v225a⟩ :: [] else []) ⟨fun D1 =>
 @guardJ (asB v222) (fun J88=>@bindO (xload (some 3) H132 [H109]) ⟨fun v227 =>
 J88 v227 H132⟩) H132 ⟨fun v227a H133=>@letD (bif (asB v222) then⟨22,(some 3),[H109],v227a⟩ :: D1 else D1) ⟨fun D2 =>
 @guardJ (asB v222) (fun J89=>@cG 35 [v223a] H133 ⟨fun v224 H134 =>
 (chkX [22,20] D2 H134∧J89 v224 H134)⟩) H133 ⟨fun v224a H135 =>
 @guardJ (asB v222) (fun J90=>@cG 35 [v225a] H135 ⟨fun v226 H136 =>
 (chkX [22] D2 H136∧J90 v226 H136)⟩) H135 ⟨fun v226a H137 =>
 @guardJ (asB v222) (fun J91=>@cG 35 [v227a] H137 ⟨fun v228 H138 =>
 J91 v228 H138⟩) H137 ⟨fun v228a H139 =>
 @guardJ (asB v222) (fun J92=>@bindO (xbin .mul 0 v226a v228a) ⟨fun v229 =>
 J92 v229 H139⟩) H139 ⟨fun v229a H140 =>
 @guardJ (asB v222) (fun J93=>@bindO (xbin .geq 0 v224a v229a) ⟨fun v230 =>
 J93 v230 H140⟩) H140 ⟨fun v230a H141 =>
 @guardJ (asNB v217) (fun J94=>@pickK v222 v230a (.bool false) ⟨fun v231 =>
 J94 v231 H141⟩) H141 ⟨fun v231a H142 =>
 @guardJ (asB v19) (fun J95=>@pickK v217 (.bool true) v231a ⟨fun v232 =>
 J95 v232 H142⟩) H142 ⟨fun v232a H143 =>
 @pickK v19 v232a (.bool false) ⟨fun v233 =>
 R v233 H143⟩⟩⟩⟩⟩⟩⟩⟩⟩⟩⟩⟩⟩⟩⟩⟩⟩⟩⟩⟩⟩⟩⟩⟩⟩⟩⟩⟩⟩⟩⟩⟩⟩⟩⟩⟩⟩⟩⟩⟩⟩⟩⟩⟩⟩⟩⟩⟩⟩⟩⟩⟩⟩⟩⟩⟩⟩⟩⟩⟩⟩⟩⟩⟩⟩⟩⟩⟩⟩⟩⟩⟩⟩⟩⟩⟩⟩⟩⟩⟩⟩⟩⟩⟩⟩⟩⟩⟩⟩⟩⟩⟩⟩⟩⟩⟩⟩⟩⟩⟩⟩⟩⟩⟩⟩⟩⟩⟩⟩⟩⟩⟩⟩⟩⟩⟩⟩⟩⟩⟩⟩⟩⟩⟩⟩⟩⟩⟩⟩⟩⟩⟩⟩⟩⟩⟩⟩⟩⟩⟩⟩⟩⟩⟩
theorem g4_of {x0 y1 i2:Value} {H:AH} {R:Value→AH→Prop} (h:g4 x0 y1 i2 H R):FN Tryz.prog 4 [x0,y1,i2] H R:=
  FN.of_XM (ms:=[(5,[]),(22,[]),(28,[])]) mixed (cast (by kernel_rfl) h)
end Go.Sim
