/- Part of the proof: ZShMix, ZZzXfP, ZPfFieldA, ZPfFieldB, ZPfFieldC, ZPfFieldD, ZPfFieldE, ZPfFieldF, ZPfFieldG, ZPfFieldH, ZPfFieldI. -/
import Derived.Test.YtbfpepbfpebmmaaGreatProg
import Derived.KernelRfl
import Derived.Test.YtbfpepbfpebmmaaGreatTLinShSToXfS
import Derived.Test.YtbfpepbfpebmmaaGreatTLinSimSTToShC
import Derived.Test.YtbfpepbfpebmmaaGreatTLinSimWToSimX2
set_option linter.all false
namespace Go.Sim
open Go Go.Proofs
theorem qbs:Tryz.prog.follows .mixedOrders=true:=by kernel_rfl
abbrev cG (g:Nat) (vs:List Value) (H:AH) [k:Kb (Value→AH→Prop)]:Prop:=@qjc Tryz.prog (.func (.func g) #[] #[] :: vs) H k
end Go.Sim

set_option maxRecDepth 100000
namespace Go.Sim
open Go Go.Proofs
def xf96:XF:=⟨8,[(.tmp 4)],(.seq (.reg [eS 0 2 (.box 76) [pT 0],eS 1 4 .mov [pC (nv 0)]]) (.seq (.reg [eS 0 5 (.ld (some 3)) [pT 2],eS 1 6 .mov [pT 1],eS 2 7 .call [(.func 115),pT 5,pC (nv 0),pT 6],eS 3 4 .mov [pT 7]]) .ret))⟩
theorem xf96_ok:qb3 Tryz.prog 96=some xf96:=by kernel_rfl
def xf132:XF:=⟨77,[(.tmp 6)],(.seq (.reg [eS 0 3 (.box 76) [pT 0],eS 1 6 .mov [pC (nv 0)]]) (.seq (.reg [eS 0 12 (.fld 0) [pT 3],eS 1 13 (.ld none) [pT 12],eS 2 14 (.fld 1) [pT 3],eS 3 15 (.ld none) [pT 14],eS 4 16 .mov [pT 1],eS 6 18 (.fld 0) [pT 3],⟨none,(.ld none),[pT 18],(some 19),7,true,[]⟩,eS 8 20 (.fld 1) [pT 3],⟨none,(.ld none),[pT 20],(some 21),9,true,[]⟩,eS 10 22 .mov [pT 2],⟨none,.call,[(.func 135),pT 13,pT 15,pT 16],(some 17),5,false,[9,7]⟩,eS 11 23 .call [(.func 135),pT 19,pT 21,pT 22],eS 12 7 .mov [pT 17],eS 13 8 .mov [pT 23]]) (.seq (.reg [eS 0 24 (.fld 1) [pT 3],eS 1 25 (.ld none) [pT 24],eS 2 26 (.bin .mul 0) [pC (nv 2),pT 25],eS 3 27 (.make (nv 0) 1 8 3) [pT 26,pT 26],eS 4 9 .mov [pT 27]]) (.seq (.seq (.reg [eS 0 10 .mov [pC (nv 0)]]) (.block 0 (.loop (.seq (.seq (.reg [eS 0 28 .mov [pT 10],eS 1 29 (.fld 1) [pT 3],eS 2 30 (.ld none) [pT 29],eS 3 31 (.bin .lss 0) [pT 28,pT 30]]) (.cond (.tmp 31) .skip (.exit 0))) (.seq (.block 1 (.seq (.reg [eS 0 11 .mov [pC (nv 0)]]) (.block 2 (.loop (.seq (.seq (.reg [eS 0 34 .mov [pT 11],eS 1 35 (.fld 1) [pT 3],eS 2 36 (.ld none) [pT 35],eS 3 37 (.bin .lss 0) [pT 34,pT 36]]) (.cond (.tmp 37) .skip (.exit 2))) (.seq (.block 3 (.reg [eS 0 40 .mov [pT 9],eS 1 41 .mov [pT 10],eS 2 42 .mov [pT 11],eS 3 43 (.bin .add 0) [pT 41,pT 42],eS 4 44 .mov [pT 9],eS 5 45 .mov [pT 10],eS 6 46 .mov [pT 11],eS 7 47 (.bin .add 0) [pT 45,pT 46],eS 8 48 (.ixS 1) [pT 44,pT 47],eS 9 49 (.ld none) [pT 48],eS 10 50 .mov [pT 7],eS 11 51 .mov [pT 10],eS 12 52 (.ixS 1) [pT 50,pT 51],eS 13 53 (.ld none) [pT 52],eS 14 54 .mov [pT 8],eS 15 55 .mov [pT 11],eS 16 56 (.ixS 1) [pT 54,pT 55],eS 17 57 (.ld none) [pT 56],eS 18 58 (.bin .mul 0) [pT 53,pT 57],eS 19 59 (.bin .add 0) [pT 49,pT 58],eS 20 60 (.fld 0) [pT 3],eS 21 61 (.ld none) [pT 60],eS 22 62 (.bin .rem 0) [pT 59,pT 61],eS 23 63 (.ixS 1) [pT 40,pT 43],eN 24 (.st 1) [pT 63,pT 62]])) (.reg [eS 0 38 .mov [pT 11],eS 1 39 (.bin .add 0) [pT 38,pC (nv 1)],eS 2 11 .mov [pT 39]]))))))) (.reg [eS 0 32 .mov [pT 10],eS 1 33 (.bin .add 0) [pT 32,pC (nv 1)],eS 2 10 .mov [pT 33]])))))) (.seq (.reg [eS 0 64 (.fld 0) [pT 3],⟨none,(.ld none),[pT 64],(some 65),1,true,[]⟩,eS 2 66 (.fld 0) [pT 3],⟨none,(.ld none),[pT 66],(some 67),3,true,[]⟩,eS 4 68 .mov [pT 9],eS 5 69 (.bsl [] 0 [] 3) [],eS 6 70 (.fld 2) [pT 3],eS 7 71 (.ld none) [pT 70],eS 9 73 (.bsl [(nv 0)] 1 [(0,1)] 3) [pC (nv 1)],⟨none,(.app 3 1 8),[pT 69,pT 71],(some 72),8,false,[3,1]⟩,⟨none,(.app 3 1 8),[pT 72,pT 73],(some 74),10,false,[3,1]⟩,⟨none,.call,[(.func 187),pT 67,pT 68,pT 74],(some 75),11,false,[1]⟩,eS 12 76 .call [(.func 136),pT 65,pT 75],eS 13 6 .mov [pT 76]]) .ret)))))⟩
theorem xf132_ok:qb3 Tryz.prog 132=some xf132:=by kernel_rfl
def xf136:XF:=⟨23,[(.tmp 4)],(.seq (.reg [eS 0 4 .mov [pC (nv 0)]]) (.seq (.reg [eS 0 5 .mov [pC (nv 0)]]) (.seq (.seq (.reg [eS 0 7 .mov [pT 1],eS 1 8 .lenS [pT 7],eS 2 9 (.bin .sub 0) [pT 8,pC (nv 1)],eS 3 6 .mov [pT 9]]) (.block 0 (.loop (.seq (.seq (.reg [eS 0 10 .mov [pT 6],eS 1 11 (.bin .geq 0) [pT 10,pC (nv 0)]]) (.cond (.tmp 11) .skip (.exit 0))) (.seq (.block 1 (.reg [eS 0 14 .mov [pT 5],eS 1 15 .mov [pT 0],eS 2 16 (.bin .mul 0) [pT 14,pT 15],eS 3 17 .mov [pT 1],eS 4 18 .mov [pT 6],eS 5 19 (.ixS 1) [pT 17,pT 18],eS 6 20 (.ld none) [pT 19],eS 7 21 (.bin .add 0) [pT 16,pT 20],eS 8 5 .mov [pT 21]])) (.reg [eS 0 12 .mov [pT 6],eS 1 13 (.bin .sub 0) [pT 12,pC (nv 1)],eS 2 6 .mov [pT 13]])))))) (.seq (.reg [eS 0 22 .mov [pT 5],eS 1 4 .mov [pT 22]]) .ret))))⟩
theorem xf136_ok:qb3 Tryz.prog 136=some xf136:=by kernel_rfl
def xf148:XF:=⟨19,[(.tmp 4)],(.seq (.reg [eS 0 4 .mov [pC (nv 0)]]) (.seq (.seq (.reg [eS 0 6 .mov [pT 0],eS 1 7 .lenS [pT 6],eS 2 8 .mov [pC (nv 0)]]) (.block 0 (.loop (.seq (.reg [eS 0 9 (.bin .lss 0) [pT 8,pT 7]]) (.seq (.cond (.tmp 9) .skip (.exit 0)) (.seq (.block 1 (.seq (.reg [eS 0 10 .mov [pT 8],eS 1 5 .mov [pT 10]]) (.seq (.reg [eS 0 11 .mov [pT 1],eS 1 12 .mov [pT 0],eS 2 13 .mov [pT 5],eS 3 14 (.ixS 1) [pT 12,pT 13],eS 4 15 (.ld none) [pT 14],eS 5 16 .call [pT 11,pT 15]]) (.cond (.tmp 16) (.seq (.reg [eS 0 17 .mov [pT 5],eS 1 4 .mov [pT 17]]) .ret) .skip)))) (.reg [eS 0 18 (.bin .add 0) [pT 8,pC (nv 1)],eS 1 8 .mov [pT 18]]))))))) (.seq (.reg [eS 0 4 .mov [(.const (.int .i64 (-1)))]]) .ret)))⟩
theorem xf148_ok:qb3 Tryz.prog 148=some xf148:=by kernel_rfl
def xf168:XF:=⟨37,[(.cell 2 (some 2))],(.seq (.reg [eS 0 2 (.new [(nv 0),(nv 0)] 111) []]) (.seq (.seq (.reg [eS 0 6 .mov [pT 0],eS 1 7 (.bin .lss 0) [pT 6,pC (nv 2)],eS 2 8 .mov [pT 7],⟨(some (8,false)),.mov,[pT 0],(some 9),3,false,[]⟩,⟨(some (8,false)),(.bin .gtr 0),[pT 9,pC (nv 64)],(some 10),4,false,[]⟩,eS 5 11 .pick [pT 8,(.const (.bool true)),pT 10]]) (.cond (.tmp 11) (.seq (.reg [eS 0 12 (.bld [(nv 0),(nv 0)] []) [],eN 1 (.st 2) [pT 2,pT 12]]) .ret) .skip)) (.seq (.seq (.reg [eS 0 3 .mov [pC (nv 2)]]) (.block 0 (.loop (.seq (.seq (.reg [eS 0 13 .mov [pT 3],eS 1 14 .mov [pT 0],eS 2 15 (.bin .leq 0) [pT 13,pT 14]]) (.cond (.tmp 15) .skip (.exit 0))) (.seq (.block 1 (.seq (.seq (.reg [eS 0 18 .mov [pT 3],eS 1 19 .call [(.func 201),pT 18],eS 2 20 (.un .not) [pT 19]]) (.cond (.tmp 20) (.exit 1) .skip)) (.seq (.reg [eS 0 21 .mov [pT 3],eS 1 4 .mov [pT 21],eS 2 5 .mov [pC (nv 1)]]) (.seq (.block 2 (.loop (.seq (.seq (.reg [eS 0 22 .mov [pT 4],eS 1 23 .mov [pT 0],eS 2 24 (.bin .lss 0) [pT 22,pT 23]]) (.cond (.tmp 24) .skip (.exit 2))) (.block 3 (.seq (.reg [eS 0 25 .mov [pT 4],eS 1 26 .mov [pT 3],eS 2 27 (.bin .mul 0) [pT 25,pT 26],eS 3 4 .mov [pT 27]]) (.reg [eS 0 28 .mov [pT 5],eS 1 29 (.bin .add 0) [pT 28,pC (nv 1)],eS 2 5 .mov [pT 29]])))))) (.seq (.reg [eS 0 30 .mov [pT 4],eS 1 31 .mov [pT 0],eS 2 32 (.bin .eql 0) [pT 30,pT 31]]) (.cond (.tmp 32) (.seq (.reg [eS 0 33 .mov [pT 3],eS 1 34 .mov [pT 5],eS 2 35 (.bld [(nv 0),(nv 0)] [(0,1),(1,1)]) [pT 33,pT 34],eN 3 (.st 2) [pT 2,pT 35]]) .ret) .skip)))))) (.reg [eS 0 16 .mov [pT 3],eS 1 17 (.bin .add 0) [pT 16,pC (nv 1)],eS 2 3 .mov [pT 17]])))))) (.seq (.reg [eS 0 36 (.bld [(nv 0),(nv 0)] []) [],eN 1 (.st 2) [pT 2,pT 36]]) .ret))))⟩
theorem xf168_ok:qb3 Tryz.prog 168=some xf168:=by kernel_rfl
def xf172:XF:=⟨20,[(.cell 4 (some 12))],(.seq (.reg [eS 0 4 (.new [(nv 0),(nv 0),(nv 0),(nv 0),(nv 0),(nv 0),(nv 0),(nv 0),(nv 0),(nv 0),(nv 0),(nv 0)] 162) []]) (.seq (.reg [eS 0 5 (.new [(nv 0),(nv 0),(nv 0),(nv 0),(nv 0),(nv 0),(nv 0),(nv 0),(nv 0),(nv 0),(nv 0),(nv 0)] 162) []]) (.seq (.seq (.reg [eS 0 7 .mov [pC (nv 0)]]) (.block 0 (.loop (.seq (.reg [eS 0 8 (.bin .lss 0) [pT 7,pC (nv 12)]]) (.seq (.cond (.tmp 8) .skip (.exit 0)) (.seq (.block 1 (.seq (.reg [eS 0 9 .mov [pT 7],eS 1 6 .mov [pT 9]]) (.reg [eS 0 10 .mov [pT 6],eS 1 11 .mov [pT 1],eS 2 12 .mov [pT 0],eS 3 13 (.bin .rem 0) [pT 11,pT 12],eS 4 14 .mov [pT 1],eS 5 15 .mov [pT 0],eS 6 16 (.bin .quo 0) [pT 14,pT 15],eS 7 17 (.ixA 12 1) [pT 5,pT 10],eN 8 (.st 1) [pT 17,pT 13],eS 9 1 .mov [pT 16]]))) (.reg [eS 0 18 (.bin .add 0) [pT 7,pC (nv 1)],eS 1 7 .mov [pT 18]]))))))) (.seq (.reg [eS 0 19 (.ld (some 12)) [pT 5],eN 1 (.st 12) [pT 4,pT 19]]) .ret))))⟩
theorem xf172_ok:qb3 Tryz.prog 172=some xf172:=by kernel_rfl
def xf176:XF:=⟨23,[(.tmp 4)],(.seq (.reg [eS 0 2 (.box 76) [pT 0],eS 1 3 (.box 162) [pT 1],eS 2 4 .mov [pC (nv 0)]]) (.seq (.reg [eS 0 5 .mov [pC (nv 0)]]) (.seq (.seq (.reg [eS 0 7 (.fld 1) [pT 2],eS 1 8 (.ld none) [pT 7],eS 2 9 (.bin .sub 0) [pT 8,pC (nv 1)],eS 3 6 .mov [pT 9]]) (.block 0 (.loop (.seq (.seq (.reg [eS 0 10 .mov [pT 6],eS 1 11 (.bin .geq 0) [pT 10,pC (nv 0)]]) (.cond (.tmp 11) .skip (.exit 0))) (.seq (.block 1 (.reg [eS 0 14 .mov [pT 5],eS 1 15 (.fld 0) [pT 2],eS 2 16 (.ld none) [pT 15],eS 3 17 (.bin .mul 0) [pT 14,pT 16],eS 4 18 .mov [pT 6],eS 5 19 (.ixA 12 1) [pT 3,pT 18],eS 6 20 (.ld none) [pT 19],eS 7 21 (.bin .add 0) [pT 17,pT 20],eS 8 5 .mov [pT 21]])) (.reg [eS 0 12 .mov [pT 6],eS 1 13 (.bin .sub 0) [pT 12,pC (nv 1)],eS 2 6 .mov [pT 13]])))))) (.seq (.reg [eS 0 22 .mov [pT 5],eS 1 4 .mov [pT 22]]) .ret))))⟩
theorem xf176_ok:qb3 Tryz.prog 176=some xf176:=by kernel_rfl
def xf188:XF:=⟨31,[(.tmp 6),(.tmp 7)],(.seq (.reg [eS 0 3 (.box 76) [pT 0],eS 1 6 .mov [pC (nv 0)],eS 2 7 .mov [pC (nv 0)]]) (.seq (.seq (.reg [eS 0 8 .mov [pT 2],eS 1 9 (.bin .eql 0) [pT 8,pC (nv 0)]]) (.cond (.tmp 9) (.seq (.reg [eS 0 6 .mov [pC (nv 1)],eS 1 7 .mov [pC (nv 0)]]) .ret) .skip)) (.seq (.seq (.reg [eS 0 10 .mov [pT 1],eS 1 11 (.bin .eql 0) [pT 10,pC (nv 0)],eS 2 12 .mov [pT 11],⟨(some (12,true)),.mov,[pT 2],(some 13),3,false,[]⟩,⟨(some (12,true)),(.bin .lss 0),[pT 13,pC (nv 0)],(some 14),4,false,[]⟩,eS 5 15 .pick [pT 12,pT 14,(.const (.bool false))]]) (.cond (.tmp 15) (.seq (.reg [eS 0 6 .mov [pC (nv 0)],eS 1 7 .mov [pC (nv 3)]]) .ret) .skip)) (.seq (.seq (.reg [eS 0 16 .mov [pT 1],eS 1 17 (.bin .eql 0) [pT 16,pC (nv 0)],eS 2 18 .mov [pT 17],⟨(some (18,false)),(.ld (some 3)),[pT 3],(some 19),3,false,[]⟩,⟨(some (18,false)),.call,[(.func 174),pT 19],(some 20),4,false,[]⟩,⟨(some (18,false)),(.un .not),[pT 20],(some 21),5,false,[]⟩,eS 6 22 .pick [pT 18,(.const (.bool true)),pT 21]]) (.cond (.tmp 22) (.seq (.reg [eS 0 6 .mov [pC (nv 0)],eS 1 7 .mov [pC (nv 0)]]) .ret) .skip)) (.seq (.reg [⟨none,(.ld (some 3)),[pT 3],(some 23),0,true,[]⟩,eS 1 24 .mov [pT 1],eS 2 25 .mov [pT 2],eS 3 26 (.ld (some 3)) [pT 3],⟨none,.call,[(.func 210),pT 26],(some 27),4,false,[0]⟩,eS 5 28 (.bin .sub 0) [pT 27,pC (nv 1)],⟨none,.call,[(.func 175),pT 25,pT 28],(some 29),6,false,[0]⟩,eS 7 30 .call [(.func 209),pT 23,pT 24,pT 29],eS 8 6 .mov [pT 30],eS 9 7 .mov [pC (nv 0)]]) .ret)))))⟩
theorem xf188_ok:qb3 Tryz.prog 188=some xf188:=by kernel_rfl
def xf200:XF:=⟨16,[(.tmp 4)],(.seq (.reg [eS 0 4 .mov [pC (nv 0)]]) (.seq (.reg [eS 0 5 .mov [pC (nv 1)]]) (.seq (.seq (.reg [eS 0 6 .mov [pC (nv 0)]]) (.block 0 (.loop (.seq (.seq (.reg [eS 0 7 .mov [pT 6],eS 1 8 .mov [pT 1],eS 2 9 (.bin .lss 0) [pT 7,pT 8]]) (.cond (.tmp 9) .skip (.exit 0))) (.seq (.block 1 (.reg [eS 0 12 .mov [pT 5],eS 1 13 .mov [pT 0],eS 2 14 (.bin .mul 0) [pT 12,pT 13],eS 3 5 .mov [pT 14]])) (.reg [eS 0 10 .mov [pT 6],eS 1 11 (.bin .add 0) [pT 10,pC (nv 1)],eS 2 6 .mov [pT 11]])))))) (.seq (.reg [eS 0 15 .mov [pT 5],eS 1 4 .mov [pT 15]]) .ret))))⟩
theorem xf200_ok:qb3 Tryz.prog 200=some xf200:=by kernel_rfl
def xf208:XF:=⟨23,[],(.seq (.reg [eS 0 6 (.fld 0) [pT 1],eS 1 7 (.ld none) [pT 6],eS 2 8 (.ld none) [pT 2],eS 3 9 .call [(.func 172),pT 7,pT 8],eS 4 4 (.new [(nv 0),(nv 0),(nv 0),(nv 0),(nv 0),(nv 0),(nv 0),(nv 0),(nv 0),(nv 0),(nv 0),(nv 0)] 162) [],eN 5 (.st 12) [pT 4,pT 9]]) (.seq (.reg [eS 0 10 (.fld 1) [pT 1],eS 1 11 (.ld none) [pT 10],eS 2 12 (.bin .sub 0) [pT 11,pC (nv 1)],eS 3 5 .mov [pT 12]]) (.block 0 (.loop (.seq (.seq (.reg [eS 0 13 .mov [pT 5],eS 1 14 (.bin .geq 0) [pT 13,pC (nv 0)]]) (.cond (.tmp 14) .skip (.exit 0))) (.seq (.block 1 (.seq (.reg [eS 0 17 .mov [pT 0],eS 1 18 .mov [pT 5],eS 2 19 (.ixA 12 1) [pT 4,pT 18],eS 3 20 (.ld none) [pT 19],eS 4 21 .call [pT 17,pT 20],eS 5 22 (.un .not) [pT 21]]) (.cond (.tmp 22) .ret .skip))) (.reg [eS 0 15 .mov [pT 5],eS 1 16 (.bin .sub 0) [pT 15,pC (nv 1)],eS 2 5 .mov [pT 16]])))))))⟩
theorem xf208_ok:qb3 Tryz.prog 208=some xf208:=by kernel_rfl
def xf81:XF:=⟨36,[(.tmp 4)],(.seq (.reg [eS 0 2 (.box 76) [pT 0],eS 1 4 .mov [pC (nv 0)]]) (.seq (.reg [eS 0 7 (.fld 0) [pT 2],eS 1 8 (.ld none) [pT 7],eS 2 9 (.fld 1) [pT 2],eS 3 10 (.ld none) [pT 9],eS 4 11 .mov [pT 1],eS 5 12 .call [(.func 135),pT 8,pT 10,pT 11],eS 6 5 .mov [pT 12]]) (.seq (.seq (.reg [eS 0 6 .mov [pC (nv 0)]]) (.block 0 (.loop (.seq (.seq (.reg [eS 0 13 .mov [pT 6],eS 1 14 (.fld 1) [pT 2],eS 2 15 (.ld none) [pT 14],eS 3 16 (.bin .lss 0) [pT 13,pT 15]]) (.cond (.tmp 16) .skip (.exit 0))) (.seq (.block 1 (.reg [eS 0 19 .mov [pT 5],eS 1 20 .mov [pT 6],eS 2 21 (.fld 0) [pT 2],eS 3 22 (.ld none) [pT 21],eS 4 23 .mov [pT 5],eS 5 24 .mov [pT 6],eS 6 25 (.ixS 1) [pT 23,pT 24],eS 7 26 (.ld none) [pT 25],eS 8 27 (.bin .sub 0) [pT 22,pT 26],eS 9 28 (.fld 0) [pT 2],eS 10 29 (.ld none) [pT 28],eS 11 30 (.bin .rem 0) [pT 27,pT 29],eS 12 31 (.ixS 1) [pT 19,pT 20],eN 13 (.st 1) [pT 31,pT 30]])) (.reg [eS 0 17 .mov [pT 6],eS 1 18 (.bin .add 0) [pT 17,pC (nv 1)],eS 2 6 .mov [pT 18]])))))) (.seq (.reg [eS 0 32 (.fld 0) [pT 2],eS 1 33 (.ld none) [pT 32],eS 2 34 .mov [pT 5],eS 3 35 .call [(.func 136),pT 33,pT 34],eS 4 4 .mov [pT 35]]) .ret))))⟩
theorem xf81_ok:qb3 Tryz.prog 81=some xf81:=by kernel_rfl
def xf109:XF:=⟨39,[(.cell 2 (some 3)),(.tmp 3)],(.seq (.reg [eS 0 2 (.new [(nv 0),(nv 0),(.slice none 0 0)] 76) [],eS 1 3 .mov [pC (nv 0)]]) (.seq (.reg [eS 0 7 .mov [pT 0],eS 1 8 .call [(.func 168),pT 7],eS 2 4 (.new [(nv 0),(nv 0)] 111) [],eN 3 (.st 2) [pT 4,pT 8]]) (.seq (.seq (.reg [eS 0 9 (.ixA 2 1) [pT 4,pC (nv 0)],eS 1 10 (.ld none) [pT 9],eS 2 11 (.bin .eql 0) [pT 10,pC (nv 0)]]) (.cond (.tmp 11) (.seq (.reg [eS 0 12 (.bld [(nv 0),(nv 0),(.slice none 0 0)] []) [],eN 1 (.st 3) [pT 2,pT 12],eS 2 3 .mov [pC (nv 1)]]) .ret) .skip)) (.seq (.seq (.reg [eS 0 5 .mov [pC (nv 0)]]) (.block 0 (.loop (.seq (.seq (.reg [eS 0 13 .mov [pT 5],eS 1 14 .mov [pT 0],eS 2 15 (.bin .lss 0) [pT 13,pT 14]]) (.cond (.tmp 15) .skip (.exit 0))) (.seq (.block 1 (.seq (.reg [eS 0 18 (.ixA 2 1) [pT 4,pC (nv 0)],eS 1 19 (.ld none) [pT 18],eS 2 20 (.ixA 2 1) [pT 4,pC (nv 1)],eS 3 21 (.ld none) [pT 20],eS 4 22 .mov [pT 5],eS 5 23 .call [(.func 135),pT 19,pT 21,pT 22],eS 6 6 .mov [pT 23]]) (.seq (.reg [eS 0 24 (.ixA 2 1) [pT 4,pC (nv 0)],⟨none,(.ld none),[pT 24],(some 25),1,true,[]⟩,eS 2 26 (.bsl [] 0 [] 3) [],eS 3 27 .mov [pT 6],eS 5 29 (.bsl [(nv 0)] 1 [(0,1)] 3) [pC (nv 1)],⟨none,(.app 3 1 8),[pT 26,pT 27],(some 28),4,false,[1]⟩,⟨none,(.app 3 1 8),[pT 28,pT 29],(some 30),6,false,[1]⟩,eS 7 31 .call [(.func 169),pT 25,pT 30]]) (.cond (.tmp 31) (.seq (.reg [eS 0 32 (.ixA 2 1) [pT 4,pC (nv 0)],eS 1 33 (.ld none) [pT 32],eS 2 34 (.ixA 2 1) [pT 4,pC (nv 1)],eS 3 35 (.ld none) [pT 34],eS 4 36 .mov [pT 6],eS 5 37 (.bld [(nv 0),(nv 0),(.slice none 0 0)] [(0,1),(1,1),(2,1)]) [pT 33,pT 35,pT 36],eN 6 (.st 3) [pT 2,pT 37],eS 7 3 .mov [pC (nv 0)]]) .ret) .skip)))) (.reg [eS 0 16 .mov [pT 5],eS 1 17 (.bin .add 0) [pT 16,pC (nv 1)],eS 2 5 .mov [pT 17]])))))) (.seq (.reg [eS 0 38 (.bld [(nv 0),(nv 0),(.slice none 0 0)] []) [],eN 1 (.st 3) [pT 2,pT 38],eS 2 3 .mov [pC (nv 1)]]) .ret)))))⟩
theorem xf109_ok:qb3 Tryz.prog 109=some xf109:=by kernel_rfl
def xf145:XF:=⟨26,[(.tmp 4)],(.seq (.reg [eS 0 4 .mov [(.const (.bool false))]]) (.seq (.seq (.reg [eS 0 6 .mov [pT 0],eS 1 7 .lenS [pT 6],eS 2 8 .mov [pT 1],eS 3 9 .lenS [pT 8],eS 4 10 (.bin .neq 0) [pT 7,pT 9]]) (.cond (.tmp 10) (.seq (.reg [eS 0 4 .mov [(.const (.bool false))]]) .ret) .skip)) (.seq (.seq (.reg [eS 0 5 .mov [pC (nv 0)]]) (.block 0 (.loop (.seq (.seq (.reg [eS 0 11 .mov [pT 5],eS 1 12 .mov [pT 0],eS 2 13 .lenS [pT 12],eS 3 14 (.bin .lss 0) [pT 11,pT 13]]) (.cond (.tmp 14) .skip (.exit 0))) (.seq (.block 1 (.seq (.reg [eS 0 17 .mov [pT 0],eS 1 18 .mov [pT 5],eS 2 19 (.ixS 1) [pT 17,pT 18],eS 3 20 (.ld none) [pT 19],eS 4 21 .mov [pT 1],eS 5 22 .mov [pT 5],eS 6 23 (.ixS 1) [pT 21,pT 22],eS 7 24 (.ld none) [pT 23],eS 8 25 (.bin .neq 0) [pT 20,pT 24]]) (.cond (.tmp 25) (.seq (.reg [eS 0 4 .mov [(.const (.bool false))]]) .ret) .skip))) (.reg [eS 0 15 .mov [pT 5],eS 1 16 (.bin .add 0) [pT 15,pC (nv 1)],eS 2 5 .mov [pT 16]])))))) (.seq (.reg [eS 0 4 .mov [(.const (.bool true))]]) .ret))))⟩
theorem xf145_ok:qb3 Tryz.prog 145=some xf145:=by kernel_rfl
def xf169:XF:=⟨32,[(.tmp 4)],(.seq (.reg [eS 0 4 .mov [(.const (.bool false))]]) (.seq (.seq (.reg [eS 0 5 .mov [pC (nv 1)]]) (.block 0 (.loop (.seq (.seq (.reg [eS 0 7 .mov [pT 5],eS 1 8 (.bin .mul 0) [pC (nv 2),pT 7],eS 2 9 .mov [pT 1],eS 3 10 .lenS [pT 9],eS 4 11 (.bin .sub 0) [pT 10,pC (nv 1)],eS 5 12 (.bin .leq 0) [pT 8,pT 11]]) (.cond (.tmp 12) .skip (.exit 0))) (.seq (.block 1 (.seq (.reg [eS 0 6 .mov [pC (nv 0)]]) (.block 2 (.loop (.seq (.seq (.reg [eS 0 15 .mov [pT 6],eS 1 16 .mov [pT 0],eS 2 17 .mov [pT 5],eS 3 18 .call [(.func 200),pT 16,pT 17],eS 4 19 (.bin .lss 0) [pT 15,pT 18]]) (.cond (.tmp 19) .skip (.exit 2))) (.seq (.block 3 (.seq (.reg [eS 0 22 .mov [pT 0],eS 1 23 .mov [pT 1],eS 2 24 .mov [pT 0],eS 3 25 .mov [pT 5],eS 4 26 .mov [pT 6],eS 5 27 .call [(.func 135),pT 24,pT 25,pT 26],eS 6 28 (.bsl [(nv 0)] 1 [(0,1)] 3) [pC (nv 1)],eS 7 29 (.app 3 1 8) [pT 27,pT 28],eS 8 30 .call [(.func 187),pT 22,pT 23,pT 29],eS 9 31 .call [(.func 202),pT 30]]) (.cond (.tmp 31) (.seq (.reg [eS 0 4 .mov [(.const (.bool false))]]) .ret) .skip))) (.reg [eS 0 20 .mov [pT 6],eS 1 21 (.bin .add 0) [pT 20,pC (nv 1)],eS 2 6 .mov [pT 21]]))))))) (.reg [eS 0 13 .mov [pT 5],eS 1 14 (.bin .add 0) [pT 13,pC (nv 1)],eS 2 5 .mov [pT 14]])))))) (.seq (.reg [eS 0 4 .mov [(.const (.bool true))]]) .ret)))⟩
theorem xf169_ok:qb3 Tryz.prog 169=some xf169:=by kernel_rfl
def xf201:XF:=⟨17,[(.tmp 2)],(.seq (.reg [eS 0 2 .mov [(.const (.bool false))]]) (.seq (.seq (.reg [eS 0 4 .mov [pT 0],eS 1 5 (.bin .lss 0) [pT 4,pC (nv 2)]]) (.cond (.tmp 5) (.seq (.reg [eS 0 2 .mov [(.const (.bool false))]]) .ret) .skip)) (.seq (.seq (.reg [eS 0 3 .mov [pC (nv 2)]]) (.block 0 (.loop (.seq (.seq (.reg [eS 0 6 .mov [pT 3],eS 1 7 .mov [pT 3],eS 2 8 (.bin .mul 0) [pT 6,pT 7],eS 3 9 .mov [pT 0],eS 4 10 (.bin .leq 0) [pT 8,pT 9]]) (.cond (.tmp 10) .skip (.exit 0))) (.seq (.block 1 (.seq (.reg [eS 0 13 .mov [pT 0],eS 1 14 .mov [pT 3],eS 2 15 (.bin .rem 0) [pT 13,pT 14],eS 3 16 (.bin .eql 0) [pT 15,pC (nv 0)]]) (.cond (.tmp 16) (.seq (.reg [eS 0 2 .mov [(.const (.bool false))]]) .ret) .skip))) (.reg [eS 0 11 .mov [pT 3],eS 1 12 (.bin .add 0) [pT 11,pC (nv 1)],eS 2 3 .mov [pT 12]])))))) (.seq (.reg [eS 0 2 .mov [(.const (.bool true))]]) .ret))))⟩
theorem xf201_ok:qb3 Tryz.prog 201=some xf201:=by kernel_rfl
def xf209:XF:=⟨24,[(.tmp 6)],(.seq (.reg [eS 0 3 (.box 76) [pT 0],eS 1 6 .mov [pC (nv 0)]]) (.seq (.reg [eS 0 7 .mov [pC (nv 1)]]) (.seq (.block 0 (.loop (.seq (.seq (.reg [eS 0 8 .mov [pT 2],eS 1 9 (.bin .gtr 0) [pT 8,pC (nv 0)]]) (.cond (.tmp 9) .skip (.exit 0))) (.seq (.block 1 (.seq (.seq (.reg [eS 0 12 .mov [pT 2],eS 1 13 (.bin .rem 0) [pT 12,pC (nv 2)],eS 2 14 (.bin .eql 0) [pT 13,pC (nv 1)]]) (.cond (.tmp 14) (.reg [eS 0 15 (.ld (some 3)) [pT 3],eS 1 16 .mov [pT 7],eS 2 17 .mov [pT 1],eS 3 18 .call [(.func 131),pT 15,pT 16,pT 17],eS 4 7 .mov [pT 18]]) .skip)) (.reg [eS 0 19 (.ld (some 3)) [pT 3],eS 1 20 .mov [pT 1],eS 2 21 .mov [pT 1],eS 3 22 .call [(.func 131),pT 19,pT 20,pT 21],eS 4 1 .mov [pT 22]]))) (.reg [eS 0 10 .mov [pT 2],eS 1 11 (.bin .quo 0) [pT 10,pC (nv 2)],eS 2 2 .mov [pT 11]]))))) (.seq (.reg [eS 0 23 .mov [pT 7],eS 1 6 .mov [pT 23]]) .ret))))⟩
theorem xf209_ok:qb3 Tryz.prog 209=some xf209:=by kernel_rfl
def xf102:XF:=⟨8,[(.tmp 2)],(.seq (.reg [eS 0 2 .mov [(.const (.slice none 0 0))]]) (.seq (.seq (.reg [eS 0 3 .mov [pT 0],eS 1 4 (.bin .eql 2) [pT 3,(.const (.slice none 0 0))]]) (.cond (.tmp 4) (.seq (.reg [eS 0 2 .mov [(.const (.slice none 0 0))]]) .ret) .skip)) (.seq (.reg [eS 0 5 (.bsl [] 0 [] 3) [],eS 1 6 .mov [pT 0],eS 2 7 (.app 3 1 8) [pT 5,pT 6],eS 3 2 .mov [pT 7]]) .ret)))⟩
theorem xf102_ok:qb3 Tryz.prog 102=some xf102:=by kernel_rfl
def xf142:XF:=⟨11,[(.tmp 4),(.tmp 5)],(.seq (.reg [eS 0 2 (.box 76) [pT 0],eS 1 4 .mov [pC (nv 0)],eS 2 5 .mov [pC (nv 0)]]) (.seq (.reg [eS 0 6 (.ld (some 3)) [pT 2],eS 1 7 .mov [pT 1],eS 2 8 .call [(.func 188),pT 6,pT 7,(.const (.int .i64 (-1)))],eS 3 9 (.ext 0) [pT 8],eS 4 10 (.ext 1) [pT 8],eS 5 4 .mov [pT 9],eS 6 5 .mov [pT 10]]) .ret))⟩
theorem xf142_ok:qb3 Tryz.prog 142=some xf142:=by kernel_rfl
def xf146:XF:=⟨9,[(.tmp 4)],(.seq (.reg [eS 0 4 .mov [(.const (.bool false))]]) (.seq (.reg [eS 0 5 .mov [pT 0],eS 1 6 .mov [pT 1],eS 2 7 .call [(.func 148),pT 5,pT 6],eS 3 8 (.bin .geq 0) [pT 7,pC (nv 0)],eS 4 4 .mov [pT 8]]) .ret))⟩
theorem xf146_ok:qb3 Tryz.prog 146=some xf146:=by kernel_rfl
def xf150:XF:=⟨42,[(.tmp 6)],(.seq (.reg [eS 0 3 (.box 76) [pT 0],eS 1 6 .mov [pC (nv 0)]]) (.seq (.seq (.reg [eS 0 10 (.ld (some 3)) [pT 3],eS 1 11 .call [(.func 174),pT 10],eS 2 12 (.un .not) [pT 11]]) (.cond (.tmp 12) (.seq (.reg [eS 0 6 .mov [pC (nv 0)]]) .ret) .skip)) (.seq (.reg [eS 0 13 (.fld 0) [pT 3],eS 1 14 (.ld none) [pT 13],eS 2 15 .mov [pT 1],eS 4 17 (.fld 0) [pT 3],⟨none,(.ld none),[pT 17],(some 18),5,true,[]⟩,eS 6 19 .mov [pT 2],eS 8 7 (.new [(nv 0),(nv 0),(nv 0),(nv 0),(nv 0),(nv 0),(nv 0),(nv 0),(nv 0),(nv 0),(nv 0),(nv 0)] 162) [],eS 9 8 (.new [(nv 0),(nv 0),(nv 0),(nv 0),(nv 0),(nv 0),(nv 0),(nv 0),(nv 0),(nv 0),(nv 0),(nv 0)] 162) [],⟨none,.call,[(.func 172),pT 14,pT 15],(some 16),3,false,[5]⟩,eS 7 20 .call [(.func 172),pT 18,pT 19],eN 10 (.st 12) [pT 7,pT 16],eN 11 (.st 12) [pT 8,pT 20]]) (.seq (.seq (.reg [eS 0 21 (.fld 1) [pT 3],eS 1 22 (.ld none) [pT 21],eS 2 23 .mov [pC (nv 0)]]) (.block 0 (.loop (.seq (.reg [eS 0 24 (.bin .lss 0) [pT 23,pT 22]]) (.seq (.cond (.tmp 24) .skip (.exit 0)) (.seq (.block 1 (.seq (.reg [eS 0 25 .mov [pT 23],eS 1 9 .mov [pT 25]]) (.reg [eS 0 26 .mov [pT 9],eS 1 27 .mov [pT 9],eS 2 28 (.ixA 12 1) [pT 7,pT 27],eS 3 29 (.ld none) [pT 28],eS 4 30 .mov [pT 9],eS 5 31 (.ixA 12 1) [pT 8,pT 30],eS 6 32 (.ld none) [pT 31],eS 7 33 (.bin .add 0) [pT 29,pT 32],eS 8 34 (.fld 0) [pT 3],eS 9 35 (.ld none) [pT 34],eS 10 36 .call [(.func 175),pT 33,pT 35],eS 11 37 (.ixA 12 1) [pT 7,pT 26],eN 12 (.st 1) [pT 37,pT 36]]))) (.reg [eS 0 38 (.bin .add 0) [pT 23,pC (nv 1)],eS 1 23 .mov [pT 38]]))))))) (.seq (.reg [eS 0 39 (.ld (some 3)) [pT 3],eS 1 40 (.ld (some 12)) [pT 7],eS 2 41 .call [(.func 176),pT 39,pT 40],eS 3 6 .mov [pT 41]]) .ret)))))⟩
theorem xf150_ok:qb3 Tryz.prog 150=some xf150:=by kernel_rfl
def xf166:XF:=⟨8,[(.tmp 2)],(.seq (.reg [eS 0 1 (.box 76) [pT 0],eS 1 2 .mov [pC (nv 0)]]) (.seq (.reg [eS 0 3 (.fld 0) [pT 1],eS 1 4 (.ld none) [pT 3],eS 2 5 (.fld 1) [pT 1],eS 3 6 (.ld none) [pT 5],eS 4 7 .call [(.func 200),pT 4,pT 6],eS 5 2 .mov [pT 7]]) .ret))⟩
theorem xf166_ok:qb3 Tryz.prog 166=some xf166:=by kernel_rfl
def xf170:XF:=⟨26,[(.tmp 2)],(.seq (.reg [eS 0 2 .mov [(.const (.slice none 0 0))]]) (.seq (.reg [eS 0 3 .mov [(.const (.slice none 0 0))]]) (.seq (.seq (.reg [eS 0 5 .mov [pC (nv 2)],eS 1 4 .mov [pT 5]]) (.block 0 (.loop (.seq (.seq (.reg [eS 0 6 .mov [pT 0],eS 1 7 (.bin .gtr 0) [pT 6,pC (nv 1)]]) (.cond (.tmp 7) .skip (.exit 0))) (.seq (.block 1 (.seq (.seq (.reg [eS 0 10 .mov [pT 0],eS 1 11 .mov [pT 4],eS 2 12 (.bin .rem 0) [pT 10,pT 11],eS 3 13 (.bin .eql 0) [pT 12,pC (nv 0)]]) (.cond (.tmp 13) (.reg [eS 0 14 .mov [pT 3],eS 1 15 .mov [pT 4],eS 2 16 (.bsl [(nv 0)] 1 [(0,1)] 3) [pT 15],eS 3 17 (.app 3 1 8) [pT 14,pT 16],eS 4 3 .mov [pT 17]]) .skip)) (.block 2 (.loop (.seq (.seq (.reg [eS 0 18 .mov [pT 0],eS 1 19 .mov [pT 4],eS 2 20 (.bin .rem 0) [pT 18,pT 19],eS 3 21 (.bin .eql 0) [pT 20,pC (nv 0)]]) (.cond (.tmp 21) .skip (.exit 2))) (.block 3 (.reg [eS 0 22 .mov [pT 0],eS 1 23 .mov [pT 4],eS 2 24 (.bin .quo 0) [pT 22,pT 23],eS 3 0 .mov [pT 24]]))))))) (.reg [eS 0 8 .mov [pT 4],eS 1 9 (.bin .add 0) [pT 8,pC (nv 1)],eS 2 4 .mov [pT 9]])))))) (.seq (.reg [eS 0 25 .mov [pT 3],eS 1 2 .mov [pT 25]]) .ret))))⟩
theorem xf170_ok:qb3 Tryz.prog 170=some xf170:=by kernel_rfl
def xf174:XF:=⟨39,[(.tmp 2)],(.seq (.reg [eS 0 1 (.box 76) [pT 0],eS 1 2 .mov [(.const (.bool false))]]) (.seq (.seq (.reg [eS 0 4 (.fld 0) [pT 1],eS 1 5 (.ld none) [pT 4],eS 2 6 (.bin .lss 0) [pT 5,pC (nv 2)],eS 3 7 .mov [pT 6],⟨(some (7,false)),(.fld 1),[pT 1],(some 8),4,false,[]⟩,⟨(some (7,false)),(.ld none),[pT 8],(some 9),5,false,[]⟩,⟨(some (7,false)),(.bin .lss 0),[pT 9,pC (nv 1)],(some 10),6,false,[]⟩,eS 7 11 .pick [pT 7,(.const (.bool true)),pT 10],eS 8 12 .mov [pT 11],⟨(some (12,false)),(.fld 1),[pT 1],(some 13),9,false,[]⟩,⟨(some (12,false)),(.ld none),[pT 13],(some 14),10,false,[]⟩,⟨(some (12,false)),(.bin .gtr 0),[pT 14,pC (nv 6)],(some 15),11,false,[]⟩,eS 12 16 .pick [pT 12,(.const (.bool true)),pT 15],eS 13 17 .mov [pT 16],⟨(some (17,false)),(.fld 2),[pT 1],(some 18),14,false,[]⟩,⟨(some (17,false)),(.ld none),[pT 18],(some 19),15,false,[]⟩,⟨(some (17,false)),.lenS,[pT 19],(some 20),16,false,[]⟩,⟨(some (17,false)),(.fld 1),[pT 1],(some 21),17,false,[]⟩,⟨(some (17,false)),(.ld none),[pT 21],(some 22),18,false,[]⟩,⟨(some (17,false)),(.bin .neq 0),[pT 20,pT 22],(some 23),19,false,[]⟩,eS 20 24 .pick [pT 17,(.const (.bool true)),pT 23]]) (.cond (.tmp 24) (.seq (.reg [eS 0 2 .mov [(.const (.bool false))]]) .ret) .skip)) (.seq (.reg [eS 0 3 .mov [pC (nv 1)]]) (.seq (.seq (.reg [eS 0 25 (.fld 1) [pT 1],eS 1 26 (.ld none) [pT 25],eS 2 27 .mov [pC (nv 0)]]) (.block 0 (.loop (.seq (.reg [eS 0 28 (.bin .lss 0) [pT 27,pT 26]]) (.seq (.cond (.tmp 28) .skip (.exit 0)) (.seq (.block 1 (.seq (.seq (.reg [eS 0 29 .mov [pT 3],eS 1 30 (.fld 0) [pT 1],eS 2 31 (.ld none) [pT 30],eS 3 32 (.bin .quo 0) [pC (nv 64),pT 31],eS 4 33 (.bin .gtr 0) [pT 29,pT 32]]) (.cond (.tmp 33) (.seq (.reg [eS 0 2 .mov [(.const (.bool false))]]) .ret) .skip)) (.reg [eS 0 34 .mov [pT 3],eS 1 35 (.fld 0) [pT 1],eS 2 36 (.ld none) [pT 35],eS 3 37 (.bin .mul 0) [pT 34,pT 36],eS 4 3 .mov [pT 37]]))) (.reg [eS 0 38 (.bin .add 0) [pT 27,pC (nv 1)],eS 1 27 .mov [pT 38]]))))))) (.seq (.reg [eS 0 2 .mov [(.const (.bool true))]]) .ret)))))⟩
theorem xf174_ok:qb3 Tryz.prog 174=some xf174:=by kernel_rfl
def xf186:XF:=⟨6,[(.tmp 4)],(.seq (.reg [eS 0 2 (.box 76) [pT 0],eS 1 3 (.box 3) [pT 1],eS 2 4 .mov [(.const .nilFunc)]]) (.seq (.reg [eS 0 5 (.fn 208 0 2) [pT 2,pT 3],eS 1 4 .mov [pT 5]]) .ret))⟩
theorem xf186_ok:qb3 Tryz.prog 186=some xf186:=by kernel_rfl
def xf202:XF:=⟨15,[(.tmp 2)],(.seq (.reg [eS 0 2 .mov [(.const (.bool false))]]) (.seq (.seq (.reg [eS 0 3 .mov [pC (nv 0)]]) (.block 0 (.loop (.seq (.seq (.reg [eS 0 4 .mov [pT 3],eS 1 5 .mov [pT 0],eS 2 6 .lenS [pT 5],eS 3 7 (.bin .lss 0) [pT 4,pT 6]]) (.cond (.tmp 7) .skip (.exit 0))) (.seq (.block 1 (.seq (.reg [eS 0 10 .mov [pT 0],eS 1 11 .mov [pT 3],eS 2 12 (.ixS 1) [pT 10,pT 11],eS 3 13 (.ld none) [pT 12],eS 4 14 (.bin .neq 0) [pT 13,pC (nv 0)]]) (.cond (.tmp 14) (.seq (.reg [eS 0 2 .mov [(.const (.bool false))]]) .ret) .skip))) (.reg [eS 0 8 .mov [pT 3],eS 1 9 (.bin .add 0) [pT 8,pC (nv 1)],eS 2 3 .mov [pT 9]])))))) (.seq (.reg [eS 0 2 .mov [(.const (.bool true))]]) .ret)))⟩
theorem xf202_ok:qb3 Tryz.prog 202=some xf202:=by kernel_rfl
def xf210:XF:=⟨17,[(.tmp 2)],(.seq (.reg [eS 0 1 (.box 76) [pT 0],eS 1 2 .mov [pC (nv 0)]]) (.seq (.seq (.reg [eS 0 4 (.ld (some 3)) [pT 1],eS 1 5 .call [(.func 174),pT 4],eS 2 6 (.un .not) [pT 5]]) (.cond (.tmp 6) (.seq (.reg [eS 0 2 .mov [pC (nv 0)]]) .ret) .skip)) (.seq (.reg [eS 0 3 .mov [pC (nv 1)]]) (.seq (.seq (.reg [eS 0 7 (.fld 1) [pT 1],eS 1 8 (.ld none) [pT 7],eS 2 9 .mov [pC (nv 0)]]) (.block 0 (.loop (.seq (.reg [eS 0 10 (.bin .lss 0) [pT 9,pT 8]]) (.seq (.cond (.tmp 10) .skip (.exit 0)) (.seq (.block 1 (.reg [eS 0 11 .mov [pT 3],eS 1 12 (.fld 0) [pT 1],eS 2 13 (.ld none) [pT 12],eS 3 14 (.bin .mul 0) [pT 11,pT 13],eS 4 3 .mov [pT 14]])) (.reg [eS 0 15 (.bin .add 0) [pT 9,pC (nv 1)],eS 1 9 .mov [pT 15]]))))))) (.seq (.reg [eS 0 16 .mov [pT 3],eS 1 2 .mov [pT 16]]) .ret)))))⟩
theorem xf210_ok:qb3 Tryz.prog 210=some xf210:=by kernel_rfl
def xf218:XF:=⟨5,[(.tmp 2)],(.seq (.reg [eS 0 2 .mov [(.const (.bool false))]]) (.seq (.reg [eS 0 3 .mov [pT 0],eS 1 4 (.bin .neq 0) [pT 3,pC (nv 0)],eS 2 2 .mov [pT 4]]) .ret))⟩
theorem xf218_ok:qb3 Tryz.prog 218=some xf218:=by kernel_rfl
def xf87:XF:=⟨26,[(.tmp 4)],(.seq (.reg [eS 0 4 .mov [(.const (.bool false))]]) (.seq (.seq (.reg [eS 0 6 .mov [pT 0],eS 1 7 .lenS [pT 6],eS 2 8 .mov [pT 1],eS 3 9 .lenS [pT 8],eS 4 10 (.bin .neq 0) [pT 7,pT 9]]) (.cond (.tmp 10) (.seq (.reg [eS 0 4 .mov [(.const (.bool false))]]) .ret) .skip)) (.seq (.seq (.reg [eS 0 11 .mov [pT 0],eS 1 12 .lenS [pT 11],eS 2 13 .mov [pC (nv 0)]]) (.block 0 (.loop (.seq (.reg [eS 0 14 (.bin .lss 0) [pT 13,pT 12]]) (.seq (.cond (.tmp 14) .skip (.exit 0)) (.seq (.block 1 (.seq (.reg [eS 0 15 .mov [pT 13],eS 1 5 .mov [pT 15]]) (.seq (.reg [eS 0 16 .mov [pT 0],eS 1 17 .mov [pT 5],eS 2 18 (.ixS 1) [pT 16,pT 17],eS 3 19 (.ld none) [pT 18],eS 4 20 .mov [pT 1],eS 5 21 .mov [pT 5],eS 6 22 (.ixS 1) [pT 20,pT 21],eS 7 23 (.ld none) [pT 22],eS 8 24 (.bin .neq 0) [pT 19,pT 23]]) (.cond (.tmp 24) (.seq (.reg [eS 0 4 .mov [(.const (.bool false))]]) .ret) .skip)))) (.reg [eS 0 25 (.bin .add 0) [pT 13,pC (nv 1)],eS 1 13 .mov [pT 25]]))))))) (.seq (.reg [eS 0 4 .mov [(.const (.bool true))]]) .ret))))⟩
theorem xf87_ok:qb3 Tryz.prog 87=some xf87:=by kernel_rfl
def xf107:XF:=⟨21,[(.tmp 4),(.tmp 5)],(.seq (.reg [eS 0 2 (.box 76) [pT 0],eS 1 4 .mov [pC (nv 0)],eS 2 5 .mov [pC (nv 0)]]) (.seq (.seq (.reg [eS 0 7 .mov [pT 1],eS 1 8 (.bin .eql 0) [pT 7,pC (nv 0)]]) (.cond (.tmp 8) (.seq (.reg [eS 0 4 .mov [pC (nv 0)],eS 1 5 .mov [pC (nv 3)]]) .ret) .skip)) (.seq (.seq (.reg [eS 0 6 .mov [pC (nv 1)]]) (.block 0 (.loop (.seq (.seq (.reg [eS 0 9 .mov [pT 6],eS 1 10 (.ld (some 3)) [pT 2],eS 2 11 .call [(.func 166),pT 10],eS 3 12 (.bin .lss 0) [pT 9,pT 11]]) (.cond (.tmp 12) .skip (.exit 0))) (.seq (.block 1 (.seq (.reg [eS 0 15 (.ld (some 3)) [pT 2],eS 1 16 .mov [pT 1],eS 2 17 .mov [pT 6],eS 3 18 .call [(.func 132),pT 15,pT 16,pT 17],eS 4 19 (.bin .eql 0) [pT 18,pC (nv 1)]]) (.cond (.tmp 19) (.seq (.reg [eS 0 20 .mov [pT 6],eS 1 4 .mov [pT 20],eS 2 5 .mov [pC (nv 0)]]) .ret) .skip))) (.reg [eS 0 13 .mov [pT 6],eS 1 14 (.bin .add 0) [pT 13,pC (nv 1)],eS 2 6 .mov [pT 14]])))))) (.seq (.reg [eS 0 4 .mov [pC (nv 0)],eS 1 5 .mov [pC (nv 3)]]) .ret))))⟩
theorem xf107_ok:qb3 Tryz.prog 107=some xf107:=by kernel_rfl
def xf111:XF:=⟨56,[(.cell 2 (some 3)),(.tmp 3)],(.seq (.reg [eS 0 2 (.new [(nv 0),(nv 0),(.slice none 0 0)] 76) [],eS 1 3 .mov [pC (nv 0)]]) (.seq (.seq (.reg [eS 0 9 .mov [pT 0],eS 1 10 (.bin .lss 0) [pT 9,pC (nv 2)],eS 2 11 .mov [pT 10],⟨(some (11,false)),.mov,[pT 0],(some 12),3,false,[]⟩,⟨(some (11,false)),(.bin .gtr 0),[pT 12,pC (nv 64)],(some 13),4,false,[]⟩,eS 5 14 .pick [pT 11,(.const (.bool true)),pT 13]]) (.cond (.tmp 14) (.seq (.reg [eS 0 15 (.bld [(nv 0),(nv 0),(.slice none 0 0)] []) [],eN 1 (.st 3) [pT 2,pT 15],eS 2 3 .mov [pC (nv 1)]]) .ret) .skip)) (.seq (.reg [eS 0 16 .mov [pT 0],eS 1 17 .call [(.func 170),pT 16],eS 2 4 .mov [pT 17]]) (.seq (.seq (.reg [eS 0 18 .mov [pT 4],eS 1 19 .lenS [pT 18],eS 2 20 (.bin .neq 0) [pT 19,pC (nv 1)]]) (.cond (.tmp 20) (.seq (.reg [eS 0 21 (.bld [(nv 0),(nv 0),(.slice none 0 0)] []) [],eN 1 (.st 3) [pT 2,pT 21],eS 2 3 .mov [pC (nv 1)]]) .ret) .skip)) (.seq (.reg [eS 0 22 .mov [pT 4],eS 1 23 (.ixS 1) [pT 22,pC (nv 0)],eS 2 24 (.ld none) [pT 23],eS 3 25 (.bld [(nv 0),(nv 0),(.slice none 0 0)] [(0,1)]) [pT 24],eS 4 5 (.new [(nv 0),(nv 0),(.slice none 0 0)] 76) [],eN 5 (.st 3) [pT 5,pT 25]]) (.seq (.seq (.reg [eS 0 26 .mov [pT 0],eS 1 6 .mov [pT 26]]) (.block 0 (.loop (.seq (.seq (.reg [eS 0 27 .mov [pT 6],eS 1 28 (.bin .gtr 0) [pT 27,pC (nv 1)]]) (.cond (.tmp 28) .skip (.exit 0))) (.seq (.block 1 (.reg [eS 0 33 (.fld 1) [pT 5],eS 1 34 (.ld none) [pT 33],eS 2 35 (.bin .add 0) [pT 34,pC (nv 1)],eS 3 36 (.fld 1) [pT 5],eN 4 (.st 1) [pT 36,pT 35]])) (.reg [eS 0 29 .mov [pT 6],eS 1 30 (.fld 0) [pT 5],eS 2 31 (.ld none) [pT 30],eS 3 32 (.bin .quo 0) [pT 29,pT 31],eS 4 6 .mov [pT 32]])))))) (.seq (.reg [eS 0 7 .mov [pC (nv 0)]]) (.seq (.block 2 (.loop (.seq (.seq (.reg [eS 0 37 (.fld 0) [pT 5],eS 1 38 (.ld none) [pT 37],eS 2 39 .mov [pT 7],eS 3 40 (.fld 1) [pT 5],eS 4 41 (.ld none) [pT 40],eS 5 42 .call [(.func 171),pT 38,pT 39,pT 41],eS 6 43 (.un .not) [pT 42]]) (.cond (.tmp 43) .skip (.exit 2))) (.block 3 (.reg [eS 0 44 .mov [pT 7],eS 1 45 (.bin .add 0) [pT 44,pC (nv 1)],eS 2 7 .mov [pT 45]]))))) (.seq (.reg [eS 0 46 (.fld 0) [pT 5],eS 1 47 (.ld none) [pT 46],eS 2 48 .mov [pT 7],eS 3 49 .call [(.func 172),pT 47,pT 48],eS 4 8 (.new [(nv 0),(nv 0),(nv 0),(nv 0),(nv 0),(nv 0),(nv 0),(nv 0),(nv 0),(nv 0),(nv 0),(nv 0)] 162) [],eN 5 (.st 12) [pT 8,pT 49]]) (.seq (.reg [eS 0 50 (.fld 1) [pT 5],eS 1 51 (.ld none) [pT 50],eS 2 52 (.slA 12 1 false true) [pT 8,pT 51],eS 3 53 .call [(.func 102),pT 52],eS 4 54 (.fld 2) [pT 5],eN 5 (.st 1) [pT 54,pT 53]]) (.seq (.reg [eS 0 55 (.ld (some 3)) [pT 5],eN 1 (.st 3) [pT 2,pT 55],eS 2 3 .mov [pC (nv 0)]]) .ret)))))))))))⟩
theorem xf111_ok:qb3 Tryz.prog 111=some xf111:=by kernel_rfl
def xf115:XF:=⟨42,[(.tmp 6)],(.seq (.reg [eS 0 3 (.box 76) [pT 0],eS 1 6 .mov [pC (nv 0)]]) (.seq (.seq (.reg [eS 0 10 (.ld (some 3)) [pT 3],eS 1 11 .call [(.func 174),pT 10],eS 2 12 (.un .not) [pT 11]]) (.cond (.tmp 12) (.seq (.reg [eS 0 6 .mov [pC (nv 0)]]) .ret) .skip)) (.seq (.reg [eS 0 13 (.fld 0) [pT 3],eS 1 14 (.ld none) [pT 13],eS 2 15 .mov [pT 1],eS 4 17 (.fld 0) [pT 3],⟨none,(.ld none),[pT 17],(some 18),5,true,[]⟩,eS 6 19 .mov [pT 2],eS 8 7 (.new [(nv 0),(nv 0),(nv 0),(nv 0),(nv 0),(nv 0),(nv 0),(nv 0),(nv 0),(nv 0),(nv 0),(nv 0)] 162) [],eS 9 8 (.new [(nv 0),(nv 0),(nv 0),(nv 0),(nv 0),(nv 0),(nv 0),(nv 0),(nv 0),(nv 0),(nv 0),(nv 0)] 162) [],⟨none,.call,[(.func 172),pT 14,pT 15],(some 16),3,false,[5]⟩,eS 7 20 .call [(.func 172),pT 18,pT 19],eN 10 (.st 12) [pT 7,pT 16],eN 11 (.st 12) [pT 8,pT 20]]) (.seq (.seq (.reg [eS 0 21 (.fld 1) [pT 3],eS 1 22 (.ld none) [pT 21],eS 2 23 .mov [pC (nv 0)]]) (.block 0 (.loop (.seq (.reg [eS 0 24 (.bin .lss 0) [pT 23,pT 22]]) (.seq (.cond (.tmp 24) .skip (.exit 0)) (.seq (.block 1 (.seq (.reg [eS 0 25 .mov [pT 23],eS 1 9 .mov [pT 25]]) (.reg [eS 0 26 .mov [pT 9],eS 1 27 .mov [pT 9],eS 2 28 (.ixA 12 1) [pT 7,pT 27],eS 3 29 (.ld none) [pT 28],eS 4 30 .mov [pT 9],eS 5 31 (.ixA 12 1) [pT 8,pT 30],eS 6 32 (.ld none) [pT 31],eS 7 33 (.bin .sub 0) [pT 29,pT 32],eS 8 34 (.fld 0) [pT 3],eS 9 35 (.ld none) [pT 34],eS 10 36 .call [(.func 175),pT 33,pT 35],eS 11 37 (.ixA 12 1) [pT 7,pT 26],eN 12 (.st 1) [pT 37,pT 36]]))) (.reg [eS 0 38 (.bin .add 0) [pT 23,pC (nv 1)],eS 1 23 .mov [pT 38]]))))))) (.seq (.reg [eS 0 39 (.ld (some 3)) [pT 3],eS 1 40 (.ld (some 12)) [pT 7],eS 2 41 .call [(.func 176),pT 39,pT 40],eS 3 6 .mov [pT 41]]) .ret)))))⟩
theorem xf115_ok:qb3 Tryz.prog 115=some xf115:=by kernel_rfl
def xf131:XF:=⟨74,[(.tmp 6)],(.seq (.reg [eS 0 3 (.box 76) [pT 0],eS 1 6 .mov [pC (nv 0)]]) (.seq (.seq (.reg [eS 0 13 (.ld (some 3)) [pT 3],eS 1 14 .call [(.func 174),pT 13],eS 2 15 (.un .not) [pT 14]]) (.cond (.tmp 15) (.seq (.reg [eS 0 6 .mov [pC (nv 0)]]) .ret) .skip)) (.seq (.reg [eS 0 16 (.fld 0) [pT 3],eS 1 17 (.ld none) [pT 16],eS 2 18 .mov [pT 1],eS 3 19 .call [(.func 172),pT 17,pT 18],eS 4 7 (.new [(nv 0),(nv 0),(nv 0),(nv 0),(nv 0),(nv 0),(nv 0),(nv 0),(nv 0),(nv 0),(nv 0),(nv 0)] 162) [],eN 5 (.st 12) [pT 7,pT 19]]) (.seq (.reg [eS 0 8 (.new [(nv 0),(nv 0),(nv 0),(nv 0),(nv 0),(nv 0),(nv 0),(nv 0),(nv 0),(nv 0),(nv 0),(nv 0)] 162) []]) (.seq (.seq (.reg [eS 0 20 (.ld (some 3)) [pT 3],eS 1 21 .mov [pT 2],eS 2 22 .call [(.func 186),pT 20,pT 21]]) (.block 0 (.range (.tmp 22) #[23] (.reg [eS 0 9 .mov [pT 23]]) (.block 1 (.seq (.reg [eS 0 24 (.fld 1) [pT 3],eS 1 25 (.ld none) [pT 24],eS 2 26 (.bin .sub 0) [pT 25,pC (nv 1)],eS 3 27 (.ixA 12 1) [pT 8,pT 26],eS 4 28 (.ld none) [pT 27],eS 5 10 .mov [pT 28]]) (.seq (.seq (.reg [eS 0 29 (.fld 1) [pT 3],eS 1 30 (.ld none) [pT 29],eS 2 31 (.bin .sub 0) [pT 30,pC (nv 1)],eS 3 11 .mov [pT 31]]) (.block 2 (.loop (.seq (.seq (.reg [eS 0 32 .mov [pT 11],eS 1 33 (.bin .gtr 0) [pT 32,pC (nv 0)]]) (.cond (.tmp 33) .skip (.exit 2))) (.seq (.block 3 (.reg [eS 0 36 .mov [pT 11],eS 1 37 .mov [pT 11],eS 2 38 (.bin .sub 0) [pT 37,pC (nv 1)],eS 3 39 (.ixA 12 1) [pT 8,pT 38],eS 4 40 (.ld none) [pT 39],eS 5 41 (.ixA 12 1) [pT 8,pT 36],eN 6 (.st 1) [pT 41,pT 40]])) (.reg [eS 0 34 .mov [pT 11],eS 1 35 (.bin .sub 0) [pT 34,pC (nv 1)],eS 2 11 .mov [pT 35]])))))) (.seq (.reg [eS 0 42 (.ixA 12 1) [pT 8,pC (nv 0)],eN 1 (.st 1) [pT 42,pC (nv 0)]]) (.seq (.reg [eS 0 43 (.fld 1) [pT 3],eS 1 44 (.ld none) [pT 43],eS 2 45 .mov [pC (nv 0)]]) (.block 4 (.loop (.seq (.reg [eS 0 46 (.bin .lss 0) [pT 45,pT 44]]) (.seq (.cond (.tmp 46) .skip (.exit 4)) (.seq (.block 5 (.seq (.reg [eS 0 47 .mov [pT 45],eS 1 12 .mov [pT 47]]) (.reg [eS 0 48 .mov [pT 12],eS 1 49 .mov [pT 12],eS 2 50 (.ixA 12 1) [pT 8,pT 49],eS 3 51 (.ld none) [pT 50],eS 4 52 .mov [pT 10],eS 5 53 (.fld 2) [pT 3],eS 6 54 (.ld none) [pT 53],eS 7 55 .mov [pT 12],eS 8 56 (.ixS 1) [pT 54,pT 55],eS 9 57 (.ld none) [pT 56],eS 10 58 (.bin .mul 0) [pT 52,pT 57],eS 11 59 (.bin .sub 0) [pT 51,pT 58],eS 12 60 .mov [pT 9],eS 13 61 .mov [pT 12],eS 14 62 (.ixA 12 1) [pT 7,pT 61],eS 15 63 (.ld none) [pT 62],eS 16 64 (.bin .mul 0) [pT 60,pT 63],eS 17 65 (.bin .add 0) [pT 59,pT 64],eS 18 66 (.fld 0) [pT 3],eS 19 67 (.ld none) [pT 66],eS 20 68 .call [(.func 175),pT 65,pT 67],eS 21 69 (.ixA 12 1) [pT 8,pT 48],eN 22 (.st 1) [pT 69,pT 68]]))) (.reg [eS 0 70 (.bin .add 0) [pT 45,pC (nv 1)],eS 1 45 .mov [pT 70]])))))))))))))) (.seq (.reg [eS 0 71 (.ld (some 3)) [pT 3],eS 1 72 (.ld (some 12)) [pT 8],eS 2 73 .call [(.func 176),pT 71,pT 72],eS 3 6 .mov [pT 73]]) .ret))))))⟩
theorem xf131_ok:qb3 Tryz.prog 131=some xf131:=by kernel_rfl
def xf135:XF:=⟨25,[(.tmp 6)],(.seq (.reg [eS 0 6 .mov [(.const (.slice none 0 0))]]) (.seq (.reg [eS 0 9 (.bsl [] 0 [] 3) [],eS 1 7 .mov [pT 9]]) (.seq (.seq (.reg [eS 0 8 .mov [pC (nv 0)]]) (.block 0 (.loop (.seq (.seq (.reg [eS 0 10 .mov [pT 8],eS 1 11 .mov [pT 1],eS 2 12 (.bin .lss 0) [pT 10,pT 11]]) (.cond (.tmp 12) .skip (.exit 0))) (.seq (.block 1 (.seq (.reg [eS 0 15 .mov [pT 7],eS 1 16 .mov [pT 2],eS 2 17 .mov [pT 0],eS 3 18 (.bin .rem 0) [pT 16,pT 17],eS 4 19 (.bsl [(nv 0)] 1 [(0,1)] 3) [pT 18],eS 5 20 (.app 3 1 8) [pT 15,pT 19],eS 6 7 .mov [pT 20]]) (.reg [eS 0 21 .mov [pT 2],eS 1 22 .mov [pT 0],eS 2 23 (.bin .quo 0) [pT 21,pT 22],eS 3 2 .mov [pT 23]]))) (.reg [eS 0 13 .mov [pT 8],eS 1 14 (.bin .add 0) [pT 13,pC (nv 1)],eS 2 8 .mov [pT 14]])))))) (.seq (.reg [eS 0 24 .mov [pT 7],eS 1 6 .mov [pT 24]]) .ret))))⟩
theorem xf135_ok:qb3 Tryz.prog 135=some xf135:=by kernel_rfl
def xf167:XF:=⟨47,[(.tmp 6)],(.seq (.reg [eS 0 3 (.box 76) [pT 0],eS 1 6 .mov [pC (nv 0)]]) (.seq (.reg [eS 0 10 (.fld 0) [pT 3],eS 1 11 (.ld none) [pT 10],eS 2 12 (.fld 1) [pT 3],eS 3 13 (.ld none) [pT 12],eS 4 14 .mov [pT 1],eS 6 16 (.fld 0) [pT 3],⟨none,(.ld none),[pT 16],(some 17),7,true,[]⟩,eS 8 18 (.fld 1) [pT 3],⟨none,(.ld none),[pT 18],(some 19),9,true,[]⟩,eS 10 20 .mov [pT 2],⟨none,.call,[(.func 135),pT 11,pT 13,pT 14],(some 15),5,false,[9,7]⟩,eS 11 21 .call [(.func 135),pT 17,pT 19,pT 20],eS 12 7 .mov [pT 15],eS 13 8 .mov [pT 21]]) (.seq (.seq (.reg [eS 0 9 .mov [pC (nv 0)]]) (.block 0 (.loop (.seq (.seq (.reg [eS 0 22 .mov [pT 9],eS 1 23 (.fld 1) [pT 3],eS 2 24 (.ld none) [pT 23],eS 3 25 (.bin .lss 0) [pT 22,pT 24]]) (.cond (.tmp 25) .skip (.exit 0))) (.seq (.block 1 (.reg [eS 0 28 .mov [pT 7],eS 1 29 .mov [pT 9],eS 2 30 .mov [pT 7],eS 3 31 .mov [pT 9],eS 4 32 (.ixS 1) [pT 30,pT 31],eS 5 33 (.ld none) [pT 32],eS 6 34 .mov [pT 8],eS 7 35 .mov [pT 9],eS 8 36 (.ixS 1) [pT 34,pT 35],eS 9 37 (.ld none) [pT 36],eS 10 38 (.bin .add 0) [pT 33,pT 37],eS 11 39 (.fld 0) [pT 3],eS 12 40 (.ld none) [pT 39],eS 13 41 (.bin .rem 0) [pT 38,pT 40],eS 14 42 (.ixS 1) [pT 28,pT 29],eN 15 (.st 1) [pT 42,pT 41]])) (.reg [eS 0 26 .mov [pT 9],eS 1 27 (.bin .add 0) [pT 26,pC (nv 1)],eS 2 9 .mov [pT 27]])))))) (.seq (.reg [eS 0 43 (.fld 0) [pT 3],eS 1 44 (.ld none) [pT 43],eS 2 45 .mov [pT 7],eS 3 46 .call [(.func 136),pT 44,pT 45],eS 4 6 .mov [pT 46]]) .ret))))⟩
theorem xf167_ok:qb3 Tryz.prog 167=some xf167:=by kernel_rfl
def xf171:XF:=⟨31,[(.tmp 6)],(.seq (.reg [eS 0 6 .mov [(.const (.bool false))]]) (.seq (.seq (.reg [eS 0 10 .mov [pT 0],eS 1 7 .mov [pC (nv 1)],eS 2 8 .mov [pT 10]]) (.block 0 (.loop (.seq (.seq (.reg [eS 0 11 .mov [pT 7],eS 1 12 (.bin .mul 0) [pC (nv 2),pT 11],eS 2 13 .mov [pT 2],eS 3 14 (.bin .leq 0) [pT 12,pT 13]]) (.cond (.tmp 14) .skip (.exit 0))) (.seq (.block 1 (.seq (.reg [eS 0 20 .mov [pT 8],eS 1 21 .mov [pC (nv 0)]]) (.block 2 (.loop (.seq (.reg [eS 0 22 (.bin .lss 0) [pT 21,pT 20]]) (.seq (.cond (.tmp 22) .skip (.exit 2)) (.seq (.block 3 (.seq (.reg [eS 0 23 .mov [pT 21],eS 1 9 .mov [pT 23]]) (.seq (.reg [eS 0 24 .mov [pT 0],eS 1 25 .mov [pT 9],eS 2 26 .mov [pT 7],eS 3 27 .mov [pT 1],eS 4 28 .mov [pT 2],eS 5 29 .call [(.func 203),pT 24,pT 25,pT 26,pT 27,pT 28]]) (.cond (.tmp 29) (.seq (.reg [eS 0 6 .mov [(.const (.bool false))]]) .ret) .skip)))) (.reg [eS 0 30 (.bin .add 0) [pT 21,pC (nv 1)],eS 1 21 .mov [pT 30]])))))))) (.reg [eS 0 15 .mov [pT 7],eS 1 16 (.bin .add 0) [pT 15,pC (nv 1)],eS 2 17 .mov [pT 8],eS 3 18 .mov [pT 0],eS 4 19 (.bin .mul 0) [pT 17,pT 18],eS 5 7 .mov [pT 16],eS 6 8 .mov [pT 19]])))))) (.seq (.reg [eS 0 6 .mov [(.const (.bool true))]]) .ret)))⟩
theorem xf171_ok:qb3 Tryz.prog 171=some xf171:=by kernel_rfl
def xf175:XF:=⟨12,[(.tmp 4)],(.seq (.reg [eS 0 4 .mov [pC (nv 0)]]) (.seq (.reg [eS 0 5 .mov [pT 0],eS 1 6 .mov [pT 1],eS 2 7 (.bin .rem 0) [pT 5,pT 6],eS 3 8 .mov [pT 1],eS 4 9 (.bin .add 0) [pT 7,pT 8],eS 5 10 .mov [pT 1],eS 6 11 (.bin .rem 0) [pT 9,pT 10],eS 7 4 .mov [pT 11]]) .ret))⟩
theorem xf175_ok:qb3 Tryz.prog 175=some xf175:=by kernel_rfl
def xf187:XF:=⟨67,[(.tmp 6)],(.seq (.reg [eS 0 6 .mov [(.const (.slice none 0 0))]]) (.seq (.reg [eS 0 12 (.bsl [] 0 [] 3) [],eS 1 13 .mov [pT 1],eS 2 14 (.app 3 1 8) [pT 12,pT 13],eS 3 7 .mov [pT 14]]) (.seq (.reg [eS 0 15 .mov [pT 2],eS 1 16 .lenS [pT 15],eS 2 17 (.bin .sub 0) [pT 16,pC (nv 1)],eS 3 8 .mov [pT 17]]) (.seq (.seq (.reg [eS 0 18 .mov [pT 7],eS 1 19 .lenS [pT 18],eS 2 20 (.bin .sub 0) [pT 19,pC (nv 1)],eS 3 9 .mov [pT 20]]) (.block 0 (.loop (.seq (.seq (.reg [eS 0 21 .mov [pT 9],eS 1 22 .mov [pT 8],eS 2 23 (.bin .geq 0) [pT 21,pT 22]]) (.cond (.tmp 23) .skip (.exit 0))) (.seq (.block 1 (.seq (.reg [eS 0 26 .mov [pT 7],eS 1 27 .mov [pT 9],eS 2 28 (.ixS 1) [pT 26,pT 27],eS 3 29 (.ld none) [pT 28],eS 4 10 .mov [pT 29]]) (.seq (.reg [eS 0 11 .mov [pC (nv 0)]]) (.block 2 (.loop (.seq (.seq (.reg [eS 0 30 .mov [pT 11],eS 1 31 .mov [pT 8],eS 2 32 (.bin .leq 0) [pT 30,pT 31]]) (.cond (.tmp 32) .skip (.exit 2))) (.seq (.block 3 (.reg [eS 0 35 .mov [pT 7],eS 1 36 .mov [pT 9],eS 2 37 .mov [pT 8],eS 3 38 (.bin .sub 0) [pT 36,pT 37],eS 4 39 .mov [pT 11],eS 5 40 (.bin .add 0) [pT 38,pT 39],eS 6 41 .mov [pT 7],eS 7 42 .mov [pT 9],eS 8 43 .mov [pT 8],eS 9 44 (.bin .sub 0) [pT 42,pT 43],eS 10 45 .mov [pT 11],eS 11 46 (.bin .add 0) [pT 44,pT 45],eS 12 47 (.ixS 1) [pT 41,pT 46],eS 13 48 (.ld none) [pT 47],eS 14 49 .mov [pT 0],eS 15 50 .mov [pT 10],eS 16 51 (.bin .sub 0) [pT 49,pT 50],eS 17 52 .mov [pT 2],eS 18 53 .mov [pT 11],eS 19 54 (.ixS 1) [pT 52,pT 53],eS 20 55 (.ld none) [pT 54],eS 21 56 (.bin .mul 0) [pT 51,pT 55],eS 22 57 (.bin .add 0) [pT 48,pT 56],eS 23 58 .mov [pT 0],eS 24 59 (.bin .rem 0) [pT 57,pT 58],eS 25 60 (.ixS 1) [pT 35,pT 40],eN 26 (.st 1) [pT 60,pT 59]])) (.reg [eS 0 33 .mov [pT 11],eS 1 34 (.bin .add 0) [pT 33,pC (nv 1)],eS 2 11 .mov [pT 34]])))))))) (.reg [eS 0 24 .mov [pT 9],eS 1 25 (.bin .sub 0) [pT 24,pC (nv 1)],eS 2 9 .mov [pT 25]])))))) (.seq (.reg [eS 0 61 .mov [pT 7],eS 1 62 .mov [pT 7],eS 2 63 .lenS [pT 62],eS 3 64 .mov [pT 8],eS 4 65 .min2 [pT 63,pT 64],eS 5 66 (.slS 1 false true) [pT 61,pT 65],eS 6 6 .mov [pT 66]]) .ret)))))⟩
theorem xf187_ok:qb3 Tryz.prog 187=some xf187:=by kernel_rfl
def xf203:XF:=⟨65,[(.tmp 10)],(.seq (.reg [eS 0 10 .mov [(.const (.bool false))]]) (.seq (.reg [eS 0 16 .mov [pT 0],eS 1 17 .mov [pT 3],eS 2 18 .call [(.func 172),pT 16,pT 17],eS 3 19 .mov [pT 0],eS 4 20 .mov [pT 1],eS 5 21 .call [(.func 172),pT 19,pT 20],eS 6 11 (.new [(nv 0),(nv 0),(nv 0),(nv 0),(nv 0),(nv 0),(nv 0),(nv 0),(nv 0),(nv 0),(nv 0),(nv 0)] 162) [],eS 7 12 (.new [(nv 0),(nv 0),(nv 0),(nv 0),(nv 0),(nv 0),(nv 0),(nv 0),(nv 0),(nv 0),(nv 0),(nv 0)] 162) [],eN 8 (.st 12) [pT 11,pT 18],eN 9 (.st 12) [pT 12,pT 21]]) (.seq (.reg [eS 0 22 .mov [pT 4],eS 1 23 .mov [pT 2],eS 2 24 (.ixA 12 1) [pT 11,pT 22],eN 3 (.st 1) [pT 24,pC (nv 1)],eS 4 25 (.ixA 12 1) [pT 12,pT 23],eN 5 (.st 1) [pT 25,pC (nv 1)]]) (.seq (.seq (.reg [eS 0 26 .mov [pT 4],eS 1 13 .mov [pT 26]]) (.block 0 (.loop (.seq (.seq (.reg [eS 0 27 .mov [pT 13],eS 1 28 .mov [pT 2],eS 2 29 (.bin .geq 0) [pT 27,pT 28]]) (.cond (.tmp 29) .skip (.exit 0))) (.seq (.block 1 (.seq (.reg [eS 0 32 .mov [pT 13],eS 1 33 (.ixA 12 1) [pT 11,pT 32],eS 2 34 (.ld none) [pT 33],eS 3 14 .mov [pT 34]]) (.seq (.reg [eS 0 15 .mov [pC (nv 0)]]) (.block 2 (.loop (.seq (.seq (.reg [eS 0 35 .mov [pT 15],eS 1 36 .mov [pT 2],eS 2 37 (.bin .leq 0) [pT 35,pT 36]]) (.cond (.tmp 37) .skip (.exit 2))) (.seq (.block 3 (.reg [eS 0 40 .mov [pT 13],eS 1 41 .mov [pT 2],eS 2 42 (.bin .sub 0) [pT 40,pT 41],eS 3 43 .mov [pT 15],eS 4 44 (.bin .add 0) [pT 42,pT 43],eS 5 45 .mov [pT 13],eS 6 46 .mov [pT 2],eS 7 47 (.bin .sub 0) [pT 45,pT 46],eS 8 48 .mov [pT 15],eS 9 49 (.bin .add 0) [pT 47,pT 48],eS 10 50 (.ixA 12 1) [pT 11,pT 49],eS 11 51 (.ld none) [pT 50],eS 12 52 .mov [pT 14],eS 13 53 .mov [pT 15],eS 14 54 (.ixA 12 1) [pT 12,pT 53],eS 15 55 (.ld none) [pT 54],eS 16 56 (.bin .mul 0) [pT 52,pT 55],eS 17 57 (.bin .sub 0) [pT 51,pT 56],eS 18 58 .mov [pT 0],eS 19 59 .call [(.func 175),pT 57,pT 58],eS 20 60 (.ixA 12 1) [pT 11,pT 44],eN 21 (.st 1) [pT 60,pT 59]])) (.reg [eS 0 38 .mov [pT 15],eS 1 39 (.bin .add 0) [pT 38,pC (nv 1)],eS 2 15 .mov [pT 39]])))))))) (.reg [eS 0 30 .mov [pT 13],eS 1 31 (.bin .sub 0) [pT 30,pC (nv 1)],eS 2 13 .mov [pT 31]])))))) (.seq (.reg [eS 0 61 .mov [pT 2],eS 1 62 (.slA 12 1 false true) [pT 11,pT 61],eS 2 63 .call [(.func 146),pT 62,(.func 218)],eS 3 64 (.un .not) [pT 63],eS 4 10 .mov [pT 64]]) .ret)))))⟩
theorem xf203_ok:qb3 Tryz.prog 203=some xf203:=by kernel_rfl
end Go.Sim

namespace Go.Sim.Pf
open Go Go.Proofs
theorem tmod_mod {n p:Int} (hp:0<p):(n.tmod p+p).tmod p=n % p:=by
  have h1:=Int.tmod_lt_of_pos n hp
  have h2:=Int.lt_tmod_of_pos n hp
  rw [Int.tmod_eq_emod_of_nonneg (by omega),Int.add_emod_right,Int.tmod_def,Int.sub_mul_emod_self_left]
theorem qpk {n p:Int} {H:AH} (hp:0<p) (hp2:p≤1000):FN Tryz.prog 175 [.int .i64 n,.int .i64 p] H (fun v H'=>v=.int .i64 (n % p)∧H'=H):=by
  refine FN.of_compZ qbs xf175_ok (Nat.le_of_ble_eq_true rfl) ?_
  have h1:=Int.tmod_lt_of_pos n hp
  have h2:-p<n.tmod p:=by have:=Int.lt_tmod_of_pos n hp;omega
  simp (disch:=omega) only [↓qbk,zC,zE,zF,zG,zH,Nat.reduceEqDiff,Nat.reduceLT,Nat.reduceLeDiff,↓reduceIte,xf175]
  rw [tmod_mod hp]
def digs (p:Nat):Nat→Nat→List Nat
  | _,0=>[]
  | a,k+1=>a % p :: digs p (a / p) k
theorem qbp (p:Nat):∀ (k a:Nat),(digs p a k).length=k
  | 0,_=>rfl
  | k+1,a=>by simp [digs,qbp p k]
theorem qrx (p:Nat):∀ (k a:Nat),digs p a (k+1)=digs p a k++[a / p ^ k % p]
  | 0,a=>by simp [digs]
  | k+1,a=>by
    rw [digs,qrx p k,digs]
    simp [Nat.div_div_eq_div_mul,Nat.pow_succ,Nat.mul_comm]
theorem set_fill {d:List Nat} {k n x:Nat} (hd:d.length=k) (hk:k<n):(d++List.replicate (n-k) 0).set k x=d++[x]++List.replicate (n-(k+1)) 0:=by
  obtain⟨m,hm⟩:∃ m,n-k=m+1:=⟨n-k-1,by omega⟩
  rw [List.set_append_right _ _ (by omega),hd,Nat.sub_self,hm,show n-(k+1)=m by omega,List.replicate_succ]
  simp
theorem qfc {p a:Nat} {H:AH} (hp:1<p) (hp2:p≤1000) (ha:a<1000000):FN Tryz.prog 172 [nv p,nv a] H (fun v H'=>v=.agg ((digs p a 12).map nv).toArray∧H'=H):=by
  refine FN.gc0 (FN.of_compZ qbs xf172_ok (Nat.le_of_ble_eq_true rfl) ?_)
  simp (disch:=(first|omega|(simp only [List.length_map];omega)|(simp only [qbf]<;>omega)|(simp only [qbd];done)|rfl)) only [↓qbk,zC,zD,zF,zG,zH,Nat.reduceEqDiff,Nat.reduceLT,Nat.reduceLeDiff,↓reduceIte,xf172]
  refine LZ.nat 12 (fun k s H'=>s.env 0=nv p∧s.env 1=nv (a / p ^ k)∧s.env 4=.pointer (some ⟨H.length,0,none⟩)∧s.env 5=.pointer (some ⟨H.length+1,0,none⟩)∧s.env 7=nv k∧s.ds=[] ∧
     H'=H++[.cells ((List.replicate 12 0).map nv) 162 none false,.cells ((digs p a k++List.replicate (12-k) 0).map nv) 162 none false]) ?_ ?_ ?_
  · simp (disch:=(first|omega|(simp only [List.length_map];omega)|(simp only [qbf]<;>omega)|(simp only [qbd];done)|rfl)) only [↓qbk,zC,zD,zF,zG,zH,Nat.reduceEqDiff,Nat.reduceLT,Nat.reduceLeDiff,↓reduceIte]
    simp
    rfl
  · rintro k s H1 hk ⟨e0,e1,e4,e5,e7,eds,rfl⟩
    have hak:a / p ^ k<1000000:=Nat.lt_of_le_of_lt (Nat.div_le_self _ _) ha
    have hl:(digs p a k++List.replicate (12-k) 0).length=12:=by simp [qbp];omega
    simp (disch:=(first|omega|(simp only [List.length_map];omega)|(simp only [qbf]<;>omega)|(simp only [qbd];done)|rfl)) only [↓qbk,zC,zD,zF,zG,zH,Nat.reduceEqDiff,Nat.reduceLT,Nat.reduceLeDiff,↓reduceIte,e0,e1,e4,e5,e7,eds,hk]
    rw [set_fill (qbp _ _ _) hk,Nat.div_div_eq_div_mul,Nat.pow_succ,qrx]
    exact⟨rfl,rfl⟩
  · rintro s H1 ⟨e0,e1,e4,e5,e7,eds,rfl⟩
    have hl:(digs p a 12++List.replicate (12-12) 0).length=12:=by simp [qbp]
    simp (disch:=(first|omega|(simp only [List.length_map];omega)|(simp only [qbf]<;>omega)|(simp only [qbd];done)|rfl)) only [↓qbk,zC,zD,zF,zG,zH,Nat.reduceEqDiff,Nat.reduceLT,Nat.reduceLeDiff,↓reduceIte,e0,e1,e4,e5,e7,eds,xf172]
    simp [ground,scal]
theorem pow_fit {p e k:Nat} (hp:2≤p) (hk:k<e) (hq:p ^ e≤64):p ^ k≤64 / p:=by
  rw [Nat.le_div_iff_mul_le (by omega),←Nat.pow_succ]
  exact Nat.le_trans (Nat.pow_le_pow_right (by omega) hk) hq
theorem qc1 {p e k:Nat} (hp:2≤p) (hk:k≤e) (hq:p ^ e≤64):p ^ k≤64:=Nat.le_trans (Nat.pow_le_pow_right (by omega) hk) hq
theorem qgd {p e b n c:Nat} {H:AH} (hp:2≤p) (he:1≤e) (he6:e≤6) (hn:n=e) (hq:p ^ e≤64):FN Tryz.prog 174 [fldv p e b n c] H (fun v H'=>v=.bool true∧H'=H):=by
  refine FN.gc0 (FN.of_compZ qbs xf174_ok (Nat.le_of_ble_eq_true rfl) ?_)
  have n1:¬p<2:=by omega
  have n2:¬e<1:=by omega
  have n3:¬6<e:=by omega
  simp (disch:=(first|omega|(simp only [List.length_map];omega)|(simp only [qbf]<;>omega)|(simp only [qbd];done)|rfl)) only [↓qbk,zC,zD,zF,zG,zH,Nat.reduceEqDiff,Nat.reduceLT,Nat.reduceLeDiff,↓reduceIte,xf174,n1,n2,n3,hn]
  refine LZ.nat e (fun k s H'=>s.env 1=.pointer (some ⟨H.length,0,none⟩)∧s.env 3=nv (p ^ k)∧s.env 26=nv e∧s.env 27=nv k∧s.ds=[] ∧
     H'=H++[.cells [nv p,nv e,.slice (some ⟨b,0,none⟩) e c] 76 none false]) ?_ ?_ ?_
  · simp (disch:=(first|omega|(simp only [List.length_map];omega)|(simp only [qbf]<;>omega)|(simp only [qbd];done)|rfl)) only [↓qbk,zC,zD,zF,zG,zH,Nat.reduceEqDiff,Nat.reduceLT,Nat.reduceLeDiff,↓reduceIte]
    simp
  · rintro k s H1 hk ⟨e1,e3,e26,e27,eds,rfl⟩
    have h1:¬64 / p<p ^ k:=by have:=pow_fit hp hk hq;omega
    have h2:p ^ k*p≤64:=by rw [←Nat.pow_succ];exact qc1 hp hk hq
    simp (disch:=(first|omega|(simp only [List.length_map];omega)|(simp only [qbf]<;>omega)|(simp only [qbd];done)|rfl)) only [↓qbk,zC,zD,zF,zG,zH,Nat.reduceEqDiff,Nat.reduceLT,Nat.reduceLeDiff,↓reduceIte,e1,e3,e26,e27,eds,hk,h1]
    simp [Nat.pow_succ]
  · rintro s H1 ⟨e1,e3,e26,e27,eds,rfl⟩
    simp (disch:=(first|omega|(simp only [List.length_map];omega)|(simp only [qbf]<;>omega)|(simp only [qbd];done)|rfl)) only [↓qbk,zC,zD,zF,zG,zH,Nat.reduceEqDiff,Nat.reduceLT,Nat.reduceLeDiff,↓reduceIte,e1,e3,e26,e27,eds,xf174]
    simp [ground,scal]
def num (p:Nat):List Nat→Nat
  | []=>0
  | d :: l=>d+p*num p l
theorem qm4 {p:Nat} (hp:1≤p):∀ (l:List Nat),(∀ d∈l,d<p)→num p l<p ^ l.length
  | [],_=>by simp [num]
  | d :: l,h=>by
    have h1:=qm4 hp l (fun x hx=>h x (by simp [hx]))
    have h2:=h d (by simp)
    simp only [num,List.length_cons,Nat.pow_succ]
    have:p*(num p l+1)≤p*p ^ l.length:=Nat.mul_le_mul_left p h1
    rw [Nat.mul_add,Nat.mul_one] at this
    rw [Nat.mul_comm (p ^ l.length)]
    omega
theorem qjh {l:List Nat} {k:Nat} (h:k<l.length):l.drop k=l.getD k 0 :: l.drop (k+1):=by
  rw [List.drop_eq_getElem_cons h,List.getD_eq_getElem?_getD,List.getElem?_eq_getElem h];rfl
theorem qrj {p e b n c:Nat} {d:List Nat} {H:AH} (hp:2≤p) (he6:e≤6) (hq:p ^ e≤64) (hd:d.length=12) (hdp:∀ x∈d.take e,x<p) :
    FN Tryz.prog 176 [fldv p e b n c,.agg (d.map nv).toArray] H (fun v H'=>v=nv (num p (d.take e))∧H'=H):=by
  refine FN.gc0 (FN.of_compZ qbs xf176_ok (Nat.le_of_ble_eq_true rfl) ?_)
  simp (disch:=omega) only [↓qbk,zC,zE,zF,zG,zH,Nat.reduceEqDiff,Nat.reduceLT,Nat.reduceLeDiff,↓reduceIte,xf176]
  refine LZ.nat e (fun k s H'=>s.env 2=.pointer (some ⟨H.length,0,none⟩)∧s.env 3=.pointer (some ⟨H.length+1,0,none⟩)∧s.env 5=nv (num p ((d.take e).drop (e-k)))∧s.env 6=.int .i64 ((e:Int)-1-k)∧s.ds=[] ∧
     H'=H++[.cells [nv p,nv e,.slice (some ⟨b,0,none⟩) n c] 76 none false,.cells (d.map nv) 162 none false]) ?_ ?_ ?_
  · simp (disch:=omega) only [↓qbk,zC,zE,zF,zG,zH,↓reduceIte]
    have:(d.take e).drop e=[]:=by apply List.drop_eq_nil_of_le;simp;omega
    simp [this,num]
  · rintro k s H1 hk ⟨e2,e3,e5,e6,eds,rfl⟩
    have hi:((e:Int)-1-k)=((e-1-k:Nat):Int):=by omega
    rw [hi] at e6
    have hlen:(d.take e).length=e:=by simp;omega
    have hcons:=qjh (l:=d.take e) (k:=e-1-k) (by omega)
    rw [show e-1-k+1=e-k by omega] at hcons
    have hn:=qm4 (p:=p) (by omega) ((d.take e).drop (e-1-k)) (fun x hx=>hdp x (List.mem_of_mem_drop hx))
    have hpw:p ^ ((d.take e).drop (e-1-k)).length≤64:=by
      refine qc1 hp ?_ hq
      simp;omega
    rw [hcons] at hpw hn
    rw [num] at hn
    have hgd:(d.take e).getD (e-1-k) 0=d.getD (e-1-k) 0:=by
      simp only [List.getD_eq_getElem?_getD,List.getElem?_take]
      rw [if_pos (by omega)]
    rw [hgd] at hn hcons hpw
    have hc:=Nat.mul_comm (num p ((d.take e).drop (e-k))) p
    generalize hA:num p ((d.take e).drop (e-k))=A at *
    have h1:A*p<1000:=by omega
    have h2:A*p+d.getD (e-1-k) 0<1000:=by omega
    have h0:(0:Int)≤((e-1-k:Nat):Int):=by omega
    simp (disch:=omega) only [↓qbk,zC,zD,zF,zG,zH,Nat.reduceEqDiff,Nat.reduceLT,Nat.reduceLeDiff,↓reduceIte,e2,e3,e5,e6,eds,h1,h2]
    simp (disch:=(first|omega|(simp only [List.length_map];omega)|(simp only [qbf]<;>omega)|(simp only [qbd];done)|rfl)) only [↓qbk,zC,zE,zF,zG,zH,Nat.reduceEqDiff,Nat.reduceLT,Nat.reduceLeDiff,↓reduceIte,e2,e3,e5,e6,eds]
    rw [show e-(k+1)=e-1-k by omega,hcons,num,hA]
    refine⟨?_,?_⟩
    · rw [hc,Nat.add_comm]
    · congr 1;omega
  · rintro s H1 ⟨e2,e3,e5,e6,eds,rfl⟩
    have hneg:¬((0:Nat):Int)≤(e:Int)-1-e:=by omega
    simp (disch:=omega) only [↓qbk,zC,zE,zF,zG,zH,↓reduceIte,e2,e3,e5,e6,eds,xf176,hneg]
    simp [ground,scal]
end Go.Sim.Pf

namespace Go.Sim.Pf
open Go Go.Proofs
theorem qfs {p e a:Nat} {H:AH} (hp:2≤p) (hp2:p≤1000) (he6:e≤12) (ha:a<1000000) :
    FN Tryz.prog 135 [nv p,nv e,nv a] H (fun v H'=>H'=H++[.cells ((digs p a e).map nv) 3 (if e=0 then none else some 1) false]∧v=.slice (some ⟨H.length,0,none⟩) e e):=by
  refine FN.mono (FN.gc1 (R:=fun v x=>v=.slice (some ⟨H.length,0,none⟩) e e∧x=.cells ((digs p a e).map nv) 3 (if e=0 then none else some 1) false) (FN.of_compZ qbs xf135_ok (Nat.le_of_ble_eq_true rfl) ?_)) ?_
  · simp (disch:=omega) only [↓qbk,zC,zD,zF,zG,zH,↓reduceIte,xf135,qbv]
    refine LZ.nat e (fun k s H'=>s.env 0=nv p∧s.env 1=nv e∧s.env 2=nv (a / p ^ k)∧s.env 8=nv k∧s.ds=[] ∧
      ∃ b,s.env 7=.slice (some ⟨b,0,none⟩) k k∧H.length≤b∧H'[b]? = some (.cells ((digs p a k).map nv) 3 (if k=0 then none else some 1) false)∧Keep H.length H H') ?_ ?_ ?_
    · simp (disch:=omega) only [↓qbk,zC,zD,zF,zG,zH,Nat.reduceEqDiff,Nat.reduceLT,Nat.reduceLeDiff,↓reduceIte]
      exact⟨by simp,H.length,rfl,Nat.le_refl _,by rw [qh6];rfl,Keep.app (Nat.le_refl _) _⟩
    · rintro k s H1 hk ⟨e0,e1,e2,e8,eds,b,e7,hb,hb1,hkeep⟩
      have hak:a / p ^ k<1000000:=Nat.lt_of_le_of_lt (Nat.div_le_self _ _) ha
      simp (disch:=omega) only [↓qbk,zC,zD,zF,zG,zH,Nat.reduceEqDiff,Nat.reduceLT,Nat.reduceLeDiff,↓reduceIte,e0,e1,e2,e8,e7,eds,hk,qbv,putL]
      obtain⟨H2,e,hl,hk2⟩:=app_nv (H:=H1++[.cells [nv (a / p ^ k % p)] 3 none false]) (e:=3) (bytes:=8) (b:=b) (b2:=H1.length) (o2:=0) (n:=k) (m:=1) (c2:=1) (l:=digs p a k) (l2:=[a / p ^ k % p])
        (qcv hb1) (qbp _ _ _).symm (by split<;>simp) qh6 rfl rfl (by omega) (by simp) (by omega) (by omega)
      rw [e]
      simp (disch:=omega) only [↓qbk,zC,zD,zF,zG,zH,Nat.reduceEqDiff,Nat.reduceLT,Nat.reduceLeDiff,↓reduceIte,e0,e1,e2,e8,e7,eds,hk]
      have hl':H2.length=H1.length+1:=by simpa using hl
      rw [Nat.div_div_eq_div_mul,←Nat.pow_succ]
      refine⟨rfl,H1.length+1,rfl,by have:=hkeep.1;omega,?_,hkeep.step hb hl hk2⟩
      rw [←hl',qh6,qrx];rfl
    · rintro s H1 ⟨e0,e1,e2,e8,eds,b,e7,hb,hb1,hkeep⟩
      simp (disch:=omega) only [↓qbk,zC,zD,zF,zG,zH,Nat.reduceEqDiff,Nat.reduceLT,Nat.reduceLeDiff,↓reduceIte,e0,e1,e2,e8,e7,eds,xf135]
      exact gc1_nv hb hb1 hkeep rfl
  · rintro v H' ⟨x,rfl,rfl,rfl⟩
    exact⟨rfl,rfl⟩
end Go.Sim.Pf

namespace Go.Sim.Pf
open Go Go.Proofs
theorem mod_specN {n p:Nat} {H:AH} (hp:0<p) (hp2:p≤1000):FN Tryz.prog 175 [nv n,nv p] H (fun v H'=>v=nv (n % p)∧H'=H):=by
  have:=qpk (n:=(n:Int)) (p:=(p:Int)) (H:=H) (by omega) (by omega)
  exact this
theorem qpm {Z X:List Nat} {k:Nat} (hk:k<X.length) (hz:Z.length=X.length):(Z.take k++X.drop k).getD k 0=X.getD k 0:=by
  simp only [List.getD_eq_getElem?_getD]
  rw [List.getElem?_append_right (by simp;omega),List.getElem?_drop]
  congr 2
  simp;omega
theorem mix_set {Z X:List Nat} {k:Nat} (hk:k<X.length) (hz:Z.length=X.length):(Z.take k++X.drop k).set k (Z.getD k 0)=Z.take (k+1)++X.drop (k+1):=by
  have hl:(Z.take k).length=k:=by simp;omega
  rw [List.set_append_right _ _ (by omega),hl,Nat.sub_self,List.drop_eq_getElem_cons hk,List.set_cons_zero,List.take_add_one,List.append_assoc]
  congr 1
  rw [List.getD_eq_getElem?_getD,List.getElem?_eq_getElem (by omega)]
  simp
theorem qfd {Z X:List Nat} {k:Nat} (hk:k≤X.length) (hz:Z.length=X.length):(Z.take k++X.drop k).length=X.length:=by simp;omega
theorem qhm (p:Nat):∀ (n a k:Nat),k≤n→(digs p a n).take k=digs p a k
  | _,_,0,_=>by simp [digs]
  | 0,_,k+1,h=>by omega
  | n+1,a,k+1,h=>by
    simp only [digs,List.take_succ_cons]
    rw [qhm p n (a / p) k (by omega)]
theorem qd5 {p:Nat} (hp:0<p):∀ (k a:Nat),∀ d∈digs p a k,d<p
  | 0,_,d,h=>by simp [digs] at h
  | k+1,a,d,h=>by
    simp only [digs,List.mem_cons] at h
    rcases h with rfl|h
    · exact Nat.mod_lt _ hp
    · exact qd5 hp k _ d h
def addL (p:Nat) (x y:List Nat):List Nat:=List.zipWith (fun a b=>(a+b) % p) x y
def addF (p e a b:Nat):Nat:=num p (addL p (digs p a e) (digs p b e))
theorem getD_lt {l:List Nat} {p k:Nat} (hp:0<p) (h:∀ d∈l,d<p):l.getD k 0<p:=by
  rw [List.getD_eq_getElem?_getD]
  cases hk:l[k]? with
  | none=>simpa using hp
  | some x=>exact h x (List.mem_of_getElem? hk)
def subL (p:Nat) (x y:List Nat):List Nat:=List.zipWith (fun a b=>(a+p-b) % p) x y
def subF (p e a b:Nat):Nat:=num p (subL p (digs p a e) (digs p b e))
theorem sub_modN {a b p:Nat} {H:AH} (hb:b<p) (hp:0<p) (hp2:p≤1000):FN Tryz.prog 175 [.int .i64 ((a:Int)-b),nv p] H (fun v H'=>v=nv ((a+p-b) % p)∧H'=H):=by
  have:=qpk (n:=((a:Int)-b)) (p:=(p:Int)) (H:=H) (by omega) (by omega)
  have e:((a:Int)-b) % (p:Int)=(((a+p-b) % p:Nat):Int):=by
    have h1:((a:Int)-b) % (p:Int)=((a:Int)-b+p) % (p:Int):=by simp
    rw [h1]
    have h2:((a:Int)-b+p)=((a+p-b:Nat):Int):=by omega
    rw [h2];rfl
  rw [e] at this
  exact this
theorem add_spec {p e b n c x y:Nat} {H:AH} (hp:2≤p) (he:1≤e) (he6:e≤6) (hn:n=e) (hq:p ^ e≤64) (hx:x<1000) (hy:y<1000) :
    FN Tryz.prog 150 [fldv p e b n c,nv x,nv y] H (fun v H'=>v=nv (addF p e x y)∧H'=H):=by
  have hp64:p≤64:=by have:=qc1 (k:=1) hp he hq;simpa using this
  refine FN.gc0 (FN.of_compZ qbs xf150_ok (Nat.le_of_ble_eq_true rfl) ?_)
  simp (disch:=(first|omega|(simp only [List.length_map];omega)|(simp only [qbf]<;>omega)|(simp only [qbd];done)|rfl)) only [↓qbk,zC,zD,zF,zG,zH,Nat.reduceEqDiff,Nat.reduceLT,Nat.reduceLeDiff,↓reduceIte,xf150]
  refine FZ.use (qgd hp he he6 hn hq) ?_
  simp (disch:=omega) only [↓qbk,zC,zD,zF,zG,zH,Nat.reduceEqDiff,Nat.reduceLT,Nat.reduceLeDiff,↓reduceIte]
  refine FZ.use (qfc (by omega) (by omega) (by omega)) ?_
  simp (disch:=omega) only [↓qbk,zC,zD,zF,zG,zH,↓reduceIte]
  refine FZ.use (qfc (by omega) (by omega) (by omega)) ?_
  have l1:(digs p x 12).length=12:=qbp _ _ _
  have l2:(digs p y 12).length=12:=qbp _ _ _
  simp (disch:=(first|omega|(simp only [List.length_map];omega)|(simp only [qbf]<;>omega)|(simp only [qbd];done)|rfl)) only [↓qbk,zC,zD,zF,zG,zH,Nat.reduceEqDiff,Nat.reduceLT,Nat.reduceLeDiff,↓reduceIte]
  generalize hZ:addL p (digs p x 12) (digs p y 12)=Z
  have lZ:Z.length=12:=by rw [←hZ];simp [addL,qbp]
  have hZg:∀ k,k<12→Z.getD k 0=((digs p x 12).getD k 0+(digs p y 12).getD k 0) % p:=by
    intro k hk
    rw [←hZ]
    simp only [addL,List.getD_eq_getElem?_getD,List.getElem?_zipWith]
    rw [List.getElem?_eq_getElem (by omega),List.getElem?_eq_getElem (by omega)]
    rfl
  refine LZ.nat e (fun k s H'=>s.env 3=.pointer (some ⟨H.length,0,none⟩)∧s.env 7=.pointer (some ⟨H.length+1,0,none⟩)∧s.env 8=.pointer (some ⟨H.length+2,0,none⟩)∧s.env 22=nv e∧s.env 23=nv k∧s.ds=[] ∧
     H'=H++[.cells [nv p,nv e,.slice (some ⟨b,0,none⟩) n c] 76 none false,.cells ((Z.take k++(digs p x 12).drop k).map nv) 162 none false,.cells ((digs p y 12).map nv) 162 none false]) ?_ ?_ ?_
  · simp (disch:=omega) only [↓qbk,zC,zD,zF,zG,zH,Nat.reduceEqDiff,Nat.reduceLT,Nat.reduceLeDiff,↓reduceIte]
    simp
  · rintro k s H1 hk ⟨e3,e7,e8,e22,e23,eds,rfl⟩
    have hml:=qfd (Z:=Z) (X:=digs p x 12) (k:=k) (by omega) (by omega)
    rw [l1] at hml
    have hmg:=qpm (Z:=Z) (X:=digs p x 12) (k:=k) (by omega) (by omega)
    have g1:=getD_lt (k:=k) (by omega) (qd5 (p:=p) (by omega) 12 x)
    have g2:=getD_lt (k:=k) (by omega) (qd5 (p:=p) (by omega) 12 y)
    simp (disch:=omega) only [↓qbk,zC,zD,zF,zG,zH,Nat.reduceEqDiff,Nat.reduceLT,Nat.reduceLeDiff,↓reduceIte,e3,e7,e8,e22,e23,eds,hk,hmg]
    refine FZ.use (mod_specN (by omega) (by omega)) ?_
    simp (disch:=omega) only [↓qbk,zC,zD,zF,zG,zH,Nat.reduceEqDiff,Nat.reduceLT,Nat.reduceLeDiff,↓reduceIte,e3,e7,e8,e22,e23,eds,hk,hmg]
    rw [←hZg k (by omega),mix_set (by omega) (by omega)]
  · rintro s H1 ⟨e3,e7,e8,e22,e23,eds,rfl⟩
    have hml:=qfd (Z:=Z) (X:=digs p x 12) (k:=e) (by omega) (by omega)
    rw [l1] at hml
    have htk:(Z.take e++(digs p x 12).drop e).take e=Z.take e:=by
      rw [List.take_append_of_le_length (by simp;omega),List.take_take,Nat.min_self]
    simp (disch:=(first|omega|(simp only [List.length_map];omega)|(simp only [qbf]<;>omega)|(simp only [qbd];done)|rfl)) only [↓qbk,zC,zD,zF,zG,zH,Nat.reduceEqDiff,Nat.reduceLT,Nat.reduceLeDiff,↓reduceIte,e3,e7,e8,e22,e23,eds]
    refine FZ.use (qrj hp he6 hq hml ?_) ?_
    · rw [htk]
      intro z hz
      have:=List.mem_of_mem_take hz
      rw [←hZ] at this
      simp only [addL] at this
      obtain⟨i,hi,rfl⟩:=List.getElem_of_mem this
      simp only [List.getElem_zipWith]
      exact Nat.mod_lt _ (by omega)
    · simp (disch:=omega) only [↓qbk,zC,zD,zF,zG,zH,↓reduceIte,eds,xf150]
      rw [htk]
      have:Z.take e=addL p (digs p x e) (digs p y e):=by
        rw [←hZ]
        simp only [addL,List.take_zipWith]
        rw [qhm _ _ _ _ (by omega),qhm _ _ _ _ (by omega)]
      rw [this]
      simp [addF,ground,scal]
theorem sub_spec {p e b n c x y:Nat} {H:AH} (hp:2≤p) (he:1≤e) (he6:e≤6) (hn:n=e) (hq:p ^ e≤64) (hx:x<1000) (hy:y<1000) :
    FN Tryz.prog 115 [fldv p e b n c,nv x,nv y] H (fun v H'=>v=nv (subF p e x y)∧H'=H):=by
  have hp64:p≤64:=by have:=qc1 (k:=1) hp he hq;simpa using this
  refine FN.gc0 (FN.of_compZ qbs xf115_ok (Nat.le_of_ble_eq_true rfl) ?_)
  simp (disch:=(first|omega|(simp only [List.length_map];omega)|(simp only [qbf]<;>omega)|(simp only [qbd];done)|rfl)) only [↓qbk,zC,zD,zF,zG,zH,Nat.reduceEqDiff,Nat.reduceLT,Nat.reduceLeDiff,↓reduceIte,xf115]
  refine FZ.use (qgd hp he he6 hn hq) ?_
  simp (disch:=omega) only [↓qbk,zC,zD,zF,zG,zH,Nat.reduceEqDiff,Nat.reduceLT,Nat.reduceLeDiff,↓reduceIte]
  refine FZ.use (qfc (by omega) (by omega) (by omega)) ?_
  simp (disch:=omega) only [↓qbk,zC,zD,zF,zG,zH,↓reduceIte]
  refine FZ.use (qfc (by omega) (by omega) (by omega)) ?_
  have l1:(digs p x 12).length=12:=qbp _ _ _
  have l2:(digs p y 12).length=12:=qbp _ _ _
  simp (disch:=(first|omega|(simp only [List.length_map];omega)|(simp only [qbf]<;>omega)|(simp only [qbd];done)|rfl)) only [↓qbk,zC,zD,zF,zG,zH,Nat.reduceEqDiff,Nat.reduceLT,Nat.reduceLeDiff,↓reduceIte]
  generalize hZ:subL p (digs p x 12) (digs p y 12)=Z
  have lZ:Z.length=12:=by rw [←hZ];simp [subL,qbp]
  have hZg:∀ k,k<12→Z.getD k 0=((digs p x 12).getD k 0+p-(digs p y 12).getD k 0) % p:=by
    intro k hk
    rw [←hZ]
    simp only [subL,List.getD_eq_getElem?_getD,List.getElem?_zipWith]
    rw [List.getElem?_eq_getElem (by omega),List.getElem?_eq_getElem (by omega)]
    rfl
  refine LZ.nat e (fun k s H'=>s.env 3=.pointer (some ⟨H.length,0,none⟩)∧s.env 7=.pointer (some ⟨H.length+1,0,none⟩)∧s.env 8=.pointer (some ⟨H.length+2,0,none⟩)∧s.env 22=nv e∧s.env 23=nv k∧s.ds=[] ∧
     H'=H++[.cells [nv p,nv e,.slice (some ⟨b,0,none⟩) n c] 76 none false,.cells ((Z.take k++(digs p x 12).drop k).map nv) 162 none false,.cells ((digs p y 12).map nv) 162 none false]) ?_ ?_ ?_
  · simp (disch:=omega) only [↓qbk,zC,zD,zF,zG,zH,Nat.reduceEqDiff,Nat.reduceLT,Nat.reduceLeDiff,↓reduceIte]
    simp
  · rintro k s H1 hk ⟨e3,e7,e8,e22,e23,eds,rfl⟩
    have hml:=qfd (Z:=Z) (X:=digs p x 12) (k:=k) (by omega) (by omega)
    rw [l1] at hml
    have hmg:=qpm (Z:=Z) (X:=digs p x 12) (k:=k) (by omega) (by omega)
    have g1:=getD_lt (k:=k) (by omega) (qd5 (p:=p) (by omega) 12 x)
    have g2:=getD_lt (k:=k) (by omega) (qd5 (p:=p) (by omega) 12 y)
    simp (disch:=omega) only [↓qbk,zC,zD,zF,zG,zH,Nat.reduceEqDiff,Nat.reduceLT,Nat.reduceLeDiff,↓reduceIte,e3,e7,e8,e22,e23,eds,hk,hmg]
    simp (disch:=(first|omega|(simp only [List.length_map];omega)|(simp only [qbf]<;>omega)|(simp only [qbd];done)|rfl)) only [↓qbk,zC,zE,zF,zG,zH,Nat.reduceEqDiff,Nat.reduceLT,Nat.reduceLeDiff,↓reduceIte,e3,e7,e8,e22,e23,eds]
    refine FZ.use (sub_modN g2 (by omega) (by omega)) ?_
    simp (disch:=omega) only [↓qbk,zC,zD,zF,zG,zH,Nat.reduceEqDiff,Nat.reduceLT,Nat.reduceLeDiff,↓reduceIte,e3,e7,e8,e22,e23,eds,hk,hmg]
    rw [←hZg k (by omega),mix_set (by omega) (by omega)]
  · rintro s H1 ⟨e3,e7,e8,e22,e23,eds,rfl⟩
    have hml:=qfd (Z:=Z) (X:=digs p x 12) (k:=e) (by omega) (by omega)
    rw [l1] at hml
    have htk:(Z.take e++(digs p x 12).drop e).take e=Z.take e:=by
      rw [List.take_append_of_le_length (by simp;omega),List.take_take,Nat.min_self]
    simp (disch:=(first|omega|(simp only [List.length_map];omega)|(simp only [qbf]<;>omega)|(simp only [qbd];done)|rfl)) only [↓qbk,zC,zD,zF,zG,zH,Nat.reduceEqDiff,Nat.reduceLT,Nat.reduceLeDiff,↓reduceIte,e3,e7,e8,e22,e23,eds]
    refine FZ.use (qrj hp he6 hq hml ?_) ?_
    · rw [htk]
      intro z hz
      have:=List.mem_of_mem_take hz
      rw [←hZ] at this
      simp only [subL] at this
      obtain⟨i,hi,rfl⟩:=List.getElem_of_mem this
      simp only [List.getElem_zipWith]
      exact Nat.mod_lt _ (by omega)
    · simp (disch:=omega) only [↓qbk,zC,zD,zF,zG,zH,↓reduceIte,eds,xf115]
      rw [htk]
      have:Z.take e=subL p (digs p x e) (digs p y e):=by
        rw [←hZ]
        simp only [subL,List.take_zipWith]
        rw [qhm _ _ _ _ (by omega),qhm _ _ _ _ (by omega)]
      rw [this]
      simp [subF,ground,scal]
theorem neg_spec {p e b n c x:Nat} {H:AH} (hp:2≤p) (he:1≤e) (he6:e≤6) (hn:n=e) (hq:p ^ e≤64) (hx:x<1000) :
    FN Tryz.prog 96 [fldv p e b n c,nv x] H (fun v H'=>v=nv (subF p e 0 x)∧H'=H):=by
  refine FN.gc0 (FN.of_compZ qbs xf96_ok (Nat.le_of_ble_eq_true rfl) ?_)
  simp (disch:=(first|omega|(simp only [List.length_map];omega)|(simp only [qbf]<;>omega)|(simp only [qbd];done)|rfl)) only [↓qbk,zC,zD,zF,zG,zH,Nat.reduceEqDiff,Nat.reduceLT,Nat.reduceLeDiff,↓reduceIte,xf96]
  refine FZ.use (sub_spec hp he he6 hn hq (by omega) hx) ?_
  simp (disch:=omega) only [↓qbk,zC,zD,zF,zG,zH,↓reduceIte,xf96]
  simp [ground,scal]
theorem size_spec {p e b n c:Nat} {H:AH} (hp:2≤p) (he:1≤e) (he6:e≤6) (hn:n=e) (hq:p ^ e≤64) :
    FN Tryz.prog 210 [fldv p e b n c] H (fun v H'=>v=nv (p ^ e)∧H'=H):=by
  refine FN.gc0 (FN.of_compZ qbs xf210_ok (Nat.le_of_ble_eq_true rfl) ?_)
  simp (disch:=(first|omega|(simp only [List.length_map];omega)|(simp only [qbf]<;>omega)|(simp only [qbd];done)|rfl)) only [↓qbk,zC,zD,zF,zG,zH,Nat.reduceEqDiff,Nat.reduceLT,Nat.reduceLeDiff,↓reduceIte,xf210]
  refine FZ.use (qgd hp he he6 hn hq) ?_
  simp (disch:=(first|omega|(simp only [List.length_map];omega)|(simp only [qbf]<;>omega)|(simp only [qbd];done)|rfl)) only [↓qbk,zC,zD,zF,zG,zH,Nat.reduceEqDiff,Nat.reduceLT,Nat.reduceLeDiff,↓reduceIte]
  refine LZ.nat e (fun k s H'=>s.env 1=.pointer (some ⟨H.length,0,none⟩)∧s.env 3=nv (p ^ k)∧s.env 8=nv e∧s.env 9=nv k∧s.ds=[] ∧
     H'=H++[.cells [nv p,nv e,.slice (some ⟨b,0,none⟩) n c] 76 none false]) ?_ ?_ ?_
  · simp (disch:=(first|omega|(simp only [List.length_map];omega)|(simp only [qbf]<;>omega)|(simp only [qbd];done)|rfl)) only [↓qbk,zC,zD,zF,zG,zH,Nat.reduceEqDiff,Nat.reduceLT,Nat.reduceLeDiff,↓reduceIte]
    simp
  · rintro k s H1 hk ⟨e1,e3,e8,e9,eds,rfl⟩
    have h2:p ^ k*p≤64:=by rw [←Nat.pow_succ];exact qc1 hp hk hq
    simp (disch:=(first|omega|(simp only [List.length_map];omega)|(simp only [qbf]<;>omega)|(simp only [qbd];done)|rfl)) only [↓qbk,zC,zD,zF,zG,zH,Nat.reduceEqDiff,Nat.reduceLT,Nat.reduceLeDiff,↓reduceIte,e1,e3,e8,e9,eds,hk]
    simp [Nat.pow_succ]
  · rintro s H1 ⟨e1,e3,e8,e9,eds,rfl⟩
    simp (disch:=(first|omega|(simp only [List.length_map];omega)|(simp only [qbf]<;>omega)|(simp only [qbd];done)|rfl)) only [↓qbk,zC,zD,zF,zG,zH,Nat.reduceEqDiff,Nat.reduceLT,Nat.reduceLeDiff,↓reduceIte,e1,e3,e8,e9,eds,xf210]
    simp [ground,scal]
end Go.Sim.Pf

namespace Go.Sim.Pf
open Go Go.Proofs
theorem qjn {p b n c:Nat} {d:List Nat} {H:AH} {el:TypeId} {op:Option Nat} {r:Bool} (hb:H[b]? = some (.cells (d.map nv) el op r)) (hn:n≤d.length) (hp:2≤p) (hq:p ^ n≤64) (hdp:∀ x∈d.take n,x<p) :
    FN Tryz.prog 136 [nv p,.slice (some ⟨b,0,none⟩) n c] H (fun v H'=>v=nv (num p (d.take n))∧H'=H):=by
  have hn64:n<64:=by
    have:n<2 ^ n:=Nat.lt_two_pow_self
    have h2:2 ^ n≤p ^ n:=Nat.pow_le_pow_left hp n
    omega
  refine FN.gc0 (FN.of_compZ qbs xf136_ok (Nat.le_of_ble_eq_true rfl) ?_)
  simp (disch:=omega) only [↓qbk,zC,zE,zF,zG,zH,Nat.reduceEqDiff,Nat.reduceLT,Nat.reduceLeDiff,↓reduceIte,xf136]
  refine LZ.nat n (fun k s H'=>s.env 0=nv p∧s.env 1=.slice (some ⟨b,0,none⟩) n c∧s.env 5=nv (num p ((d.take n).drop (n-k)))∧s.env 6=.int .i64 ((n:Int)-1-k)∧s.ds=[]∧H'=H) ?_ ?_ ?_
  · simp (disch:=omega) only [↓qbk,zC,zE,zF,zG,zH,↓reduceIte]
    have:(d.take n).drop n=[]:=by apply List.drop_eq_nil_of_le;simp;omega
    simp [this,num]
  · rintro k s H1 hk ⟨e0,e1,e5,e6,eds,rfl⟩
    have hi:((n:Int)-1-k)=((n-1-k:Nat):Int):=by omega
    rw [hi] at e6
    have hlen:(d.take n).length=n:=by simp;omega
    have hcons:=qjh (l:=d.take n) (k:=n-1-k) (by omega)
    rw [show n-1-k+1=n-k by omega] at hcons
    have hn:=qm4 (p:=p) (by omega) ((d.take n).drop (n-1-k)) (fun x hx=>hdp x (List.mem_of_mem_drop hx))
    have hpw:p ^ ((d.take n).drop (n-1-k)).length≤64:=by
      refine qc1 hp ?_ hq
      simp;omega
    rw [hcons] at hpw hn
    rw [num] at hn
    have hgd:(d.take n).getD (n-1-k) 0=d.getD (n-1-k) 0:=by
      simp only [List.getD_eq_getElem?_getD,List.getElem?_take]
      rw [if_pos (by omega)]
    rw [hgd] at hn hcons hpw
    have hc:=Nat.mul_comm (num p ((d.take n).drop (n-k))) p
    generalize hA:num p ((d.take n).drop (n-k))=A at *
    have h1:A*p<1000:=by omega
    have h2:A*p+d.getD (n-1-k) 0<1000:=by omega
    simp (disch:=omega) only [↓qbk,zC,zD,zF,zG,zH,Nat.reduceEqDiff,Nat.reduceLT,Nat.reduceLeDiff,↓reduceIte,e0,e1,e5,e6,eds,h1,h2,hb]
    simp (disch:=(first|omega|(simp only [List.length_map];omega)|(simp only [qbf]<;>omega)|(simp only [qbd];done)|rfl)) only [↓qbk,zC,zE,zF,zG,zH,Nat.reduceEqDiff,Nat.reduceLT,Nat.reduceLeDiff,↓reduceIte,e0,e1,e5,e6,eds]
    rw [show n-(k+1)=n-1-k by omega,hcons,num,hA]
    refine⟨?_,?_⟩
    · rw [hc,Nat.add_comm]
    · congr 1;omega
  · rintro s H1 ⟨e0,e1,e5,e6,eds,rfl⟩
    have hneg:¬((0:Nat):Int)≤(n:Int)-1-n:=by omega
    simp (disch:=omega) only [↓qbk,zC,zE,zF,zG,zH,↓reduceIte,e0,e1,e5,e6,eds,xf136,hneg]
    simp [ground,scal]
theorem addL_length {p:Nat} {x y:List Nat} {n:Nat} (hx:x.length=n) (hy:y.length=n):(addL p x y).length=n:=by simp [addL,hx,hy]
theorem addL_getD {p:Nat} {x y:List Nat} {n:Nat} (hx:x.length=n) (hy:y.length=n) (k:Nat) (hk:k<n):(addL p x y).getD k 0=(x.getD k 0+y.getD k 0) % p:=by
  simp only [addL,List.getD_eq_getElem?_getD,List.getElem?_zipWith]
  rw [List.getElem?_eq_getElem (by omega),List.getElem?_eq_getElem (by omega)]
  rfl
theorem addL_lt {p:Nat} (hp:0<p) {x y:List Nat}:∀ z∈addL p x y,z<p:=by
  intro z hz
  simp only [addL] at hz
  obtain⟨i,hi,rfl⟩:=List.getElem_of_mem hz
  simp only [List.getElem_zipWith]
  exact Nat.mod_lt _ hp
theorem mix_all {Z X:List Nat} {k:Nat} (hk:X.length≤k) (hz:Z.length=X.length):Z.take k++X.drop k=Z:=by
  rw [List.take_of_length_le (by omega),List.drop_eq_nil_of_le hk,List.append_nil]
theorem radd_spec {p e b n c x y:Nat} {H:AH} (hp:2≤p) (he:1≤e) (he6:e≤6) (hq:p ^ e≤64) (hx:x<1000) (hy:y<1000) :
    FN Tryz.prog 167 [fldv p e b n c,nv x,nv y] H (fun v H'=>v=nv (addF p e x y)∧H'=H):=by
  have hp64:p≤64:=by have:=qc1 (k:=1) hp he hq;simpa using this
  have he0:e≠0:=by omega
  refine FN.gc0 (FN.of_compZ qbs xf167_ok (Nat.le_of_ble_eq_true rfl) ?_)
  simp (disch:=omega) only [↓qbk,zC,zD,zF,zG,zH,Nat.reduceEqDiff,Nat.reduceLT,Nat.reduceLeDiff,↓reduceIte,xf167]
  refine FZ.mono (qfs hp (by omega) (by omega) (by omega)) ?_
  rintro _ _ ⟨rfl,rfl⟩
  simp (disch:=omega) only [↓qbk,zC,zD,zF,zG,zH,↓reduceIte,he0]
  refine FZ.mono (qfs hp (by omega) (by omega) (by omega)) ?_
  rintro _ _ ⟨rfl,rfl⟩
  have l1:(digs p x e).length=e:=qbp _ _ _
  have l2:(digs p y e).length=e:=qbp _ _ _
  simp (disch:=omega) only [↓qbk,zC,zD,zF,zG,zH,↓reduceIte,he0]
  have lZ:=addL_length (p:=p) l1 l2
  have hZg:=addL_getD (p:=p) l1 l2
  have hZl:=addL_lt (p:=p) (by omega) (x:=digs p x e) (y:=digs p y e)
  generalize hZ:addL p (digs p x e) (digs p y e)=Z at *
  refine LZ.nat e (fun k s H'=>s.env 3=.pointer (some ⟨H.length,0,none⟩)∧s.env 7=.slice (some ⟨H.length+1,0,none⟩) e e∧s.env 8=.slice (some ⟨H.length+2,0,none⟩) e e∧s.env 9=nv k∧s.ds=[] ∧
     H'=H++[.cells [nv p,nv e,.slice (some ⟨b,0,none⟩) n c] 76 none false,.cells ((Z.take k++(digs p x e).drop k).map nv) 3 (some 1) false,.cells ((digs p y e).map nv) 3 (some 1) false]) ?_ ?_ ?_
  · simp (disch:=omega) only [↓qbk,zC,zD,zF,zG,zH,Nat.reduceEqDiff,Nat.reduceLT,Nat.reduceLeDiff,↓reduceIte]
    simp [he0]
  · rintro k s H1 hk ⟨e3,e7,e8,e9,eds,rfl⟩
    have hml:=qfd (Z:=Z) (X:=digs p x e) (k:=k) (by omega) (by omega)
    rw [l1] at hml
    have hmg:=qpm (Z:=Z) (X:=digs p x e) (k:=k) (by omega) (by omega)
    have g1:=getD_lt (k:=k) (by omega) (qd5 (p:=p) (by omega) e x)
    have g2:=getD_lt (k:=k) (by omega) (qd5 (p:=p) (by omega) e y)
    simp (disch:=omega) only [↓qbk,zC,zD,zF,zG,zH,Nat.reduceEqDiff,Nat.reduceLT,Nat.reduceLeDiff,↓reduceIte,e3,e7,e8,e9,eds,hk,hmg]
    rw [←hZg k (by omega),mix_set (by omega) (by omega)]
  · rintro s H1 ⟨e3,e7,e8,e9,eds,rfl⟩
    rw [mix_all (by omega) (by omega)]
    simp (disch:=omega) only [↓qbk,zC,zD,zF,zG,zH,Nat.reduceEqDiff,Nat.reduceLT,Nat.reduceLeDiff,↓reduceIte,e3,e7,e8,e9,eds]
    refine FZ.use (qjn (d:=Z) get_new (by omega) hp hq ?_) ?_
    · intro z hz;exact hZl z (List.mem_of_mem_take hz)
    · simp (disch:=omega) only [↓qbk,zC,zD,zF,zG,zH,↓reduceIte,eds,xf167]
      rw [List.take_of_length_le (by omega),←hZ]
      simp [addF,ground,scal]
def negL (p:Nat) (x:List Nat):List Nat:=x.map fun d=>(p-d) % p
def negF (p e x:Nat):Nat:=num p (negL p (digs p x e))
theorem rneg_spec {p e b n c x:Nat} {H:AH} (hp:2≤p) (he:1≤e) (he6:e≤6) (hq:p ^ e≤64) (hx:x<1000) :
    FN Tryz.prog 81 [fldv p e b n c,nv x] H (fun v H'=>v=nv (negF p e x)∧H'=H):=by
  have hp64:p≤64:=by have:=qc1 (k:=1) hp he hq;simpa using this
  have he0:e≠0:=by omega
  refine FN.gc0 (FN.of_compZ qbs xf81_ok (Nat.le_of_ble_eq_true rfl) ?_)
  simp (disch:=omega) only [↓qbk,zC,zD,zF,zG,zH,Nat.reduceEqDiff,Nat.reduceLT,Nat.reduceLeDiff,↓reduceIte,xf81]
  refine FZ.mono (qfs hp (by omega) (by omega) (by omega)) ?_
  rintro _ _ ⟨rfl,rfl⟩
  have l1:(digs p x e).length=e:=qbp _ _ _
  simp (disch:=omega) only [↓qbk,zC,zD,zF,zG,zH,↓reduceIte,he0]
  have lZ:(negL p (digs p x e)).length=e:=by simp [negL,l1]
  have hZg:∀ k,k<e→(negL p (digs p x e)).getD k 0=(p-(digs p x e).getD k 0) % p:=by
    intro k hk
    simp only [negL,List.getD_eq_getElem?_getD,List.getElem?_map]
    rw [List.getElem?_eq_getElem (by omega)]
    rfl
  have hZl:∀ z∈negL p (digs p x e),z<p:=by
    intro z hz
    simp only [negL,List.mem_map] at hz
    obtain⟨d,_,rfl⟩:=hz
    exact Nat.mod_lt _ (by omega)
  generalize hZ:negL p (digs p x e)=Z at *
  refine LZ.nat e (fun k s H'=>s.env 2=.pointer (some ⟨H.length,0,none⟩)∧s.env 5=.slice (some ⟨H.length+1,0,none⟩) e e∧s.env 6=nv k∧s.ds=[] ∧
     H'=H++[.cells [nv p,nv e,.slice (some ⟨b,0,none⟩) n c] 76 none false,.cells ((Z.take k++(digs p x e).drop k).map nv) 3 (some 1) false]) ?_ ?_ ?_
  · simp (disch:=omega) only [↓qbk,zC,zD,zF,zG,zH,↓reduceIte]
    simp [he0]
  · rintro k s H1 hk ⟨e2,e5,e6,eds,rfl⟩
    have hml:=qfd (Z:=Z) (X:=digs p x e) (k:=k) (by omega) (by omega)
    rw [l1] at hml
    have hmg:=qpm (Z:=Z) (X:=digs p x e) (k:=k) (by omega) (by omega)
    have g1:=getD_lt (k:=k) (by omega) (qd5 (p:=p) (by omega) e x)
    simp (disch:=omega) only [↓qbk,zC,zD,zF,zG,zH,Nat.reduceEqDiff,Nat.reduceLT,Nat.reduceLeDiff,↓reduceIte,e2,e5,e6,eds,hk,hmg]
    rw [←hZg k (by omega),mix_set (by omega) (by omega)]
  · rintro s H1 ⟨e2,e5,e6,eds,rfl⟩
    rw [mix_all (by omega) (by omega)]
    simp (disch:=omega) only [↓qbk,zC,zD,zF,zG,zH,Nat.reduceEqDiff,Nat.reduceLT,Nat.reduceLeDiff,↓reduceIte,e2,e5,e6,eds]
    refine FZ.use (qjn (d:=Z) get_new (by omega) hp hq ?_) ?_
    · intro z hz;exact hZl z (List.mem_of_mem_take hz)
    · simp (disch:=omega) only [↓qbk,zC,zD,zF,zG,zH,↓reduceIte,eds,xf81]
      rw [List.take_of_length_le (by omega),←hZ]
      simp [negF,ground,scal]
end Go.Sim.Pf

namespace Go.Sim.Pf
open Go Go.Proofs
def restK (p c base:Nat) (m:List Nat) (out:List Nat) (k:Nat):List Nat:=out.set (base+k) ((out.getD (base+k) 0+(p-c)*m.getD k 0) % p)
def qqp (p d:Nat) (m:List Nat) (out:List Nat) (t:Nat):List Nat:=(List.range (d+1)).foldl (restK p (out.getD (out.length-1-t) 0) (out.length-1-t-d) m) out
def qkd (p d:Nat) (m out:List Nat):List Nat:=(List.range (out.length-d)).foldl (qqp p d m) out
theorem restK_ok {p c base:Nat} {m out:List Nat} {k n:Nat} (hp:0<p) (hl:out.length=n) (h:∀ x∈out,x<p):(restK p c base m out k).length=n∧∀ x∈restK p c base m out k,x<p:=by
  refine⟨by simp [restK,hl],fun x hx=>?_⟩
  rcases List.mem_or_eq_of_mem_set hx with h1|rfl
  · exact h x h1
  · exact Nat.mod_lt _ hp
theorem qcw {α:Type} {f:List Nat→α→List Nat} {p n:Nat} (hf:∀ out k,out.length=n→(∀ x∈out,x<p)→(f out k).length=n∧∀ x∈f out k,x<p):∀ (l:List α) (out:List Nat),out.length=n→(∀ x∈out,x<p)→(l.foldl f out).length=n∧∀ x∈l.foldl f out,x<p
  | [],out,h1,h2=>⟨h1,h2⟩
  | a :: l,out,h1,h2=>qcw hf l _ (hf out a h1 h2).1 (hf out a h1 h2).2
theorem restI_ok {p d:Nat} {m out:List Nat} {t n:Nat} (hp:0<p) (hl:out.length=n) (h:∀ x∈out,x<p):(qqp p d m out t).length=n∧∀ x∈qqp p d m out t,x<p:=
  qcw (fun out k h1 h2=>restK_ok hp h1 h2) _ _ hl h
theorem rest_spec {p d n c bl bm cm:Nat} {l m:List Nat} {H:AH} {e1 e2:TypeId} {o1 o2:Option Nat} {r1 r2:Bool} (hl:H[bl]? = some (.cells (l.map nv) e1 o1 r1)) (hm:H[bm]? = some (.cells (m.map nv) e2 o2 r2))
    (hp:2≤p) (hp2:p≤64) (hd:1≤d) (hdn:d≤n) (hn:n≤l.length) (hn64:n≤64) (hml:d+1≤m.length) (hlp:∀ x∈l,x<p) (hmp:∀ x∈m,x<p) :
    FN Tryz.prog 187 [nv p,.slice (some ⟨bl,0,none⟩) n c,.slice (some ⟨bm,0,none⟩) (d+1) cm] H
      (fun v H'=>H'=H++[.cells ((qkd p d m (l.take n)).map nv) 3 (some 1) false]∧v=.slice (some ⟨H.length,0,none⟩) d n):=by
  refine FN.mono (FN.gc1 (R:=fun v x=>v=.slice (some ⟨H.length,0,none⟩) d n∧x=.cells ((qkd p d m (l.take n)).map nv) 3 (some 1) false) (FN.of_compZ qbs xf187_ok (Nat.le_of_ble_eq_true rfl) ?_)) ?_
  · have lL:(l.take n).length=n:=by simp;omega
    have hLp:∀ x∈l.take n,x<p:=fun x hx=>hlp x (List.mem_of_mem_take hx)
    simp (disch:=(first|omega|(simp only [List.length_map];omega)|(simp only [qbf]<;>omega)|(simp only [qbd];done)|rfl)) only [↓qbk,zC,zD,zF,zG,zH,Nat.reduceEqDiff,Nat.reduceLT,Nat.reduceLeDiff,↓reduceIte,xf187,qbv]
    rw [app_none (n:=0) (m:=n) (c2:=c) (bytes:=8) (e:=3) (l:=[]) (l2:=l.take n) qh6 rfl (qcv hl) (by rw [List.drop_zero,List.map_take]) lL.symm (by omega) (by simp;omega) (by omega) (by omega)]
    simp (disch:=(first|omega|(simp only [List.length_map];omega)|(simp only [qbf]<;>omega)|(simp only [qbd];done)|rfl)) only [↓qbk,zC,zD,zF,zG,zH,Nat.reduceEqDiff,Nat.reduceLT,Nat.reduceLeDiff,↓reduceIte,Nat.add_sub_cancel]
    have hR:=fun k=>qcw (f:=qqp p d m) (fun out k h1 h2=>restI_ok (by omega) h1 h2) (List.range k) (l.take n) lL hLp
    generalize hL:l.take n=L at *
    refine LZ.nat (n-d) (fun k s H'=>s.env 0=nv p∧s.env 2=.slice (some ⟨bm,0,none⟩) (d+1) cm∧s.env 7=.slice (some ⟨H.length+1,0,none⟩) n n∧s.env 8=nv d∧s.env 9=nv (n-1-k)∧s.ds=[] ∧
      H'=H++[.cells [] 3 none false,.cells (((List.range k).foldl (qqp p d m) L).map nv) 3 (some 1) false]) ?_ ?_ ?_
    · simp (disch:=(first|omega|(simp only [List.length_map];omega)|(simp only [qbf]<;>omega)|(simp only [qbd];done)|rfl)) only [↓qbk,zC,zD,zF,zG,zH,Nat.reduceEqDiff,Nat.reduceLT,Nat.reduceLeDiff,↓reduceIte]
      simp
    · rintro k s H1 hk ⟨e0,e2,e7,e8,e9,eds,rfl⟩
      obtain⟨q1,q2⟩:=hR k
      generalize hO:(List.range k).foldl (qqp p d m) L=O at *
      have hge:d≤n-1-k:=by omega
      simp (disch:=(first|omega|(simp only [List.length_map];omega)|(simp only [qbf]<;>omega)|(simp only [qbd];done)|rfl)) only [↓qbk,zC,zD,zF,zG,zH,Nat.reduceEqDiff,Nat.reduceLT,Nat.reduceLeDiff,↓reduceIte,e0,e2,e7,e8,e9,eds,hge]
      generalize hC:O.getD (n-1-k) 0=C
      have hCp:C<p:=by rw [←hC];exact getD_lt (by omega) q2
      refine LZ.nat (d+1) (fun j s H'=>s.env 0=nv p∧s.env 2=.slice (some ⟨bm,0,none⟩) (d+1) cm∧s.env 7=.slice (some ⟨H.length+1,0,none⟩) n n∧s.env 8=nv d∧s.env 9=nv (n-1-k)∧s.env 10=nv C∧s.env 11=nv j∧s.ds=[] ∧
        H'=H++[.cells [] 3 none false,.cells (((List.range j).foldl (restK p C (n-1-k-d) m) O).map nv) 3 (some 1) false]) ?_ ?_ ?_
      · simp (disch:=(first|omega|(simp only [List.length_map];omega)|(simp only [qbf]<;>omega)|(simp only [qbd];done)|rfl)) only [↓qbk,zC,zD,zF,zG,zH,Nat.reduceEqDiff,Nat.reduceLT,Nat.reduceLeDiff,↓reduceIte,e0,e2,e7,e8,e9,eds]
        simp
      · rintro j s H1 hj ⟨f0,f2,f7,f8,f9,f10,f11,fds,rfl⟩
        have hj':j≤d:=by omega
        obtain⟨w1,w2⟩:=qcw (f:=restK p C (n-1-k-d) m) (p:=p) (n:=n) (fun out k h1 h2=>restK_ok (by omega) h1 h2) (List.range j) O q1 q2
        rw [List.range_succ,List.foldl_append]
        generalize hW:(List.range j).foldl (restK p C (n-1-k-d) m) O=V at *
        have g1:=getD_lt (k:=n-1-k-d+j) (by omega) w2
        have g3:=getD_lt (k:=j) (by omega) hmp
        have hmul:(p-C)*m.getD j 0≤64*64:=Nat.mul_le_mul (by omega) (by omega)
        have hm2:=fun (Y:AH)=>qcv (L:=Y) hm
        simp (disch:=(first|omega|(simp only [List.length_map];omega)|(simp only [qbf]<;>omega)|(simp only [qbd];done)|rfl)) only [↓qbk,zC,zD,zF,zG,zH,Nat.reduceEqDiff,Nat.reduceLT,Nat.reduceLeDiff,↓reduceIte,f0,f2,f7,f8,f9,f10,f11,fds,hj',hm2]
        simp [restK]
      · rintro s H1 ⟨f0,f2,f7,f8,f9,f10,f11,fds,rfl⟩
        have hgt:¬d+1≤d:=by omega
        simp (disch:=(first|omega|(simp only [List.length_map];omega)|(simp only [qbf]<;>omega)|(simp only [qbd];done)|rfl)) only [↓qbk,zC,zD,zF,zG,zH,Nat.reduceEqDiff,Nat.reduceLT,Nat.reduceLeDiff,↓reduceIte,f0,f2,f7,f8,f9,f10,f11,fds,hgt]
        rw [show List.range (k+1)=List.range k++[k] from List.range_succ,List.foldl_append,hO]
        simp only [List.foldl_cons,List.foldl_nil,qqp,q1,hC]
        rw [show n-1-(k+1)=n-1-k-1 by omega]
        simp
    · rintro s H1 ⟨e0,e2,e7,e8,e9,eds,rfl⟩
      have hge:¬d≤n-1-(n-d):=by omega
      simp (disch:=(first|omega|(simp only [List.length_map];omega)|(simp only [qbf]<;>omega)|(simp only [qbd];done)|rfl)) only [↓qbk,zC,zD,zF,zG,zH,Nat.reduceEqDiff,Nat.reduceLT,Nat.reduceLeDiff,↓reduceIte,e0,e2,e7,e8,e9,eds,hge]
      have hmin:min n d=d:=by omega
      simp (disch:=(first|omega|(simp only [List.length_map];omega)|(simp only [qbf]<;>omega)|(simp only [qbd];done)|rfl)) only [↓qbk,zC,zD,zF,zG,zH,Nat.reduceEqDiff,Nat.reduceLT,Nat.reduceLeDiff,↓reduceIte,hmin,qjx,eds,xf187]
      exact gc1_nv (b:=H.length+1) (by omega) (by rw [get_new];simp [qkd,lL]) (Keep.app (Nat.le_refl _) _) rfl
  · rintro v H' ⟨x,rfl,rfl,rfl⟩
    exact⟨rfl,rfl⟩
end Go.Sim.Pf

namespace Go.Sim.Pf
open Go Go.Proofs
def mulK (p:Nat) (x y:List Nat) (i:Nat) (out:List Nat) (k:Nat):List Nat:=out.set (i+k) ((out.getD (i+k) 0+x.getD i 0*y.getD k 0) % p)
def mulI (p e:Nat) (x y:List Nat) (out:List Nat) (i:Nat):List Nat:=(List.range e).foldl (mulK p x y i) out
def mulL (p e:Nat) (x y:List Nat):List Nat:=(List.range e).foldl (mulI p e x y) (List.replicate (2*e) 0)
def qd7 (p e:Nat) (m:List Nat) (a b:Nat):Nat:=num p ((qkd p e (m++[1]) (mulL p e (digs p a e) (digs p b e))).take e)
theorem mulK_ok {p i:Nat} {x y out:List Nat} {k n:Nat} (hp:0<p) (hl:out.length=n) (h:∀ x∈out,x<p):(mulK p x y i out k).length=n∧∀ z∈mulK p x y i out k,z<p:=by
  refine⟨by simp [mulK,hl],fun z hz=>?_⟩
  rcases List.mem_or_eq_of_mem_set hz with h1|rfl
  · exact h z h1
  · exact Nat.mod_lt _ hp
theorem rmul_spec {p e b c x y:Nat} {m:List Nat} {H:AH} {el:TypeId} {op:Option Nat} {r:Bool} (hb:H[b]? = some (.cells (m.map nv) el op r)) (hm:m.length=e) (hmp:∀ z∈m,z<p) (hp:2≤p) (he:1≤e) (he6:e≤6) (hq:p ^ e≤64) (hx:x<1000) (hy:y<1000) :
    FN Tryz.prog 132 [fldv p e b e c,nv x,nv y] H (fun v H'=>v=nv (qd7 p e m x y)∧H'=H):=by
  have hp64:p≤64:=by have:=qc1 (k:=1) hp he hq;simpa using this
  have he0:e≠0:=by omega
  refine FN.gc0 (FN.of_compZ qbs xf132_ok (Nat.le_of_ble_eq_true rfl) ?_)
  simp (disch:=(first|omega|(simp only [List.length_map];omega)|(simp only [qbf]<;>omega)|(simp only [qbd];done)|rfl)) only [↓qbk,zC,zD,zF,zG,zH,Nat.reduceEqDiff,Nat.reduceLT,Nat.reduceLeDiff,↓reduceIte,xf132]
  refine FZ.mono (qfs hp (by omega) (by omega) (by omega)) ?_
  rintro _ _ ⟨rfl,rfl⟩
  simp (disch:=(first|omega|(simp only [List.length_map];omega)|(simp only [qbf]<;>omega)|(simp only [qbd];done)|rfl)) only [↓qbk,zC,zD,zF,zG,zH,Nat.reduceEqDiff,Nat.reduceLT,Nat.reduceLeDiff,↓reduceIte,he0]
  refine FZ.mono (qfs hp (by omega) (by omega) (by omega)) ?_
  rintro _ _ ⟨rfl,rfl⟩
  have l1:(digs p x e).length=e:=qbp _ _ _
  have l2:(digs p y e).length=e:=qbp _ _ _
  simp (disch:=(first|omega|(simp only [List.length_map];omega)|(simp only [qbf]<;>omega)|(simp only [qbd];done)|rfl)) only [↓qbk,zC,zD,zF,zG,zH,Nat.reduceEqDiff,Nat.reduceLT,Nat.reduceLeDiff,↓reduceIte,he0,qdw]
  have hx1:=qd5 (p:=p) (by omega) e x
  have hy1:=qd5 (p:=p) (by omega) e y
  generalize hX:digs p x e=X at *
  generalize hY:digs p y e=Y at *
  have hz0:∀ z∈List.replicate (2*e) 0,z<p:=by intro z hz;rw [List.mem_replicate] at hz;omega
  have hR:=fun k=>qcw (f:=mulI p e X Y) (p:=p) (n:=2*e) (fun out k h1 h2=>qcw (fun out k h1 h2=>mulK_ok (by omega) h1 h2) _ _ h1 h2) (List.range k) (List.replicate (2*e) 0) (by simp) hz0
  refine LZ.nat e (fun k s H'=>s.env 3=.pointer (some ⟨H.length,0,none⟩)∧s.env 7=.slice (some ⟨H.length+1,0,none⟩) e e∧s.env 8=.slice (some ⟨H.length+2,0,none⟩) e e∧s.env 9=.slice (some ⟨H.length+3,0,none⟩) (2*e) (2*e)∧s.env 10=nv k∧s.ds=[] ∧
     H'=H++[.cells [nv p,nv e,.slice (some ⟨b,0,none⟩) e c] 76 none false,.cells (X.map nv) 3 (some 1) false,.cells (Y.map nv) 3 (some 1) false,.cells (((List.range k).foldl (mulI p e X Y) (List.replicate (2*e) 0)).map nv) 3 none false]) ?_ ?_ ?_
  · simp (disch:=(first|omega|(simp only [List.length_map];omega)|(simp only [qbf]<;>omega)|(simp only [qbd];done)|rfl)) only [↓qbk,zC,zD,zF,zG,zH,Nat.reduceEqDiff,Nat.reduceLT,Nat.reduceLeDiff,↓reduceIte]
    simp [he0]
  · rintro i s H1 hi ⟨e3,e7,e8,e9,e10,eds,rfl⟩
    obtain⟨q1,q2⟩:=hR i
    rw [show List.range (i+1)=List.range i++[i] from List.range_succ,List.foldl_append]
    generalize hO:(List.range i).foldl (mulI p e X Y) (List.replicate (2*e) 0)=O at *
    simp (disch:=(first|omega|(simp only [List.length_map];omega)|(simp only [qbf]<;>omega)|(simp only [qbd];done)|rfl)) only [↓qbk,zC,zD,zF,zG,zH,Nat.reduceEqDiff,Nat.reduceLT,Nat.reduceLeDiff,↓reduceIte,e3,e7,e8,e9,e10,eds,hi]
    refine LZ.nat e (fun k s H'=>s.env 3=.pointer (some ⟨H.length,0,none⟩)∧s.env 7=.slice (some ⟨H.length+1,0,none⟩) e e∧s.env 8=.slice (some ⟨H.length+2,0,none⟩) e e∧s.env 9=.slice (some ⟨H.length+3,0,none⟩) (2*e) (2*e)∧s.env 10=nv i∧s.env 11=nv k∧s.ds=[] ∧
       H'=H++[.cells [nv p,nv e,.slice (some ⟨b,0,none⟩) e c] 76 none false,.cells (X.map nv) 3 (some 1) false,.cells (Y.map nv) 3 (some 1) false,.cells (((List.range k).foldl (mulK p X Y i) O).map nv) 3 none false]) ?_ ?_ ?_
    · simp (disch:=(first|omega|(simp only [List.length_map];omega)|(simp only [qbf]<;>omega)|(simp only [qbd];done)|rfl)) only [↓qbk,zC,zD,zF,zG,zH,Nat.reduceEqDiff,Nat.reduceLT,Nat.reduceLeDiff,↓reduceIte,e3,e7,e8,e9,e10,eds]
      simp
    · rintro k s H1 hk ⟨f3,f7,f8,f9,f10,f11,fds,rfl⟩
      obtain⟨w1,w2⟩:=qcw (f:=mulK p X Y i) (p:=p) (n:=2*e) (fun out k h1 h2=>mulK_ok (by omega) h1 h2) (List.range k) O q1 q2
      rw [show List.range (k+1)=List.range k++[k] from List.range_succ,List.foldl_append]
      generalize hW:(List.range k).foldl (mulK p X Y i) O=V at *
      have g1:=getD_lt (k:=i+k) (by omega) w2
      have g2:=getD_lt (k:=i) (by omega) hx1
      have g3:=getD_lt (k:=k) (by omega) hy1
      have hmul:X.getD i 0*Y.getD k 0≤64*64:=Nat.mul_le_mul (by omega) (by omega)
      simp (disch:=(first|omega|(simp only [List.length_map];omega)|(simp only [qbf]<;>omega)|(simp only [qbd];done)|rfl)) only [↓qbk,zC,zD,zF,zG,zH,Nat.reduceEqDiff,Nat.reduceLT,Nat.reduceLeDiff,↓reduceIte,f3,f7,f8,f9,f10,f11,fds,hk]
      simp [mulK]
    · rintro s H1 ⟨f3,f7,f8,f9,f10,f11,fds,rfl⟩
      simp (disch:=(first|omega|(simp only [List.length_map];omega)|(simp only [qbf]<;>omega)|(simp only [qbd];done)|rfl)) only [↓qbk,zC,zD,zF,zG,zH,Nat.reduceEqDiff,Nat.reduceLT,Nat.reduceLeDiff,↓reduceIte,f3,f7,f8,f9,f10,f11,fds]
      simp [mulI]
  · rintro s H1 ⟨e3,e7,e8,e9,e10,eds,rfl⟩
    obtain⟨q1,q2⟩:=hR e
    generalize hO:(List.range e).foldl (mulI p e X Y) (List.replicate (2*e) 0)=O at *
    have hb2:=fun (Y:AH)=>qcv (L:=Y) hb
    simp (disch:=(first|omega|(simp only [List.length_map];omega)|(simp only [qbf]<;>omega)|(simp only [qbd];done)|rfl)) only [↓qbk,zC,zD,zF,zG,zH,Nat.reduceEqDiff,Nat.reduceLT,Nat.reduceLeDiff,↓reduceIte,e3,e7,e8,e9,e10,eds,qbv,putL]
    rw [app_none (n:=0) (m:=e) (c2:=c) (bytes:=8) (e:=3) (l:=[]) (l2:=m) (get_new.trans rfl) rfl (hb2 _) (by rw [List.drop_zero,List.take_of_length_le (by simp;omega)]) hm.symm (by omega) (by simp;omega) (by omega) (by omega)]
    simp (disch:=(first|omega|(simp only [List.length_map];omega)|(simp only [qbf]<;>omega)|(simp only [qbd];done)|rfl)) only [↓qbk,zC,zD,zF,zG,zH,Nat.reduceEqDiff,Nat.reduceLT,Nat.reduceLeDiff,↓reduceIte,e3,e7,e8,e9,e10,eds]
    rw [app_open (n:=e) (m:=1) (c2:=1) (bytes:=8) (e:=3) (l:=m) (l2:=[1]) (get_new.trans rfl) hm.symm (get_new.trans rfl) rfl rfl (by omega) (by simp) (by omega) (by omega)]
    simp (disch:=(first|omega|(simp only [List.length_map];omega)|(simp only [qbf]<;>omega)|(simp only [qbd];done)|rfl)) only [↓qbk,zC,zD,zF,zG,zH,Nat.reduceEqDiff,Nat.reduceLT,Nat.reduceLeDiff,↓reduceIte,e3,e7,e8,e9,e10,eds]
    refine FZ.mono (rest_spec (d:=e) (n:=2*e) (l:=O) (m:=m++[1]) (get_new.trans rfl) (get_new.trans rfl) hp hp64 he (by omega) (by omega) (by omega) (by simp;omega) q2 ?_) ?_
    · intro z hz
      rw [List.mem_append] at hz
      rcases hz with h|h
      · exact hmp z h
      · rw [List.mem_singleton] at h;omega
    rintro _ _ ⟨rfl,rfl⟩
    simp (disch:=(first|omega|(simp only [List.length_map];omega)|(simp only [qbf]<;>omega)|(simp only [qbd];done)|rfl)) only [↓qbk,zC,zD,zF,zG,zH,Nat.reduceEqDiff,Nat.reduceLT,Nat.reduceLeDiff,↓reduceIte,e3,e7,e8,e9,e10,eds]
    rw [List.take_of_length_le (by omega)]
    obtain⟨w1,w2⟩:=qcw (f:=qqp p e (m++[1])) (p:=p) (n:=2*e) (fun out k h1 h2=>restI_ok (by omega) h1 h2) (List.range (O.length-e)) O q1 q2
    have hrl:qkd p e (m++[1]) O=(List.range (O.length-e)).foldl (qqp p e (m++[1])) O:=rfl
    rw [←hrl] at w1 w2
    refine FZ.use (qjn (d:=qkd p e (m++[1]) O) (get_new.trans rfl) (by omega) hp hq (fun z hz=>w2 z (List.mem_of_mem_take hz))) ?_
    simp (disch:=(first|omega|(simp only [List.length_map];omega)|(simp only [qbf]<;>omega)|(simp only [qbd];done)|rfl)) only [↓qbk,zC,zD,zF,zG,zH,Nat.reduceEqDiff,Nat.reduceLT,Nat.reduceLeDiff,↓reduceIte,eds,xf132]
    rw [show O=mulL p e X Y from hO.symm]
    simp [qd7,ground,scal,hX,hY]
end Go.Sim.Pf

namespace Go.Sim.Pf
open Go Go.Proofs
theorem xress_nil {H:AH} {s:St}:qf8 H s []=some (.tuple [].toArray):=by simp [qf8]
theorem down_spec {p e b n c a l bf ba:Nat} {Hb0:AH} (Ib:Nat→AH→Prop) (hp:2≤p) (hp2:p≤64) (he:1≤e) (he6:e≤6) (ha:a<1000)
    (h0:Ib 0 Hb0) (hlen:∀ k Hb,Ib k Hb→Hb.length=Hb0.length) (hbf:∀ k Hb,Ib k Hb→Hb[bf]? = some (.cells [nv p,nv e,.slice (some ⟨b,0,none⟩) n c] 76 none false)) (hba:Hb0[ba]? = some (.cells [nv a] 3 none false))
    (hy:∀ k Hb J,k<e→Ib k Hb→YN Tryz.prog l [nv ((digs p a 12).getD (e-1-k) 0)] (Hb++J) (fun v H'=>v=.bool true∧∃ Hb' J',H'=Hb'++J++J'∧Ib (k+1) Hb')) :
    FN Tryz.prog 208 [.func (.yield l) #[] #[],.pointer (some ⟨bf,0,none⟩),.pointer (some ⟨ba,0,none⟩)] Hb0 (fun _ H'=>∃ Hb J,H'=Hb++J∧Ib e Hb):=by
  refine FN.of_compZ qbs xf208_ok (Nat.le_of_ble_eq_true rfl) ?_
  have b0:=hbf 0 _ h0
  simp (disch:=omega) only [↓qbk,zC,zD,zF,zG,zH,Nat.reduceEqDiff,Nat.reduceLT,Nat.reduceLeDiff,↓reduceIte,xf208,b0,hba]
  refine FZ.use (qfc (by omega) (by omega) (by omega)) ?_
  have b1:=fun (Y:AH)=>qcv (L:=Y) b0
  have l1:(digs p a 12).length=12:=qbp _ _ _
  simp (disch:=(first|omega|(simp only [List.length_map];omega)|(simp only [qbf]<;>omega)|(simp only [qbd];done)|rfl)) only [↓qbk,zC,zD,zF,zG,zH,Nat.reduceEqDiff,Nat.reduceLT,Nat.reduceLeDiff,↓reduceIte,b1]
  refine LZ.nat e (fun k s H'=>s.env 0=.func (.yield l) #[] #[]∧s.env 1=.pointer (some ⟨bf,0,none⟩)∧s.env 4=.pointer (some ⟨Hb0.length,0,none⟩)∧s.env 5=.int .i64 ((e:Int)-1-k)∧s.ds=[] ∧
     ∃ Hb J,H'=Hb++(.cells ((digs p a 12).map nv) 162 none false :: J)∧Ib k Hb) ?_ ?_ ?_
  · simp (disch:=omega) only [↓qbk,zC,zE,zF,zG,zH,Nat.reduceEqDiff,Nat.reduceLT,Nat.reduceLeDiff,↓reduceIte]
    refine⟨?_,Hb0,[],rfl,h0⟩
    show Value.int .i64 _=Value.int .i64 _
    rw [show ((e-1:Nat):Int)=(e:Int)-1-((0:Nat):Int) by omega]
  · rintro k s H1 hk ⟨e0,e1,e4,e5,eds,Hb,J,rfl,hI⟩
    have hi:((e:Int)-1-k)=((e-1-k:Nat):Int):=by omega
    rw [hi] at e5
    have hL:=hlen k Hb hI
    rw [←hL] at e4
    simp (disch:=omega) only [↓qbk,zC,zD,zF,zG,zH,Nat.reduceEqDiff,Nat.reduceLT,Nat.reduceLeDiff,↓reduceIte,e0,e1,e4,e5,eds]
    refine YN.mono (hy k Hb _ hk hI) ?_
    rintro _ _ ⟨rfl,Hb',J',rfl,hI'⟩
    simp (disch:=omega) only [↓qbk,zC,zD,zF,zG,zH,↓reduceIte,e0,e1,e4,e5,eds]
    simp (disch:=omega) only [↓qbk,zC,zE,zF,zG,zH,Nat.reduceEqDiff,Nat.reduceLT,Nat.reduceLeDiff,↓reduceIte,e0,e1,e4,e5,eds]
    rw [show ((e-1-k:Nat):Int)-((1:Nat):Int)=(e:Int)-1-((k+1:Nat):Int) by omega,hL]
    exact⟨rfl,rfl,Hb',_,rfl,hI'⟩
  · rintro s H1 ⟨e0,e1,e4,e5,eds,Hb,J,rfl,hI⟩
    have hneg:¬((0:Nat):Int)≤(e:Int)-1-e:=by omega
    simp (disch:=omega) only [↓qbk,zC,zE,zF,zG,zH,↓reduceIte,e0,e1,e4,e5,eds,hneg,xf208,xress_nil]
    exact⟨Hb,_,rfl,hI⟩
theorem xp_fn' {g:FuncId} {nf nc:Nat} {vs:List Value} (h:vs.length=nf+nc):qbc (.fn g nf nc) vs=some (.func (.func g) (vs.take nf).toArray (vs.drop nf).toArray):=by
  simp [qbc,h]
theorem mkdown_spec {p e b n c a:Nat} {H:AH} :
    FN Tryz.prog 186 [fldv p e b n c,nv a] H (fun v H'=>H'=H++[.cells [nv p,nv e,.slice (some ⟨b,0,none⟩) n c] 76 none false,.cells [nv a] 3 none false]∧v=.func (.func 208) #[] #[.pointer (some ⟨H.length,0,none⟩),.pointer (some ⟨H.length+1,0,none⟩)]):=by
  refine FN.of_compZ qbs xf186_ok (Nat.le_of_ble_eq_true rfl) ?_
  simp (disch:=(first|omega|(simp only [List.length_map];omega)|(simp only [qbf]<;>omega)|(simp only [qbd];done)|rfl)) only [↓qbk,zC,zD,zF,zG,zH,Nat.reduceEqDiff,Nat.reduceLT,Nat.reduceLeDiff,↓reduceIte,xf186,xp_fn']
  simp
end Go.Sim.Pf

namespace Go.Sim.Pf
open Go Go.Proofs
def shK (e:Nat) (o:List Nat) (k:Nat):List Nat:=o.set (e-1-k) (o.getD (e-1-k-1) 0)
def mdK (p top c:Nat) (m x o:List Nat) (i:Nat):List Nat:=o.set i (((o.getD i 0:Int)-top*m.getD i 0+c*x.getD i 0) % p).toNat
def mulS (p e:Nat) (m x out:List Nat) (c:Nat):List Nat:=
  (List.range e).foldl (mdK p (out.getD (e-1) 0) c m x) (((List.range (e-1)).foldl (shK e) out).set 0 0)
def mulR (p e:Nat) (m x y:List Nat) (k:Nat):List Nat:=(List.range k).foldl (fun o k=>mulS p e m x o (y.getD (e-1-k) 0)) (List.replicate 12 0)
def mulF (p e:Nat) (m:List Nat) (a b:Nat):Nat:=num p ((mulR p e m (digs p a 12) (digs p b 12) e).take e)
theorem shK_ok {p e k n:Nat} {out:List Nat} (hp:0<p) (hl:out.length=n) (h:∀ x∈out,x<p):(shK e out k).length=n∧∀ z∈shK e out k,z<p:=by
  refine⟨by simp [shK,hl],fun z hz=>?_⟩
  rcases List.mem_or_eq_of_mem_set hz with h1|rfl
  · exact h z h1
  · exact getD_lt hp h
theorem mdK_ok {p t c k n:Nat} {m x out:List Nat} (hp:0<p) (hl:out.length=n) (h:∀ x∈out,x<p):(mdK p t c m x out k).length=n∧∀ z∈mdK p t c m x out k,z<p:=by
  refine⟨by simp [mdK,hl],fun z hz=>?_⟩
  rcases List.mem_or_eq_of_mem_set hz with h1|rfl
  · exact h z h1
  · have h1:=Int.emod_nonneg ((out.getD k 0:Int)-t*m.getD k 0+c*x.getD k 0) (show (p:Int)≠0 by omega)
    have h2:=Int.emod_lt_of_pos ((out.getD k 0:Int)-t*m.getD k 0+c*x.getD k 0) (show (0:Int)<(p:Int) by omega)
    omega
theorem sh0_ok {p e n k:Nat} {out:List Nat} (hp:0<p) (hl:out.length=n) (h:∀ x∈out,x<p):(((List.range k).foldl (shK e) out).set 0 0).length=n∧∀ z∈((List.range k).foldl (shK e) out).set 0 0,z<p:=by
  obtain⟨h1,h2⟩:=qcw (f:=shK e) (fun out k h1 h2=>shK_ok hp h1 h2) (List.range k) out hl h
  refine⟨by simp [h1],fun z hz=>?_⟩
  rcases List.mem_or_eq_of_mem_set hz with h3|rfl
  · exact h2 z h3
  · exact hp
theorem mulS_ok {p e c n:Nat} {m x out:List Nat} (hp:0<p) (hl:out.length=n) (h:∀ x∈out,x<p):(mulS p e m x out c).length=n∧∀ z∈mulS p e m x out c,z<p:=by
  obtain⟨h1,h2⟩:=sh0_ok (e:=e) (k:=e-1) hp hl h
  exact qcw (fun out k h1 h2=>mdK_ok hp h1 h2) _ _ h1 h2
theorem qqx {p e k:Nat} {m x y:List Nat} (hp:0<p):(mulR p e m x y k).length=12∧∀ z∈mulR p e m x y k,z<p:=
  qcw (f:=fun o k=>mulS p e m x o (y.getD (e-1-k) 0)) (fun _ _ h1 h2=>mulS_ok hp h1 h2) _ _ (by simp) (by intro z hz;rw [List.mem_replicate] at hz;omega)
theorem mul_modN {p o t a c x:Nat} {H:AH} (hp:2≤p) (hp64:p≤64) :
    FN Tryz.prog 175 [.int .i64 ((o:Int)-((t*a:Nat):Int)+((c*x:Nat):Int)),nv p] H (fun v H'=>v=nv (((o:Int)-t*a+c*x) % p).toNat∧H'=H):=by
  refine FN.mono (qpk (by omega) (by omega)) ?_
  rintro _ _ ⟨rfl,rfl⟩
  refine⟨?_,rfl⟩
  have h1:=Int.emod_nonneg ((o:Int)-t*a+c*x) (show (p:Int)≠0 by omega)
  show Value.int .i64 _=Value.int .i64 _
  rw [Int.toNat_of_nonneg h1]
  simp
def Ib (p e b c:Nat) (X:List Nat) (y:Nat) (m:List Nat) (H:AH) (L:ALoop) (k:Nat) (Hb:AH):Prop:=
  Hb=H++[.cells [nv p,nv e,.slice (some ⟨b,0,none⟩) e c] 76 none false,.cells (X.map nv) 162 none false,.cells ((mulR p e m X (digs p y 12) k).map nv) 162 none false,.cells [nv p,nv e,.slice (some ⟨b,0,none⟩) e c] 76 none false,.cells [nv y] 3 none false,.defs (some []),.loop L]
theorem qpj {p e b c x y:Nat} {m:List Nat} {H:AH} {el:TypeId} {op:Option Nat} {r:Bool} (hb:H[b]? = some (.cells (m.map nv) el op r)) (hm:m.length=e) (hmp:∀ z∈m,z<p) (hp:2≤p) (he:1≤e) (he6:e≤6) (hq:p ^ e≤64) (hx:x<1000) (hy:y<1000) :
    FN Tryz.prog 131 [fldv p e b e c,nv x,nv y] H (fun v H'=>v=nv (mulF p e m x y)∧H'=H):=by
  have hp64:p≤64:=by have:=qc1 (k:=1) hp he hq;simpa using this
  have he0:e≠0:=by omega
  refine FN.gc0 (FN.of_compZ qbs xf131_ok (Nat.le_of_ble_eq_true rfl) ?_)
  simp (disch:=(first|omega|(simp only [List.length_map];omega)|(simp only [qbf]<;>omega)|(simp only [qbd];done)|rfl)) only [↓qbk,zC,zD,zF,zG,zH,Nat.reduceEqDiff,Nat.reduceLT,Nat.reduceLeDiff,↓reduceIte,xf131]
  refine FZ.use (qgd hp he he6 rfl hq) ?_
  simp (disch:=(first|omega|(simp only [List.length_map];omega)|(simp only [qbf]<;>omega)|(simp only [qbd];done)|rfl)) only [↓qbk,zC,zD,zF,zG,zH,Nat.reduceEqDiff,Nat.reduceLT,Nat.reduceLeDiff,↓reduceIte]
  refine FZ.use (qfc (by omega) (by omega) (by omega)) ?_
  have l1:(digs p x 12).length=12:=qbp _ _ _
  simp (disch:=(first|omega|(simp only [List.length_map];omega)|(simp only [qbf]<;>omega)|(simp only [qbd];done)|rfl)) only [↓qbk,zC,zD,zF,zG,zH,Nat.reduceEqDiff,Nat.reduceLT,Nat.reduceLeDiff,↓reduceIte]
  refine FZ.mono mkdown_spec ?_
  rintro _ _ ⟨rfl,rfl⟩
  simp (disch:=(first|omega|(simp only [List.length_map];omega)|(simp only [qbf]<;>omega)|(simp only [qbd];done)|rfl)) only [↓qbk,zC,zD,zF,zG,zH,Nat.reduceEqDiff,Nat.reduceLT,Nat.reduceLeDiff,↓reduceIte]
  have hb2:=fun (Y:AH)=>qcv (L:=Y) hb
  generalize hD:digs p x 12=X at *
  refine X_gen (fun s H'=>s.env 3=.pointer (some ⟨H.length,0,none⟩)∧s.env 7=.pointer (some ⟨H.length+1,0,none⟩)∧s.env 8=.pointer (some ⟨H.length+2,0,none⟩)∧s.env 22=.func (.func 208) #[] #[.pointer (some ⟨H.length+3,0,none⟩),.pointer (some ⟨H.length+4,0,none⟩)]∧s.ds=[] ∧
     H'=H++[.cells [nv p,nv e,.slice (some ⟨b,0,none⟩) e c] 76 none false,.cells (X.map nv) 162 none false,.cells ((List.replicate 12 0).map nv) 162 none false,.cells [nv p,nv e,.slice (some ⟨b,0,none⟩) e c] 76 none false,.cells [nv y] 3 none false]) ?_ ?_
  · simp (disch:=(first|omega|(simp only [List.length_map];omega)|(simp only [qbf]<;>omega)|(simp only [qbd];done)|rfl)) only [↓qbk,zC,zD,zF,zG,zH,Nat.reduceEqDiff,Nat.reduceLT,Nat.reduceLeDiff,↓reduceIte]
    simp
  rintro s H1 ⟨e3,e7,e8,e22,eds,rfl⟩
  refine qkf (f:=.tmp 22) (g:=208) rfl e22 ?_
  intro assign body hA hB
  simp only [List.length_append,List.length_cons,List.length_nil,List.append_assoc,List.cons_append,List.nil_append,Nat.zero_add,Nat.reduceAdd,Nat.add_assoc]
  refine FN.mono (down_spec (b:=b) (n:=e) (c:=c) (Ib p e b c X y m H (qbx 74 s #[23] assign body (H.length+5))) hp hp64 he he6 hy ?_ ?_ ?_ ?_ ?_) ?_
  · simp only [Ib,mulR,List.range_zero,List.foldl_nil]
  · rintro k Hb rfl
    simp
  · rintro k Hb rfl
    exact get_new.trans rfl
  · exact get_new.trans rfl
  · rintro k Hb J hk rfl
    simp only [List.append_assoc,List.cons_append]
    have hO:=qqx (e:=e) (k:=k) (m:=m) (x:=X) (y:=digs p y 12) (show 0<p by omega)
    have hY:=qd5 (p:=p) (by omega) 12 y
    have lY:(digs p y 12).length=12:=qbp _ _ _
    have hR:mulR p e m X (digs p y 12) (k+1)=mulS p e m X (mulR p e m X (digs p y 12) k) ((digs p y 12).getD (e-1-k) 0):=by
      simp only [mulR,List.range_succ,List.foldl_append,List.foldl_cons,List.foldl_nil]
    have hc:=getD_lt (k:=e-1-k) (by omega) hY
    have hX:=qd5 (p:=p) (by omega) 12 x
    rw [hD] at hX
    generalize hC:(digs p y 12).getD (e-1-k) 0=C at *
    simp only [Ib,hR]
    generalize hO':mulR p e m X (digs p y 12) k=O at *
    obtain⟨lO,hOp⟩:=hO
    have ht:=getD_lt (k:=e-1) (by omega) hOp
    refine YN.introZ qbs (r:=qbx 74 s #[23] assign body (H.length+5)) (get_new.trans rfl) hA hB rfl (by simp [qbx]) ?_
    simp (disch:=(first|omega|(simp only [List.length_map];omega)|(simp only [qbf]<;>omega)|(simp only [qbd];done)|rfl)) only [↓qbk,zC,zD,zF,zG,zH,Nat.reduceEqDiff,Nat.reduceLT,Nat.reduceLeDiff,↓reduceIte,qcm,qcr,E_ynA]
    refine⟨qbx 74 s #[23] assign body (H.length+5),rfl,rfl,?_⟩
    simp (disch:=(first|omega|(simp only [List.length_map];omega)|(simp only [qbf]<;>omega)|(simp only [qbd];done)|rfl)) only [↓qbk,zC,zD,zF,zG,zH,Nat.reduceEqDiff,Nat.reduceLT,Nat.reduceLeDiff,↓reduceIte,qcm,qcr,e3,e7,e8,qbx]
    clear hA hB
    refine LZ.nat (e-1) (fun k' s' H'=>s'.env 3=.pointer (some ⟨H.length,0,none⟩)∧s'.env 7=.pointer (some ⟨H.length+1,0,none⟩)∧s'.env 8=.pointer (some ⟨H.length+2,0,none⟩)∧s'.env 9=nv C∧s'.env 10=nv (O.getD (e-1) 0)∧s'.env 11=nv (e-1-k')∧s'.ds=[] ∧
     H'=H++(.cells [nv p,nv e,.slice (some ⟨b,0,none⟩) e c] 76 none false :: .cells (X.map nv) 162 none false :: .cells (((List.range k').foldl (shK e) O).map nv) 162 none false :: .cells [nv p,nv e,.slice (some ⟨b,0,none⟩) e c] 76 none false :: .cells [nv y] 3 none false :: .defs (some []) :: .loop { qbx 74 s #[23] assign body (H.length+5) with state:=.busy } :: J)) ?_ ?_ ?_
    · simp (disch:=(first|omega|(simp only [List.length_map];omega)|(simp only [qbf]<;>omega)|(simp only [qbd];done)|rfl)) only [↓qbk,zC,zD,zF,zG,zH,Nat.reduceEqDiff,Nat.reduceLT,Nat.reduceLeDiff,↓reduceIte,qbx]
      simp [e3,e7,e8,qcr]
    · rintro k' s' H1 hk' ⟨f3,f7,f8,f9,f10,f11,fds,rfl⟩
      obtain⟨w1,w2⟩:=qcw (f:=shK e) (p:=p) (n:=12) (fun out k h1 h2=>shK_ok (by omega) h1 h2) (List.range k') O lO hOp
      rw [show List.range (k'+1)=List.range k'++[k'] from List.range_succ,List.foldl_append]
      generalize hW:(List.range k').foldl (shK e) O=V at *
      have g1:=getD_lt (k:=e-1-k'-1) (by omega) w2
      have hpos:0<e-1-k':=by omega
      simp (disch:=(first|omega|(simp only [List.length_map];omega)|(simp only [qbf]<;>omega)|(simp only [qbd];done)|rfl)) only [↓qbk,zC,zD,zF,zG,zH,Nat.reduceEqDiff,Nat.reduceLT,Nat.reduceLeDiff,↓reduceIte,f3,f7,f8,f9,f10,f11,fds,hpos]
      rw [show e-1-(k'+1)=e-1-k'-1 by omega]
      simp [shK]
    · rintro s' H1 ⟨f3,f7,f8,f9,f10,f11,fds,rfl⟩
      obtain⟨w1,w2⟩:=sh0_ok (p:=p) (e:=e) (n:=12) (k:=e-1) (by omega) lO hOp
      obtain⟨w3,w4⟩:=qcw (f:=shK e) (p:=p) (n:=12) (fun out k h1 h2=>shK_ok (by omega) h1 h2) (List.range (e-1)) O lO hOp
      have hneg:¬0<e-1-(e-1):=by omega
      simp (disch:=(first|omega|(simp only [List.length_map];omega)|(simp only [qbf]<;>omega)|(simp only [qbd];done)|rfl)) only [↓qbk,zC,zD,zF,zG,zH,Nat.reduceEqDiff,Nat.reduceLT,Nat.reduceLeDiff,↓reduceIte,f3,f7,f8,f9,f10,f11,fds,hneg]
      generalize hW:((List.range (e-1)).foldl (shK e) O).set 0 0=W at *
      generalize hT:O.getD (e-1) 0=T at *
      refine LZ.nat e (fun k' s' H'=>s'.env 3=.pointer (some ⟨H.length,0,none⟩)∧s'.env 7=.pointer (some ⟨H.length+1,0,none⟩)∧s'.env 8=.pointer (some ⟨H.length+2,0,none⟩)∧s'.env 9=nv C∧s'.env 10=nv T∧s'.env 44=nv e∧s'.env 45=nv k'∧s'.ds=[] ∧
     H' = H++(.cells [nv p,nv e,.slice (some ⟨b,0,none⟩) e c] 76 none false :: .cells (X.map nv) 162 none false :: .cells (((List.range k').foldl (mdK p T C m X) W).map nv) 162 none false :: .cells [nv p,nv e,.slice (some ⟨b,0,none⟩) e c] 76 none false :: .cells [nv y] 3 none false :: .defs (some []) :: .loop { qbx 74 s #[23] assign body (H.length+5) with state:=.busy } :: J)) ?_ ?_ ?_
      · simp (disch:=(first|omega|(simp only [List.length_map];omega)|(simp only [qbf]<;>omega)|(simp only [qbd];done)|rfl)) only [↓qbk,zC,zD,zF,zG,zH,Nat.reduceEqDiff,Nat.reduceLT,Nat.reduceLeDiff,↓reduceIte,qbx]
        simp [f3,f7,f8,f9,f10,hW,fds]
      · rintro i s1 H1 hi ⟨g3,g7,g8,g9,g10,g44,g45,gds,rfl⟩
        obtain⟨w5,w6⟩:=qcw (f:=mdK p T C m X) (p:=p) (n:=12) (fun out k h1 h2=>mdK_ok (by omega) h1 h2) (List.range i) W w1 w2
        rw [show List.range (i+1)=List.range i++[i] from List.range_succ,List.foldl_append]
        generalize hV:(List.range i).foldl (mdK p T C m X) W=V at *
        have v1:=getD_lt (k:=i) (by omega) w6
        have v2:=getD_lt (k:=i) (by omega) hX
        have v3:=getD_lt (k:=i) (by omega) hmp
        have m1:T*m.getD i 0≤64*64:=Nat.mul_le_mul (by omega) (by omega)
        have m2:C*X.getD i 0≤64*64:=Nat.mul_le_mul (by omega) (by omega)
        simp (disch:=(first|omega|(simp only [List.length_map];omega)|(simp only [qbf]<;>omega)|(simp only [qbd];done)|rfl)) only [↓qbk,zC,zD,zF,zG,zH,Nat.reduceEqDiff,Nat.reduceLT,Nat.reduceLeDiff,↓reduceIte,g3,g7,g8,g9,g10,g44,g45,gds,hi,hb2,xbin_subZ,xbin_addZ]
        refine FZ.use (mul_modN hp hp64) ?_
        simp (disch:=(first|omega|(simp only [List.length_map];omega)|(simp only [qbf]<;>omega)|(simp only [qbd];done)|rfl)) only [↓qbk,zC,zD,zF,zG,zH,Nat.reduceEqDiff,Nat.reduceLT,Nat.reduceLeDiff,↓reduceIte,g3,g7,g8,g9,g10,g44,g45,gds,hi,hb2]
        simp only [List.foldl_cons,List.foldl_nil,mdK]
      · rintro s1 H1 ⟨g3,g7,g8,g9,g10,g44,g45,gds,rfl⟩
        simp (disch:=(first|omega|(simp only [List.length_map];omega)|(simp only [qbf]<;>omega)|(simp only [qbd];done)|rfl)) only [↓qbk,zC,zD,zF,zG,zH,Nat.reduceEqDiff,Nat.reduceLT,Nat.reduceLeDiff,↓reduceIte,g3,g7,g8,g9,g10,g44,g45,gds,E_ynB]
        refine⟨_,rfl,rfl,_,[],?_,rfl⟩
        simp only [mulS,hT,hW,qbx,List.append_nil,List.append_assoc,List.cons_append,List.nil_append]
        rfl
  · rintro v H' ⟨Hb,J,rfl,rfl⟩
    have hO:=qqx (e:=e) (k:=e) (m:=m) (x:=X) (y:=digs p y 12) (show 0<p by omega)
    obtain⟨lO,hOp⟩:=hO
    simp only [List.append_assoc,List.cons_append,List.nil_append]
    refine⟨qbx 74 s #[23] assign body (H.length+5),.normal,get_new.trans rfl,by simp [qbx],rfl,?_⟩
    refine EZ_of ?_
    simp (disch:=(first|omega|(simp only [List.length_map];omega)|(simp only [qbf]<;>omega)|(simp only [qbd];done)|rfl)) only [↓qbk,zC,zD,zF,zG,zH,Nat.reduceEqDiff,Nat.reduceLT,Nat.reduceLeDiff,↓reduceIte,e3,e8,xf131,qbx]
    refine FZ.use (qrj hp he6 hq lO (fun z hz=>hOp z (List.mem_of_mem_take hz))) ?_
    simp (disch:=(first|omega|(simp only [List.length_map];omega)|(simp only [qbf]<;>omega)|(simp only [qbd];done)|rfl)) only [↓qbk,zC,zD,zF,zG,zH,Nat.reduceEqDiff,Nat.reduceLT,Nat.reduceLeDiff,↓reduceIte,e3,e8,xf131,qbx,eds]
    rw [qpc (get_new.trans rfl)]
    simp (disch:=(first|omega|(simp only [List.length_map];omega)|(simp only [qbf]<;>omega)|(simp only [qbd];done)|rfl)) only [↓qbk,zC,zD,zF,zG,zH,Nat.reduceEqDiff,Nat.reduceLT,Nat.reduceLeDiff,↓reduceIte,e3,e8,xf131,qbx,eds]
    simp [mulF,ground,scal,hD]
end Go.Sim.Pf

namespace Go.Sim.Pf
open Go Go.Proofs
theorem nth_zero {α:Type} {a:α} {l:List α}:nth (a :: l) 0=some a:=rfl
theorem nth_succ {α:Type} {a:α} {l:List α} {n:Nat}:nth (a :: l) (n+1)=nth l n:=rfl
theorem nth_nil {α:Type} {n:Nat}:nth ([]:List α) n=none:=by cases n<;>rfl
def TabOk (P:Program) (k:Nat) (l:List (Option XF)):Prop:=∀ g xf,nth l g=some (some xf)→qb3 P (k+g)=some xf
theorem TabOk.z {P:Program} {k:Nat}:TabOk P k []:=by intro g xf h;rw [nth_nil] at h;cases h
theorem TabOk.s {P:Program} {k:Nat} {x:XF} {l:List (Option XF)} (hx:qb3 P k=some x) (h:TabOk P (k+1) l):TabOk P k (some x :: l):=by
  intro g xf hg
  cases g with
  | zero=>rw [nth_zero] at hg;cases hg;exact hx
  | succ g=>rw [nth_succ] at hg;rw [show k+(g+1)=k+1+g by omega];exact h g xf hg
theorem TabOk.n {P:Program} {k:Nat} {l:List (Option XF)} (h:TabOk P (k+1) l):TabOk P k (none :: l):=by
  intro g xf hg
  cases g with
  | zero=>rw [nth_zero] at hg;cases hg
  | succ g=>rw [nth_succ] at hg;rw [show k+(g+1)=k+1+g by omega];exact h g xf hg
def tab:List (Option XF):=[none,none,none,none,none,none,none,none,none,none,none,none,none,none,none,none,none,none,none,none,none,none,none,none,none,none,none,none,none,none,none,none,none,none,none,none,none,none,none,none,none,none,none,none,none,none,none,none,none,none,none,none,none,none,none,none,none,none,none,none,none,none,none,none,none,none,none,none,none,none,none,none,none,none,none,none,none,none,none,none,none,some xf81,none,none,none,none,none,some xf87,none,none,none,none,none,none,none,none,some xf96,none,none,none,none,none,some xf102,none,none,none,none,some xf107,none,some xf109,none,some xf111,none,none,none,some xf115,none,none,none,none,none,none,none,none,none,none,none,none,none,none,none,some xf131,some xf132,none,none,some xf135,some xf136,none,none,none,none,none,some xf142,none,none,some xf145,some xf146,none,some xf148,none,some xf150,none,none,none,none,none,none,none,none,none,none,none,none,none,none,none,some xf166,some xf167,some xf168,some xf169,some xf170,some xf171,some xf172,none,some xf174,some xf175,some xf176,none,none,none,none,none,none,none,none,none,some xf186,some xf187,some xf188,none,none,none,none,none,none,none,none,none,none,none,some xf200,some xf201,some xf202,some xf203,none,none,none,none,some xf208,some xf209,some xf210,none,none,none,none,none,none,none,some xf218]
theorem tab_ok:TabOk Tryz.prog 0 tab:=(.n (.n (.n (.n (.n (.n (.n (.n (.n (.n (.n (.n (.n (.n (.n (.n (.n (.n (.n (.n (.n (.n (.n (.n (.n (.n (.n (.n (.n (.n (.n (.n (.n (.n (.n (.n (.n (.n (.n (.n (.n (.n (.n (.n (.n (.n (.n (.n (.n (.n (.n (.n (.n (.n (.n (.n (.n (.n (.n (.n (.n (.n (.n (.n (.n (.n (.n (.n (.n (.n (.n (.n (.n (.n (.n (.n (.n (.n (.n (.n (.n (.s xf81_ok (.n (.n (.n (.n (.n (.s xf87_ok (.n (.n (.n (.n (.n (.n (.n (.n (.s xf96_ok (.n (.n (.n (.n (.n (.s xf102_ok (.n (.n (.n (.n (.s xf107_ok (.n (.s xf109_ok (.n (.s xf111_ok (.n (.n (.n (.s xf115_ok (.n (.n (.n (.n (.n (.n (.n (.n (.n (.n (.n (.n (.n (.n (.n (.s xf131_ok (.s xf132_ok (.n (.n (.s xf135_ok (.s xf136_ok (.n (.n (.n (.n (.n (.s xf142_ok (.n (.n (.s xf145_ok (.s xf146_ok (.n (.s xf148_ok (.n (.s xf150_ok (.n (.n (.n (.n (.n (.n (.n (.n (.n (.n (.n (.n (.n (.n (.n (.s xf166_ok (.s xf167_ok (.s xf168_ok (.s xf169_ok (.s xf170_ok (.s xf171_ok (.s xf172_ok (.n (.s xf174_ok (.s xf175_ok (.s xf176_ok (.n (.n (.n (.n (.n (.n (.n (.n (.n (.s xf186_ok (.s xf187_ok (.s xf188_ok (.n (.n (.n (.n (.n (.n (.n (.n (.n (.n (.n (.s xf200_ok (.s xf201_ok (.s xf202_ok (.s xf203_ok (.n (.n (.n (.n (.s xf208_ok (.s xf209_ok (.s xf210_ok (.n (.n (.n (.n (.n (.n (.n (.s xf218_ok .z)))))))))))))))))))))))))))))))))))))))))))))))))))))))))))))))))))))))))))))))))))))))))))))))))))))))))))))))))))))))))))))))))))))))))))))))))))))))))))))))))))))))))))))))))))))))))))))))))))))))))))))))))))))))))))
noncomputable def xfT (g:FuncId):Option XF:=Option.rec none (fun x=>x) (nth tab g)
theorem xfT_ok (g:FuncId) (xf:XF) (h:xfT g=some xf):qb3 Tryz.prog g=some xf:=by
  unfold xfT at h
  cases e:nth tab g with
  | none=>rw [e] at h;cases h
  | some x =>
    rw [e] at h
    have:=tab_ok g xf (by rw [e];exact congrArg some h)
    rwa [Nat.zero_add] at this
end Go.Sim.Pf
