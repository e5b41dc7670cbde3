/- Part of the proof: RtG1. -/
import Derived.Test.YtgcoidbhikfdkaaPShS
import Derived.Test.YtgcoidbhikfdkaaPShMix
import Derived.KernelRfl
set_option linter.all false
set_option maxRecDepth 100000
namespace Go.Sim
open Go Go.Proofs
def xd14 : XD := (.seq (.reg [yS 0 1 (.box 24) [oT 0], yS 1 2 (.new [(nv 0), (nv 0)] 25) []]) (.seq (.reg [yS 0 3 (.fld 0) [oT 1], yS 1 4 (.ld none) [oT 3], yS 2 5 (.bin .rem 0) [oT 4, oC (.int .u8 3)], yS 3 6 (.conv .i64) [oT 5], yS 4 7 (.bin .add 0) [oC (nv 2), oT 6], yS 5 8 (.fld 1) [oT 1], yS 6 9 (.ld none) [oT 8], yS 7 10 (.bin .rem 0) [oT 9, oC (.int .u8 7)], yS 8 11 (.conv .i64) [oT 10], yS 9 12 (.bld [(nv 0), (nv 0)] [(0, 1), (1, 1)]) [oT 7, oT 11], yN 10 (.st 2) [oT 2, oT 12]]) .ret))
theorem xd14_ok : compF Try.prog 14 = some ⟨13, [(.cell 2 (some 2))], xd14.er⟩ := by kernel_rfl
def g14 (x0 : Value) (H : AH) (R : Value → AH → Prop) : Prop :=
 @letH (H ++ [.cells (cellsL x0) 24 none false]) ⟨fun H1 =>
 @letH (H1 ++ [.cells [(nv 0), (nv 0)] 25 none false]) ⟨fun H2 =>
 @bindO (xpure (.fld 0) [(.pointer (some ⟨H.length, 0, none⟩))]) ⟨fun v3 =>
 @bindO (xload none H2 [v3]) ⟨fun v4 =>
 @bindO (xbin .rem 0 v4 (.int .u8 3)) ⟨fun v5 =>
 @bindO (xpure (.conv .i64) [v5]) ⟨fun v6 =>
 @bindO (xbin .add 0 (nv 2) v6) ⟨fun v7 =>
 @bindO (xpure (.fld 1) [(.pointer (some ⟨H.length, 0, none⟩))]) ⟨fun v8 =>
 @bindO (xload none H2 [v8]) ⟨fun v9 =>
 @bindO (xbin .rem 0 v9 (.int .u8 7)) ⟨fun v10 =>
 @bindO (xpure (.conv .i64) [v10]) ⟨fun v11 =>
 @bindL (xfill [(nv 0), (nv 0)] [(0, 1), (1, 1)] [v7, v11]) ⟨fun v12 =>
 @bindP (xact (.st 2) H2 [(.pointer (some ⟨H1.length, 0, none⟩)), (.agg v12.toArray)]) ⟨fun _v H3 =>
 @bindO (xload (some 2) H3 [(.pointer (some ⟨H1.length, 0, none⟩))]) ⟨fun r0 => R r0 H3⟩⟩⟩⟩⟩⟩⟩⟩⟩⟩⟩⟩⟩⟩
theorem g14_of {x0 : Value} {H : AH} {R : Value → AH → Prop} (h : g14 x0 H R) : FN Try.prog 14 [x0] H R :=
  FN.of_XD mixed xd14_ok (by kernel_rfl) (Nat.le_of_ble_eq_true rfl) (cast (by kernel_rfl) h)
def xd17 : XD := (.seq (.reg [yS 0 5 (.box 25) [oT 2], yS 1 6 (.new [(nv 0), (nv 0)] 39) []]) (.seq (.reg [yS 0 10 .mov [oT 0], yS 1 11 .mov [oT 1], yS 2 12 (.ixA 2 1) [oT 5, oC (nv 0)], yS 3 13 (.ld none) [oT 12], yS 4 14 (.ixA 2 1) [oT 5, oC (nv 1)], yS 5 15 (.ld none) [oT 14], yS 6 16 .call [oF 75, oT 10, oT 11, oT 13, oT 15], yS 7 9 .mov [oT 16], yS 8 17 (.ext 0) [oT 9], yS 9 18 (.ext 1) [oT 9], yS 10 7 .mov [oT 17], yS 11 8 .mov [oT 18]]) (.seq (.reg [yS 0 19 .mov [oT 7], yS 1 20 .mov [oT 8], yS 2 21 (.bld [(nv 0), (nv 0)] [(0, 1), (1, 1)]) [oT 19, oT 20], yN 3 (.st 2) [oT 6, oT 21]]) .ret)))
theorem xd17_ok : compF Try.prog 17 = some ⟨22, [(.cell 6 (some 2))], xd17.er⟩ := by kernel_rfl
def xd19 : XD := (.seq (.reg [yS 0 2 (.box 43) [oT 0], yS 1 3 (.box 43) [oT 1], yS 2 4 .mov [oC (.bool false)]]) (.seq (.reg [yS 0 5 (.fld 1) [oT 2], yS 1 6 (.ld none) [oT 5], yS 2 7 (.fld 1) [oT 3], yS 3 8 (.ld none) [oT 7], yS 4 9 (.bin .eql 0) [oT 6, oT 8], yS 5 10 .mov [oT 9], yG (some (10, true)) 6 (some 11) (.fld 0) [oT 2], yG (some (10, true)) 7 (some 12) (.ld none) [oT 11], yG (some (10, true)) 8 (some 13) (.fld 0) [oT 3], yG (some (10, true)) 9 (some 14) (.ld none) [oT 13], yG (some (10, true)) 10 (some 15) .call [oF 69, oT 12, oT 14], yS 11 16 .pick [oT 10, oT 15, oC (.bool false)], yS 12 4 .mov [oT 16]]) .ret))
theorem xd19_ok : compF Try.prog 19 = some ⟨17, [(.tmp 4)], xd19.er⟩ := by kernel_rfl
def xd20 : XD := (.seq (.reg [yS 0 6 (.new [(.slice none 0 0), (nv 0)] 43) []]) (.seq (.reg [yS 0 10 .mov [oT 0], yS 1 11 .mov [oT 1], yS 2 12 .mov [oT 2], yS 3 13 .call [oF 78, oT 10, oT 11, oT 12], yS 4 9 .mov [oT 13], yS 5 14 (.ext 0) [oT 9], yS 6 15 (.ext 1) [oT 9], yS 7 7 .mov [oT 14], yS 8 8 .mov [oT 15]]) (.seq (.reg [yS 0 16 .mov [oT 7], yS 1 17 .mov [oT 8], yS 2 18 (.bld [(.slice none 0 0), (nv 0)] [(0, 1), (1, 1)]) [oT 16, oT 17], yN 3 (.st 2) [oT 6, oT 18]]) .ret)))
theorem xd20_ok : compF Try.prog 20 = some ⟨19, [(.cell 6 (some 2))], xd20.er⟩ := by kernel_rfl
def xd22 : XD := (.seq (.reg [yS 0 2 (.box 36) [oT 0], yS 1 3 (.box 36) [oT 1], yS 2 4 .mov [oC (.bool false)]]) (.seq (.reg [yS 0 5 (.fld 1) [oT 2], yS 1 6 (.ld none) [oT 5], yS 2 7 (.fld 1) [oT 3], yS 3 8 (.ld none) [oT 7], yS 4 9 (.bin .eql 0) [oT 6, oT 8], yS 5 10 .mov [oT 9], yG (some (10, true)) 6 (some 11) (.fld 0) [oT 2], yG (some (10, true)) 7 (some 12) (.ld none) [oT 11], yG (some (10, true)) 8 (some 13) (.fld 0) [oT 3], yG (some (10, true)) 9 (some 14) (.ld none) [oT 13], yG (some (10, true)) 10 (some 15) .call [oF 70, oT 12, oT 14], yS 11 16 .pick [oT 10, oT 15, oC (.bool false)], yS 12 4 .mov [oT 16]]) .ret))
theorem xd22_ok : compF Try.prog 22 = some ⟨17, [(.tmp 4)], xd22.er⟩ := by kernel_rfl
def xd23 : XD := (.seq (.reg [yS 0 6 (.new [(.slice none 0 0), (nv 0)] 36) []]) (.seq (.reg [yS 0 10 .mov [oT 0], yS 1 11 .mov [oT 1], yS 2 12 .mov [oT 2], yS 3 13 .call [oF 79, oT 10, oT 11, oT 12], yS 4 9 .mov [oT 13], yS 5 14 (.ext 0) [oT 9], yS 6 15 (.ext 1) [oT 9], yS 7 7 .mov [oT 14], yS 8 8 .mov [oT 15]]) (.seq (.reg [yS 0 16 .mov [oT 7], yS 1 17 .mov [oT 8], yS 2 18 (.bld [(.slice none 0 0), (nv 0)] [(0, 1), (1, 1)]) [oT 16, oT 17], yN 3 (.st 2) [oT 6, oT 18]]) .ret)))
theorem xd23_ok : compF Try.prog 23 = some ⟨19, [(.cell 6 (some 2))], xd23.er⟩ := by kernel_rfl
def g23 (q0 n1 words2 : Value) (H : AH) (R : Value → AH → Prop) : Prop :=
 @letH (H ++ [.cells [(.slice none 0 0), (nv 0)] 36 none false]) ⟨fun H1 =>
 @cG 79 [q0, n1, words2] H1 ⟨fun v13 H2 =>
 @bindO (xpure (.ext 0) [v13]) ⟨fun v14 =>
 @bindO (xpure (.ext 1) [v13]) ⟨fun v15 =>
 @bindL (xfill [(.slice none 0 0), (nv 0)] [(0, 1), (1, 1)] [v14, v15]) ⟨fun v18 =>
 @bindP (xact (.st 2) H2 [(.pointer (some ⟨H.length, 0, none⟩)), (.agg v18.toArray)]) ⟨fun _v H3 =>
 @bindO (xload (some 2) H3 [(.pointer (some ⟨H.length, 0, none⟩))]) ⟨fun r0 => R r0 H3⟩⟩⟩⟩⟩⟩⟩
theorem g23_of {q0 n1 words2 : Value} {H : AH} {R : Value → AH → Prop} (h : g23 q0 n1 words2 H R) : FN Try.prog 23 [q0, n1, words2] H R :=
  FN.of_XD mixed xd23_ok (by kernel_rfl) (Nat.le_of_ble_eq_true rfl) (cast (by kernel_rfl) h)
def xd24 : XD := (.seq (.reg [yS 0 6 (.new [(.slice none 0 0), (nv 0)] 36) []]) (.seq (.reg [yS 0 10 .mov [oT 0], yS 1 11 .mov [oT 1], yS 2 12 .mov [oT 2], yS 3 13 .call [oF 80, oT 10, oT 11, oT 12], yS 4 9 .mov [oT 13], yS 5 14 (.ext 0) [oT 9], yS 6 15 (.ext 1) [oT 9], yS 7 7 .mov [oT 14], yS 8 8 .mov [oT 15]]) (.seq (.reg [yS 0 16 .mov [oT 7], yS 1 17 .mov [oT 8], yS 2 18 (.bld [(.slice none 0 0), (nv 0)] [(0, 1), (1, 1)]) [oT 16, oT 17], yN 3 (.st 2) [oT 6, oT 18]]) .ret)))
theorem xd24_ok : compF Try.prog 24 = some ⟨19, [(.cell 6 (some 2))], xd24.er⟩ := by kernel_rfl
def g24 (q0 n1 d2 : Value) (H : AH) (R : Value → AH → Prop) : Prop :=
 @letH (H ++ [.cells [(.slice none 0 0), (nv 0)] 36 none false]) ⟨fun H1 =>
 @cG 80 [q0, n1, d2] H1 ⟨fun v13 H2 =>
 @bindO (xpure (.ext 0) [v13]) ⟨fun v14 =>
 @bindO (xpure (.ext 1) [v13]) ⟨fun v15 =>
 @bindL (xfill [(.slice none 0 0), (nv 0)] [(0, 1), (1, 1)] [v14, v15]) ⟨fun v18 =>
 @bindP (xact (.st 2) H2 [(.pointer (some ⟨H.length, 0, none⟩)), (.agg v18.toArray)]) ⟨fun _v H3 =>
 @bindO (xload (some 2) H3 [(.pointer (some ⟨H.length, 0, none⟩))]) ⟨fun r0 => R r0 H3⟩⟩⟩⟩⟩⟩⟩
theorem g24_of {q0 n1 d2 : Value} {H : AH} {R : Value → AH → Prop} (h : g24 q0 n1 d2 H R) : FN Try.prog 24 [q0, n1, d2] H R :=
  FN.of_XD mixed xd24_ok (by kernel_rfl) (Nat.le_of_ble_eq_true rfl) (cast (by kernel_rfl) h)
def xd26 : XD := (.seq (.reg [yS 0 2 (.new [(nv 0), (nv 0)] 51) []]) (.seq (.reg [yS 0 3 .mov [oT 0], yS 1 4 (.bld [(nv 0), (nv 0)] [(0, 1), (1, 1)]) [oT 3, oC (nv 1)], yN 2 (.st 2) [oT 2, oT 4]]) .ret))
theorem xd26_ok : compF Try.prog 26 = some ⟨5, [(.cell 2 (some 2))], xd26.er⟩ := by kernel_rfl
def g26 (n0 : Value) (H : AH) (R : Value → AH → Prop) : Prop :=
 @letH (H ++ [.cells [(nv 0), (nv 0)] 51 none false]) ⟨fun H1 =>
 @bindL (xfill [(nv 0), (nv 0)] [(0, 1), (1, 1)] [n0, (nv 1)]) ⟨fun v4 =>
 @bindP (xact (.st 2) H1 [(.pointer (some ⟨H.length, 0, none⟩)), (.agg v4.toArray)]) ⟨fun _v H2 =>
 @bindO (xload (some 2) H2 [(.pointer (some ⟨H.length, 0, none⟩))]) ⟨fun r0 => R r0 H2⟩⟩⟩⟩
theorem g26_of {n0 : Value} {H : AH} {R : Value → AH → Prop} (h : g26 n0 H R) : FN Try.prog 26 [n0] H R :=
  FN.of_XD mixed xd26_ok (by kernel_rfl) (Nat.le_of_ble_eq_true rfl) (cast (by kernel_rfl) h)
def xd27 : XD := (.seq (.reg [yS 0 4 .mov [oC (nv 0)]]) (.seq (.reg [yS 0 5 .mov [oC (nv 1)]]) (.seq (.seq (.reg [yS 0 6 .mov [oC (nv 0)]]) (.block 0 (.loop [5, 6] 32736 (.seq (.seq (.reg [yS 0 7 .mov [oT 6], yS 1 8 .mov [oT 1], yS 2 9 (.bin .lss 0) [oT 7, oT 8]]) (.cond (oT 9) .skip (.exit 0))) (.seq (.block 1 (.reg [yS 0 12 .mov [oT 5], yS 1 13 .mov [oT 0], yS 2 14 (.bin .mul 0) [oT 12, oT 13], yS 3 5 .mov [oT 14]])) (.reg [yS 0 10 .mov [oT 6], yS 1 11 (.bin .add 0) [oT 10, oC (nv 1)], yS 2 6 .mov [oT 11]])))))) (.seq (.reg [yS 0 15 .mov [oT 5], yS 1 4 .mov [oT 15]]) .ret))))
theorem xd27_ok : compF Try.prog 27 = some ⟨16, [(.tmp 4)], xd27.er⟩ := by kernel_rfl
def g27 (a0 n1 : Value) (H : AH) (R : Value → AH → Prop) : Prop :=
 @loopV2 (nv 1) (nv 0) H ⟨fun out5 i6 H1 K1 =>
 @bindO (xbin .lss 0 i6 n1) ⟨fun v9 =>
 @condK v9 ⟨fun q => if q = true then @bindO (xbin .mul 0 out5 a0) ⟨fun v14 =>
 @bindO (xbin .add 0 i6 (nv 1)) ⟨fun v11 =>
 K1 v14 v11 H1⟩⟩ else
 R out5 H1⟩⟩⟩
theorem g27_of {a0 n1 : Value} {H : AH} {R : Value → AH → Prop} (h : g27 a0 n1 H R) : FN Try.prog 27 [a0, n1] H R :=
  FN.of_XD mixed xd27_ok (by kernel_rfl) (Nat.le_of_ble_eq_true rfl) (cast (by kernel_rfl) h)
def xd28 : XD := (.seq (.reg [yS 0 3 (.box 25) [oT 0], yS 1 6 .mov [oC (.bool false)]]) (.seq (.seq (.reg [yS 0 14 .mov [oT 1], yS 1 15 .lenS [oT 14], yS 2 16 (.ixA 2 1) [oT 3, oC (nv 0)], yS 3 17 (.ld none) [oT 16], yS 4 18 .mov [oT 2], yS 5 19 .call [oF 27, oT 17, oT 18], yS 6 20 (.bin .rem 0) [oT 15, oT 19], yS 7 21 (.bin .neq 0) [oT 20, oC (nv 0)]]) (.cond (oT 21) (.seq (.reg [yS 0 6 .mov [oC (.bool false)]]) .ret) .skip)) (.seq (.reg [yS 0 22 .mov [oT 1], yS 1 23 .lenS [oT 22], yS 2 24 (.ixA 2 1) [oT 3, oC (nv 0)], yS 3 25 (.ld none) [oT 24], yS 4 26 .mov [oT 2], yS 5 27 .call [oF 27, oT 25, oT 26], yS 6 28 (.bin .quo 0) [oT 23, oT 27], yS 7 7 .mov [oT 28]]) (.seq (.seq (.reg [yS 0 8 .mov [oC (nv 0)]]) (.block 0 (.loop [8] 9903520314283042198656139072 (.seq (.seq (.reg [yS 0 29 .mov [oT 8], yS 1 30 (.ixA 2 1) [oT 3, oC (nv 1)], yS 2 31 (.ld none) [oT 30], yS 3 32 (.conv .u64) [oT 31], yS 4 33 (.bin .shl 0) [oC (nv 1), oT 32], yS 5 34 (.bin .lss 0) [oT 29, oT 33]]) (.cond (oT 34) .skip (.exit 0))) (.join [] 9903520314283042061754056256 (.block 1 (.seq (.seq (.reg [yS 0 37 .mov [oT 8], yS 1 38 (.conv .u64) [oT 37], yS 2 39 .call [oF 85, oT 38], yS 3 40 .mov [oT 2], yS 4 41 (.bin .neq 0) [oT 39, oT 40]]) (.cond (oT 41) (.exit 1) .skip)) (.seq (.reg [yS 0 42 (.ixA 2 1) [oT 3, oC (nv 0)], yS 1 43 (.ld none) [oT 42], yS 2 44 .mov [oT 2], yS 3 45 .call [oF 27, oT 43, oT 44], yS 4 46 (.make (nv 0) 1 8 3) [oT 45, oT 45], yS 5 9 .mov [oT 46]]) (.seq (.seq (.reg [yS 0 10 .mov [oC (nv 0)]]) (.block 2 (.loop [10] 2417851639088520861064192 (.seq (.seq (.reg [yS 0 47 .mov [oT 10], yS 1 48 .mov [oT 1], yS 2 49 .lenS [oT 48], yS 3 50 (.bin .lss 0) [oT 47, oT 49]]) (.cond (oT 50) .skip (.exit 2))) (.seq (.block 3 (.seq (.reg [yS 0 11 .mov [oC (nv 0)]]) (.seq (.seq (.reg [yS 0 12 .mov [oC (nv 0)]]) (.block 4 (.loop [11, 12] 37778922855757906974720 (.seq (.seq (.reg [yS 0 53 .mov [oT 12], yS 1 54 (.ixA 2 1) [oT 3, oC (nv 1)], yS 2 55 (.ld none) [oT 54], yS 3 56 (.bin .lss 0) [oT 53, oT 55]]) (.cond (oT 56) .skip (.exit 4))) (.join [11] 37778355402204858288128 (.block 5 (.seq (.reg [yS 0 59 .mov [oT 8], yS 1 60 (.conv .u64) [oT 59], yS 2 61 .mov [oT 12], yS 3 62 .call [oF 86, oT 60, oT 61]]) (.cond (oT 62) (.reg [yS 0 63 (.ixA 2 1) [oT 3, oC (nv 0)], yS 1 64 (.ld none) [oT 63], yS 2 65 .mov [oT 11], yS 3 66 (.bin .mul 0) [oT 64, oT 65], yS 4 67 .mov [oT 1], yS 5 68 .mov [oT 10], yS 6 69 (.ixS 1) [oT 67, oT 68], yS 7 70 (.ld none) [oT 69], yS 8 71 .mov [oT 12], yS 9 72 (.ixS 1) [oT 70, oT 71], yS 10 73 (.ld none) [oT 72], yS 11 74 (.bin .add 0) [oT 66, oT 73], yS 12 11 .mov [oT 74]]) .skip))) (.reg [yS 0 57 .mov [oT 12], yS 1 58 (.bin .add 0) [oT 57, oC (nv 1)], yS 2 12 .mov [oT 58]])))))) (.reg [yS 0 75 .mov [oT 9], yS 1 76 .mov [oT 11], yS 2 77 (.ixS 1) [oT 75, oT 76], yS 3 78 (.ld none) [oT 77], yS 4 79 (.bin .add 0) [oT 78, oC (nv 1)], yS 5 80 (.ixS 1) [oT 75, oT 76], yN 6 (.st 1) [oT 80, oT 79]])))) (.reg [yS 0 51 .mov [oT 10], yS 1 52 (.bin .add 0) [oT 51, oC (nv 1)], yS 2 10 .mov [oT 52]])))))) (.seq (.reg [yS 0 13 .mov [oC (nv 0)]]) (.block 6 (.loop [13] 9901102462643812940843589696 (.seq (.seq (.reg [yS 0 81 .mov [oT 13], yS 1 82 .mov [oT 9], yS 2 83 .lenS [oT 82], yS 3 84 (.bin .lss 0) [oT 81, oT 83]]) (.cond (oT 84) .skip (.exit 6))) (.seq (.block 7 (.seq (.reg [yS 0 87 .mov [oT 9], yS 1 88 .mov [oT 13], yS 2 89 (.ixS 1) [oT 87, oT 88], yS 3 90 (.ld none) [oT 89], yS 4 91 .mov [oT 7], yS 5 92 (.bin .neq 0) [oT 90, oT 91]]) (.cond (oT 92) (.seq (.reg [yS 0 6 .mov [oC (.bool false)]]) .ret) .skip))) (.reg [yS 0 85 .mov [oT 13], yS 1 86 (.bin .add 0) [oT 85, oC (nv 1)], yS 2 13 .mov [oT 86]])))))))))) (.reg [yS 0 35 .mov [oT 8], yS 1 36 (.bin .add 0) [oT 35, oC (nv 1)], yS 2 8 .mov [oT 36]])))))) (.seq (.reg [yS 0 6 .mov [oC (.bool true)]]) .ret)))))
theorem xd28_ok : compF Try.prog 28 = some ⟨93, [(.tmp 6)], xd28.er⟩ := by kernel_rfl
def g28 (s0 l1 k2 : Value) (H : AH) (R : Value → AH → Prop) : Prop :=
 @letH (H ++ [.cells (cellsL s0) 25 none false]) ⟨fun H1 =>
 @bindO (xpure .lenS [l1]) ⟨fun v15 =>
 @bindO (xpure (.ixA 2 1) [(.pointer (some ⟨H.length, 0, none⟩)), (nv 0)]) ⟨fun v16 =>
 @bindO (xload none H1 [v16]) ⟨fun v17 =>
 @cG 27 [v17, k2] H1 ⟨fun v19 H2 =>
 @bindO (xbin .rem 0 v15 v19) ⟨fun v20 =>
 @bindO (xbin .neq 0 v20 (nv 0)) ⟨fun v21 =>
 @condK v21 ⟨fun q => if q = true then R (.bool false) H2 else
 @bindO (xpure .lenS [l1]) ⟨fun v23 =>
 @bindO (xpure (.ixA 2 1) [(.pointer (some ⟨H.length, 0, none⟩)), (nv 0)]) ⟨fun v24 =>
 @bindO (xload none H2 [v24]) ⟨fun v25 =>
 @cG 27 [v25, k2] H2 ⟨fun v27 H3 =>
 @bindO (xbin .quo 0 v23 v27) ⟨fun v28 =>
 @loopV1 (nv 0) H3 ⟨fun set8 H4 K1 =>
 @bindO (xpure (.ixA 2 1) [(.pointer (some ⟨H.length, 0, none⟩)), (nv 1)]) ⟨fun v30 =>
 @bindO (xload none H4 [v30]) ⟨fun v31 =>
 @bindO (xpure (.conv .u64) [v31]) ⟨fun v32 =>
 @bindO (xbin .shl 0 (nv 1) v32) ⟨fun v33 =>
 @bindO (xbin .lss 0 set8 v33) ⟨fun v34 =>
 @condK v34 ⟨fun q => if q = true then @joinV0 (fun J2 => @bindO (xpure (.conv .u64) [set8]) ⟨fun v38 =>
 @cG 85 [v38] H4 ⟨fun v39 H5 =>
 @bindO (xbin .neq 0 v39 k2) ⟨fun v41 =>
 @condK v41 ⟨fun q => if q = true then J2 H5 else
 @bindO (xpure (.ixA 2 1) [(.pointer (some ⟨H.length, 0, none⟩)), (nv 0)]) ⟨fun v42 =>
 @bindO (xload none H5 [v42]) ⟨fun v43 =>
 @cG 27 [v43, k2] H5 ⟨fun v45 H6 =>
 @bindN (xnew (.make (nv 0) 1 8 3) [v45, v45]) ⟨fun cv46 ev46 mkv46 => @letH (H6 ++ [.cells cv46 ev46 none false]) ⟨fun H7 =>
 @loopV1 (nv 0) H7 ⟨fun i10 H8 K3 =>
 @bindO (xpure .lenS [l1]) ⟨fun v49 =>
 @bindO (xbin .lss 0 i10 v49) ⟨fun v50 =>
 @condK v50 ⟨fun q => if q = true then @loopV2 (nv 0) (nv 0) H8 ⟨fun v11 c12 H9 K4 =>
 @bindO (xpure (.ixA 2 1) [(.pointer (some ⟨H.length, 0, none⟩)), (nv 1)]) ⟨fun v54 =>
 @bindO (xload none H9 [v54]) ⟨fun v55 =>
 @bindO (xbin .lss 0 c12 v55) ⟨fun v56 =>
 @condK v56 ⟨fun q => if q = true then @joinV1 (fun J5 => @bindO (xpure (.conv .u64) [set8]) ⟨fun v60 =>
 @cG 86 [v60, c12] H9 ⟨fun v62 H10 =>
 @condK v62 ⟨fun q => if q = true then @bindO (xpure (.ixA 2 1) [(.pointer (some ⟨H.length, 0, none⟩)), (nv 0)]) ⟨fun v63 =>
 @bindO (xload none H10 [v63]) ⟨fun v64 =>
 @bindO (xbin .mul 0 v64 v11) ⟨fun v66 =>
 @bindO (xpure (.ixS 1) [l1, i10]) ⟨fun v69 =>
 @bindO (xload none H10 [v69]) ⟨fun v70 =>
 @bindO (xpure (.ixS 1) [v70, c12]) ⟨fun v72 =>
 @bindO (xload none H10 [v72]) ⟨fun v73 =>
 @bindO (xbin .add 0 v66 v73) ⟨fun v74 =>
 J5 v74 H10⟩⟩⟩⟩⟩⟩⟩⟩ else
 J5 v11 H10⟩⟩⟩) ⟨fun v11a H11 =>
 @bindO (xbin .add 0 c12 (nv 1)) ⟨fun v58 =>
 K4 v11a v58 H11⟩⟩ else
 @bindO (xpure (.ixS 1) [(mkv46 H6.length), v11]) ⟨fun v77 =>
 @bindO (xload none H9 [v77]) ⟨fun v78 =>
 @bindO (xbin .add 0 v78 (nv 1)) ⟨fun v79 =>
 @bindO (xpure (.ixS 1) [(mkv46 H6.length), v11]) ⟨fun v80 =>
 @bindP (xact (.st 1) H9 [v80, v79]) ⟨fun _v H12 =>
 @bindO (xbin .add 0 i10 (nv 1)) ⟨fun v52 =>
 K3 v52 H12⟩⟩⟩⟩⟩⟩⟩⟩⟩⟩⟩ else
 @loopV1 (nv 0) H8 ⟨fun i13 H13 K6 =>
 @bindO (xpure .lenS [(mkv46 H6.length)]) ⟨fun v83 =>
 @bindO (xbin .lss 0 i13 v83) ⟨fun v84 =>
 @condK v84 ⟨fun q => if q = true then @bindO (xpure (.ixS 1) [(mkv46 H6.length), i13]) ⟨fun v89 =>
 @bindO (xload none H13 [v89]) ⟨fun v90 =>
 @bindO (xbin .neq 0 v90 v28) ⟨fun v92 =>
 @condK v92 ⟨fun q => if q = true then R (.bool false) H13 else
 @bindO (xbin .add 0 i13 (nv 1)) ⟨fun v86 =>
 K6 v86 H13⟩⟩⟩⟩⟩ else
 J2 H13⟩⟩⟩⟩⟩⟩⟩⟩⟩⟩⟩⟩⟩⟩⟩⟩⟩) ⟨fun H14 =>
 @bindO (xbin .add 0 set8 (nv 1)) ⟨fun v36 =>
 K1 v36 H14⟩⟩ else
 R (.bool true) H4⟩⟩⟩⟩⟩⟩⟩⟩⟩⟩⟩⟩⟩⟩⟩⟩⟩⟩⟩⟩
theorem g28_of {s0 l1 k2 : Value} {H : AH} {R : Value → AH → Prop} (h : g28 s0 l1 k2 H R) : FN Try.prog 28 [s0, l1, k2] H R :=
  FN.of_XD mixed xd28_ok (by kernel_rfl) (Nat.le_of_ble_eq_true rfl) (cast (by kernel_rfl) h)
def xd69 : XD := (.seq (.reg [yS 0 4 .mov [oC (.bool false)]]) (.seq (.seq (.reg [yS 0 6 .mov [oT 0], yS 1 7 .lenS [oT 6], yS 2 8 .mov [oT 1], yS 3 9 .lenS [oT 8], yS 4 10 (.bin .neq 0) [oT 7, oT 9]]) (.cond (oT 10) (.seq (.reg [yS 0 4 .mov [oC (.bool false)]]) .ret) .skip)) (.seq (.seq (.reg [yS 0 5 .mov [oC (nv 0)]]) (.block 0 (.loop [5] 67106864 (.seq (.seq (.reg [yS 0 11 .mov [oT 5], yS 1 12 .mov [oT 0], yS 2 13 .lenS [oT 12], yS 3 14 (.bin .lss 0) [oT 11, oT 13]]) (.cond (oT 14) .skip (.exit 0))) (.seq (.block 1 (.seq (.reg [yS 0 17 .mov [oT 0], yS 1 18 .mov [oT 5], yS 2 19 (.ixS 1) [oT 17, oT 18], yS 3 20 (.ld none) [oT 19], yS 4 21 .mov [oT 1], yS 5 22 .mov [oT 5], yS 6 23 (.ixS 1) [oT 21, oT 22], yS 7 24 (.ld none) [oT 23], yS 8 25 (.bin .neq 0) [oT 20, oT 24]]) (.cond (oT 25) (.seq (.reg [yS 0 4 .mov [oC (.bool false)]]) .ret) .skip))) (.reg [yS 0 15 .mov [oT 5], yS 1 16 (.bin .add 0) [oT 15, oC (nv 1)], yS 2 5 .mov [oT 16]])))))) (.seq (.reg [yS 0 4 .mov [oC (.bool true)]]) .ret))))
theorem xd69_ok : compF Try.prog 69 = some ⟨26, [(.tmp 4)], xd69.er⟩ := by kernel_rfl
def xd70 : XD := (.seq (.reg [yS 0 4 .mov [oC (.bool false)]]) (.seq (.seq (.reg [yS 0 6 .mov [oT 0], yS 1 7 .lenS [oT 6], yS 2 8 .mov [oT 1], yS 3 9 .lenS [oT 8], yS 4 10 (.bin .neq 0) [oT 7, oT 9]]) (.cond (oT 10) (.seq (.reg [yS 0 4 .mov [oC (.bool false)]]) .ret) .skip)) (.seq (.seq (.reg [yS 0 5 .mov [oC (nv 0)]]) (.block 0 (.loop [5] 67106864 (.seq (.seq (.reg [yS 0 11 .mov [oT 5], yS 1 12 .mov [oT 0], yS 2 13 .lenS [oT 12], yS 3 14 (.bin .lss 0) [oT 11, oT 13]]) (.cond (oT 14) .skip (.exit 0))) (.seq (.block 1 (.seq (.reg [yS 0 17 .mov [oT 0], yS 1 18 .mov [oT 5], yS 2 19 (.ixS 2) [oT 17, oT 18], yS 3 20 (.ld (some 2)) [oT 19], yS 4 21 .mov [oT 1], yS 5 22 .mov [oT 5], yS 6 23 (.ixS 2) [oT 21, oT 22], yS 7 24 (.ld (some 2)) [oT 23], yS 8 25 (.bin .neq 5) [oT 20, oT 24]]) (.cond (oT 25) (.seq (.reg [yS 0 4 .mov [oC (.bool false)]]) .ret) .skip))) (.reg [yS 0 15 .mov [oT 5], yS 1 16 (.bin .add 0) [oT 15, oC (nv 1)], yS 2 5 .mov [oT 16]])))))) (.seq (.reg [yS 0 4 .mov [oC (.bool true)]]) .ret))))
theorem xd70_ok : compF Try.prog 70 = some ⟨26, [(.tmp 4)], xd70.er⟩ := by kernel_rfl
def xd75 : XD := (.seq (.reg [yS 0 8 .mov [oC (nv 0)], yS 1 9 .mov [oC (nv 0)]]) (.seq (.seq (.reg [yS 0 10 .mov [oT 0], yS 1 11 .mov [oT 1], yS 2 12 .call [oF 115, oT 10, oT 11], yS 3 13 (.un .not) [oT 12], yS 4 14 .mov [oT 13], yG (some (14, false)) 5 (some 15) .mov [oT 2], yG (some (14, false)) 6 (some 16) (.bin .lss 0) [oT 15, oC (nv 0)], yS 7 17 .pick [oT 14, oC (.bool true), oT 16], yS 8 18 .mov [oT 17], yG (some (18, false)) 9 (some 19) .mov [oT 2], yG (some (18, false)) 10 (some 20) .mov [oT 1], yG (some (18, false)) 11 (some 21) (.bin .gtr 0) [oT 19, oT 20], yS 12 22 .pick [oT 18, oC (.bool true), oT 21], yS 13 23 .mov [oT 22], yG (some (23, false)) 14 (some 24) .mov [oT 3], yG (some (23, false)) 15 (some 25) (.bin .lss 0) [oT 24, oC (nv 0)], yS 16 26 .pick [oT 23, oC (.bool true), oT 25], yS 17 27 .mov [oT 26], yG (some (27, false)) 18 (some 28) .mov [oT 3], yG (some (27, false)) 19 (some 29) .mov [oT 1], yG (some (27, false)) 20 (some 30) (.bin .gtr 0) [oT 28, oT 29], yS 21 31 .pick [oT 27, oC (.bool true), oT 30]]) (.cond (oT 31) (.seq (.reg [yS 0 8 .mov [oC (nv 0)], yS 1 9 .mov [oC (nv 1)]]) .ret) .skip)) (.seq (.seq (.reg [yS 0 32 .mov [oT 0], yS 1 33 .mov [oT 1], yS 2 34 .call [oF 116, oT 32, oT 33, oC (nv 62)], yS 3 35 (.un .not) [oT 34]]) (.cond (oT 35) (.seq (.reg [yS 0 8 .mov [oC (nv 0)], yS 1 9 .mov [oC (nv 2)]]) .ret) .skip)) (.seq (.reg [yS 0 36 .mov [oT 0], yS 1 37 .mov [oT 1], yS 2 38 .mov [oT 2], yS 3 39 .mov [oT 3], yS 4 40 .call [oF 117, oT 36, oT 37, oT 38, oT 39], yS 5 8 .mov [oT 40], yS 6 9 .mov [oC (nv 0)]]) .ret))))
theorem xd75_ok : compF Try.prog 75 = some ⟨41, [(.tmp 8), (.tmp 9)], xd75.er⟩ := by kernel_rfl
def xd78 : XD := (.seq (.reg [yS 0 6 .mov [oC (.slice none 0 0)], yS 1 7 .mov [oC (nv 0)]]) (.seq (.seq (.reg [yS 0 16 .mov [oT 0], yS 1 17 .mov [oT 1], yS 2 18 .call [oF 115, oT 16, oT 17], yS 3 19 (.un .not) [oT 18]]) (.cond (oT 19) (.seq (.reg [yS 0 6 .mov [oC (.slice none 0 0)], yS 1 7 .mov [oC (nv 1)]]) .ret) .skip)) (.seq (.seq (.reg [yS 0 20 .mov [oT 0], yS 1 21 .mov [oT 1], yS 2 22 .call [oF 116, oT 20, oT 21, oC (nv 30)], yS 3 23 (.un .not) [oT 22]]) (.cond (oT 23) (.seq (.reg [yS 0 6 .mov [oC (.slice none 0 0)], yS 1 7 .mov [oC (nv 2)]]) .ret) .skip)) (.seq (.seq (.reg [yS 0 24 .mov [oT 2], yS 1 25 .lenS [oT 24], yS 2 26 .mov [oT 1], yS 3 27 (.bin .add 0) [oT 26, oC (nv 1)], yS 4 28 (.bin .neq 0) [oT 25, oT 27]]) (.cond (oT 28) (.seq (.reg [yS 0 6 .mov [oC (.slice none 0 0)], yS 1 7 .mov [oC (nv 1)]]) .ret) .skip)) (.seq (.reg [yS 0 29 .mov [oT 0], yS 1 30 .mov [oT 1], yS 2 31 .call [oF 119, oT 29, oT 30], yS 3 8 .mov [oT 31], yS 4 9 .mov [oC (nv 0)]]) (.seq (.seq (.reg [yS 0 32 .mov [oT 2], yS 1 33 .lenS [oT 32], yS 2 34 .mov [oC (nv 0)]]) (.block 0 (.loop [9, 34] 2251782633818816 (.seq (.reg [yS 0 35 (.bin .lss 0) [oT 34, oT 33]]) (.seq (.cond (oT 35) .skip (.exit 0)) (.seq (.block 1 (.seq (.reg [yS 0 36 (.ixS 1) [oT 32, oT 34], yS 1 37 (.ld none) [oT 36], yS 2 11 .mov [oT 37]]) (.seq (.seq (.reg [yS 0 38 .mov [oT 11], yS 1 39 (.bin .lss 0) [oT 38, oC (nv 0)], yS 2 40 .mov [oT 39], yG (some (40, false)) 3 (some 41) .mov [oT 11], yG (some (40, false)) 4 (some 42) .mov [oT 8], yG (some (40, false)) 5 (some 43) .mov [oT 9], yG (some (40, false)) 6 (some 44) (.bin .sub 0) [oT 42, oT 43], yG (some (40, false)) 7 (some 45) (.bin .gtr 0) [oT 41, oT 44], yS 8 46 .pick [oT 40, oC (.bool true), oT 45]]) (.cond (oT 46) (.seq (.reg [yS 0 6 .mov [oC (.slice none 0 0)], yS 1 7 .mov [oC (nv 1)]]) .ret) .skip)) (.reg [yS 0 47 .mov [oT 9], yS 1 48 .mov [oT 11], yS 2 49 (.bin .add 0) [oT 47, oT 48], yS 3 9 .mov [oT 49]])))) (.reg [yS 0 50 (.bin .add 0) [oT 34, oC (nv 1)], yS 1 34 .mov [oT 50]]))))))) (.seq (.seq (.reg [yS 0 51 .mov [oT 9], yS 1 52 (.bin .eql 0) [oT 51, oC (nv 0)]]) (.cond (oT 52) (.seq (.reg [yS 0 6 .mov [oC (.slice none 0 0)], yS 1 7 .mov [oC (nv 1)]]) .ret) .skip)) (.seq (.reg [yS 0 53 .mov [oT 1], yS 1 54 (.bin .add 0) [oT 53, oC (nv 1)], yS 2 55 (.make (nv 0) 1 8 3) [oT 54, oT 54], yS 3 12 .mov [oT 55]]) (.seq (.seq (.reg [yS 0 56 .mov [oT 12], yS 1 57 .lenS [oT 56], yS 2 58 .mov [oC (nv 0)]]) (.block 2 (.loop [58] 20282409603651382193571099631808 (.seq (.reg [yS 0 59 (.bin .lss 0) [oT 58, oT 57]]) (.seq (.cond (oT 59) .skip (.exit 2)) (.seq (.block 3 (.seq (.reg [yS 0 60 .mov [oT 58], yS 1 13 .mov [oT 60]]) (.seq (.seq (.reg [yS 0 61 .mov [oT 2], yS 1 62 .lenS [oT 61], yS 2 63 .mov [oC (nv 0)]]) (.block 4 (.loop [63] 4835694055086479844098048 (.seq (.reg [yS 0 64 (.bin .lss 0) [oT 63, oT 62]]) (.seq (.cond (oT 64) .skip (.exit 4)) (.seq (.block 5 (.seq (.reg [yS 0 65 .mov [oT 63], yS 1 66 (.ixS 1) [oT 61, oT 63], yS 2 67 (.ld none) [oT 66], yS 3 14 .mov [oT 65], yS 4 15 .mov [oT 67]]) (.reg [yS 0 68 .mov [oT 12], yS 1 69 .mov [oT 13], yS 2 70 (.ixS 1) [oT 68, oT 69], ⟨none, (.ld none), [oT 70], some 71, 3, true, []⟩, yS 4 72 .mov [oT 15], yS 5 73 .mov [oT 0], yS 6 74 .mov [oT 1], yS 7 75 .mov [oT 13], yS 8 76 .mov [oT 14], ⟨none, .call, [oF 117, oT 73, oT 74, oT 75, oT 76], some 77, 9, false, [3]⟩, yS 10 78 (.bin .mul 0) [oT 72, oT 77], yS 11 79 (.bin .add 0) [oT 71, oT 78], yS 12 80 (.ixS 1) [oT 68, oT 69], yN 13 (.st 1) [oT 80, oT 79]]))) (.reg [yS 0 81 (.bin .add 0) [oT 63, oC (nv 1)], yS 1 63 .mov [oT 81]]))))))) (.seq (.seq (.reg [yS 0 82 .mov [oT 12], yS 1 83 .mov [oT 13], yS 2 84 (.ixS 1) [oT 82, oT 83], yS 3 85 (.ld none) [oT 84], yS 4 86 (.bin .lss 0) [oT 85, oC (nv 0)], yS 5 87 .mov [oT 86], yG (some (87, false)) 6 (some 88) .mov [oT 12], yG (some (87, false)) 7 (some 89) .mov [oT 13], yG (some (87, false)) 8 (some 90) (.ixS 1) [oT 88, oT 89], yG (some (87, false)) 9 (some 91) (.ld none) [oT 90], yG (some (87, false)) 10 (some 92) .mov [oT 9], yG (some (87, false)) 11 (some 93) (.bin .rem 0) [oT 91, oT 92], yG (some (87, false)) 12 (some 94) (.bin .neq 0) [oT 93, oC (nv 0)], yS 13 95 .pick [oT 87, oC (.bool true), oT 94]]) (.cond (oT 95) (.seq (.reg [yS 0 6 .mov [oC (.slice none 0 0)], yS 1 7 .mov [oC (nv 6)]]) .ret) .skip)) (.reg [yS 0 96 .mov [oT 12], yS 1 97 .mov [oT 13], yS 2 98 (.ixS 1) [oT 96, oT 97], yS 3 99 (.ld none) [oT 98], yS 4 100 .mov [oT 9], yS 5 101 (.bin .quo 0) [oT 99, oT 100], yS 6 102 (.ixS 1) [oT 96, oT 97], yN 7 (.st 1) [oT 102, oT 101]]))))) (.reg [yS 0 103 (.bin .add 0) [oT 58, oC (nv 1)], yS 1 58 .mov [oT 103]]))))))) (.seq (.reg [yS 0 104 .mov [oT 12], yS 1 6 .mov [oT 104], yS 2 7 .mov [oC (nv 0)]]) .ret))))))))))
theorem xd78_ok : compF Try.prog 78 = some ⟨105, [(.tmp 6), (.tmp 7)], xd78.er⟩ := by kernel_rfl
def xd79 : XD := (.seq (.reg [yS 0 6 .mov [oC (.slice none 0 0)], yS 1 7 .mov [oC (nv 0)]]) (.seq (.seq (.reg [yS 0 20 .mov [oT 0], yS 1 21 .mov [oT 1], yS 2 22 .call [oF 115, oT 20, oT 21], yS 3 23 (.un .not) [oT 22], yS 4 24 .mov [oT 23], yG (some (24, false)) 5 (some 25) .mov [oT 2], yG (some (24, false)) 6 (some 26) .lenS [oT 25], yG (some (24, false)) 7 (some 27) (.bin .lss 0) [oT 26, oC (nv 1)], yS 8 28 .pick [oT 24, oC (.bool true), oT 27], yS 9 29 .mov [oT 28], yG (some (29, false)) 10 (some 30) .mov [oT 2], yG (some (29, false)) 11 (some 31) .lenS [oT 30], yG (some (29, false)) 12 (some 32) (.bin .gtr 0) [oT 31, oC (nv 64)], yS 13 33 .pick [oT 29, oC (.bool true), oT 32]]) (.cond (oT 33) (.seq (.reg [yS 0 6 .mov [oC (.slice none 0 0)], yS 1 7 .mov [oC (nv 1)]]) .ret) .skip)) (.seq (.reg [yS 0 34 .mov [oT 1], yS 1 35 (.bin .add 0) [oT 34, oC (nv 1)], yS 2 36 (.make (nv 0) 1 8 3) [oT 35, oT 35], yS 3 8 .mov [oT 36]]) (.seq (.seq (.reg [yS 0 37 .mov [oT 2], yS 1 38 .lenS [oT 37], yS 2 39 .mov [oC (nv 0)]]) (.block 0 (.loop [39] 154742504910671984606607040 (.seq (.reg [yS 0 40 (.bin .lss 0) [oT 39, oT 38]]) (.seq (.cond (oT 40) .skip (.exit 0)) (.seq (.block 1 (.seq (.reg [yS 0 41 .mov [oT 39], yS 1 42 (.ixS 1) [oT 37, oT 39], yS 2 43 (.ld none) [oT 42], yS 3 9 .mov [oT 41], yS 4 10 .mov [oT 43]]) (.seq (.seq (.reg [yS 0 44 .mov [oT 0], yS 1 45 .mov [oT 1], yS 2 46 .mov [oT 10], yS 3 47 .call [oF 120, oT 44, oT 45, oT 46], yS 4 48 (.un .not) [oT 47]]) (.cond (oT 48) (.seq (.reg [yS 0 6 .mov [oC (.slice none 0 0)], yS 1 7 .mov [oC (nv 1)]]) .ret) .skip)) (.seq (.reg [yS 0 49 .mov [oT 8], yS 1 50 (.ixS 1) [oT 49, oC (nv 0)], yS 2 51 (.ld none) [oT 50], yS 3 52 (.bin .add 0) [oT 51, oC (nv 1)], yS 4 53 (.ixS 1) [oT 49, oC (nv 0)], yN 5 (.st 1) [oT 53, oT 52]]) (.seq (.reg [yS 0 54 .mov [oT 2], yS 1 55 .mov [oT 9], yS 2 56 (.slS 1 false true) [oT 54, oT 55], yS 3 57 .lenS [oT 56], yS 4 58 .mov [oC (nv 0)]]) (.block 2 (.loop [58] 77371252167105891029512192 (.seq (.reg [yS 0 59 (.bin .lss 0) [oT 58, oT 57]]) (.seq (.cond (oT 59) .skip (.exit 2)) (.seq (.block 3 (.seq (.reg [yS 0 60 (.ixS 1) [oT 56, oT 58], yS 1 61 (.ld none) [oT 60], yS 2 12 .mov [oT 61]]) (.seq (.reg [yS 0 13 .mov [oC (nv 0)]]) (.seq (.seq (.reg [yS 0 62 .mov [oT 10], yS 1 63 .lenS [oT 62], yS 2 64 .mov [oC (nv 0)]]) (.block 4 (.loop [13, 64] 604444463063240877826048 (.seq (.reg [yS 0 65 (.bin .lss 0) [oT 64, oT 63]]) (.seq (.cond (oT 65) .skip (.exit 4)) (.seq (.block 5 (.seq (.reg [yS 0 66 .mov [oT 64], yS 1 14 .mov [oT 66]]) (.seq (.reg [yS 0 67 .mov [oT 10], yS 1 68 .mov [oT 14], yS 2 69 (.ixS 1) [oT 67, oT 68], yS 3 70 (.ld none) [oT 69], yS 4 71 .mov [oT 12], yS 5 72 .mov [oT 14], yS 6 73 (.ixS 1) [oT 71, oT 72], yS 7 74 (.ld none) [oT 73], yS 8 75 (.bin .neq 0) [oT 70, oT 74]]) (.cond (oT 75) (.reg [yS 0 76 .mov [oT 13], yS 1 77 (.bin .add 0) [oT 76, oC (nv 1)], yS 2 13 .mov [oT 77]]) .skip)))) (.reg [yS 0 78 (.bin .add 0) [oT 64, oC (nv 1)], yS 1 64 .mov [oT 78]]))))))) (.reg [yS 0 79 .mov [oT 8], yS 1 80 .mov [oT 13], yS 2 81 (.ixS 1) [oT 79, oT 80], yS 3 82 (.ld none) [oT 81], yS 4 83 (.bin .add 0) [oT 82, oC (nv 2)], yS 5 84 (.ixS 1) [oT 79, oT 80], yN 6 (.st 1) [oT 84, oT 83]]))))) (.reg [yS 0 85 (.bin .add 0) [oT 58, oC (nv 1)], yS 1 58 .mov [oT 85]]))))))))))) (.reg [yS 0 86 (.bin .add 0) [oT 39, oC (nv 1)], yS 1 39 .mov [oT 86]]))))))) (.seq (.reg [yS 0 15 .mov [oC (.slice none 0 0)]]) (.seq (.seq (.reg [yS 0 87 .mov [oT 8], yS 1 88 .lenS [oT 87], yS 2 89 .mov [oC (nv 0)]]) (.block 6 (.loop [15, 89] 40564200237283698157757053960192 (.seq (.reg [yS 0 90 (.bin .lss 0) [oT 89, oT 88]]) (.seq (.cond (oT 90) .skip (.exit 6)) (.seq (.block 7 (.seq (.reg [yS 0 91 (.ixS 1) [oT 87, oT 89], yS 1 92 (.ld none) [oT 91], yS 2 17 .mov [oT 92]]) (.seq (.reg [yS 0 94 .mov [oT 17], yS 1 95 .mov [oT 2], yS 2 96 .lenS [oT 95], yS 3 97 .call [oF 121, oT 94, oT 96], yS 4 93 .mov [oT 97], yS 5 98 (.ext 0) [oT 93], yS 6 99 (.ext 1) [oT 93], yS 7 18 (.new [(nv 0), (nv 0)] 51) [], yN 8 (.st 2) [oT 18, oT 98], yS 9 19 .mov [oT 99]]) (.reg [yS 0 100 .mov [oT 15], yS 1 101 (.ld (some 2)) [oT 18], yS 2 102 (.bsl [(nv 0), (nv 0)] 1 [(0, 2)] 51) [oT 101], yS 3 103 (.app 51 2 16) [oT 100, oT 102], yS 4 15 .mov [oT 103]])))) (.reg [yS 0 104 (.bin .add 0) [oT 89, oC (nv 1)], yS 1 89 .mov [oT 104]]))))))) (.seq (.reg [yS 0 105 .mov [oT 15], yS 1 6 .mov [oT 105], yS 2 7 .mov [oC (nv 0)]]) .ret)))))))
theorem xd79_ok : compF Try.prog 79 = some ⟨106, [(.tmp 6), (.tmp 7)], xd79.er⟩ := by kernel_rfl
def g79 (q0 n1 words2 : Value) (H : AH) (R : Value → AH → Prop) : Prop :=
 @cG 115 [q0, n1] H ⟨fun v22 H1 =>
 @bindO (eun .not v22) ⟨fun v23 =>
 @guardJ (asNB v23) (fun J1 => J1 words2 H1) H1 ⟨fun v25 H2 =>
 @guardJ (asNB v23) (fun J2 => @bindO (xpure .lenS [v25]) ⟨fun v26 =>
 J2 v26 H2⟩) H2 ⟨fun v26a H3 =>
 @guardJ (asNB v23) (fun J3 => @bindO (xbin .lss 0 v26a (nv 1)) ⟨fun v27 =>
 J3 v27 H3⟩) H3 ⟨fun v27a H4 =>
 @pickK v23 (.bool true) v27a ⟨fun v28 =>
 @guardJ (asNB v28) (fun J4 => J4 words2 H4) H4 ⟨fun v30 H5 =>
 @guardJ (asNB v28) (fun J5 => @bindO (xpure .lenS [v30]) ⟨fun v31 =>
 J5 v31 H5⟩) H5 ⟨fun v31a H6 =>
 @guardJ (asNB v28) (fun J6 => @bindO (xbin .gtr 0 v31a (nv 64)) ⟨fun v32 =>
 J6 v32 H6⟩) H6 ⟨fun v32a H7 =>
 @pickK v28 (.bool true) v32a ⟨fun v33 =>
 @condK v33 ⟨fun q => if q = true then R (.tuple [(.slice none 0 0), (nv 1)].toArray) H7 else
 @bindO (xbin .add 0 n1 (nv 1)) ⟨fun v35 =>
 @bindN (xnew (.make (nv 0) 1 8 3) [v35, v35]) ⟨fun cv36 ev36 mkv36 => @letH (H7 ++ [.cells cv36 ev36 none false]) ⟨fun H8 =>
 @bindO (xpure .lenS [words2]) ⟨fun v38 =>
 @loopV1 (nv 0) H8 ⟨fun v39 H9 K7 =>
 @bindO (xbin .lss 0 v39 v38) ⟨fun v40 =>
 @condK v40 ⟨fun q => if q = true then @bindO (xpure (.ixS 1) [words2, v39]) ⟨fun v42 =>
 @bindO (xload none H9 [v42]) ⟨fun v43 =>
 @cG 120 [q0, n1, v43] H9 ⟨fun v47 H10 =>
 @bindO (eun .not v47) ⟨fun v48 =>
 @condK v48 ⟨fun q => if q = true then R (.tuple [(.slice none 0 0), (nv 1)].toArray) H10 else
 @bindO (xpure (.ixS 1) [(mkv36 H7.length), (nv 0)]) ⟨fun v50 =>
 @bindO (xload none H10 [v50]) ⟨fun v51 =>
 @bindO (xbin .add 0 v51 (nv 1)) ⟨fun v52 =>
 @bindO (xpure (.ixS 1) [(mkv36 H7.length), (nv 0)]) ⟨fun v53 =>
 @bindP (xact (.st 1) H10 [v53, v52]) ⟨fun _v H11 =>
 @bindO (xpure (.slS 1 false true) [words2, v39]) ⟨fun v56 =>
 @bindO (xpure .lenS [v56]) ⟨fun v57 =>
 @loopV1 (nv 0) H11 ⟨fun v58 H12 K8 =>
 @bindO (xbin .lss 0 v58 v57) ⟨fun v59 =>
 @condK v59 ⟨fun q => if q = true then @bindO (xpure (.ixS 1) [v56, v58]) ⟨fun v60 =>
 @bindO (xload none H12 [v60]) ⟨fun v61 =>
 @bindO (xpure .lenS [v43]) ⟨fun v63 =>
 @loopV2 (nv 0) (nv 0) H12 ⟨fun far13 v64 H13 K9 =>
 @bindO (xbin .lss 0 v64 v63) ⟨fun v65 =>
 @condK v65 ⟨fun q => if q = true then @bindO (xpure (.ixS 1) [v43, v64]) ⟨fun v69 =>
 @bindO (xload none H13 [v69]) ⟨fun v70 =>
 @bindO (xpure (.ixS 1) [v61, v64]) ⟨fun v73 =>
 @bindO (xload none H13 [v73]) ⟨fun v74 =>
 @bindO (xbin .neq 0 v70 v74) ⟨fun v75 =>
 @condK v75 ⟨fun q => if q = true then @bindO (xbin .add 0 far13 (nv 1)) ⟨fun v77 =>
 @bindO (xbin .add 0 v64 (nv 1)) ⟨fun v78 =>
 K9 v77 v78 H13⟩⟩ else
 @bindO (xbin .add 0 v64 (nv 1)) ⟨fun v78a =>
 K9 far13 v78a H13⟩⟩⟩⟩⟩⟩⟩ else
 @bindO (xpure (.ixS 1) [(mkv36 H7.length), far13]) ⟨fun v81 =>
 @bindO (xload none H13 [v81]) ⟨fun v82 =>
 @bindO (xbin .add 0 v82 (nv 2)) ⟨fun v83 =>
 @bindO (xpure (.ixS 1) [(mkv36 H7.length), far13]) ⟨fun v84 =>
 @bindP (xact (.st 1) H13 [v84, v83]) ⟨fun _v H14 =>
 @bindO (xbin .add 0 v58 (nv 1)) ⟨fun v85 =>
 K8 v85 H14⟩⟩⟩⟩⟩⟩⟩⟩⟩⟩⟩⟩ else
 @bindO (xbin .add 0 v39 (nv 1)) ⟨fun v86 =>
 K7 v86 H12⟩⟩⟩⟩⟩⟩⟩⟩⟩⟩⟩⟩⟩⟩⟩⟩ else
 @bindO (xpure .lenS [(mkv36 H7.length)]) ⟨fun v88 =>
 @loopV2 (.slice none 0 0) (nv 0) H9 ⟨fun out15 v89 H15 K10 =>
 @bindO (xbin .lss 0 v89 v88) ⟨fun v90 =>
 @condK v90 ⟨fun q => if q = true then @bindO (xpure (.ixS 1) [(mkv36 H7.length), v89]) ⟨fun v91 =>
 @bindO (xload none H15 [v91]) ⟨fun v92 =>
 @bindO (xpure .lenS [words2]) ⟨fun v96 =>
 @cG 121 [v92, v96] H15 ⟨fun v97 H16 =>
 @bindO (xpure (.ext 0) [v97]) ⟨fun v98 =>
 @bindO (xpure (.ext 1) [v97]) ⟨fun v99 =>
 @letH (H16 ++ [.cells [(nv 0), (nv 0)] 51 none false]) ⟨fun H17 =>
 @bindP (xact (.st 2) H17 [(.pointer (some ⟨H16.length, 0, none⟩)), v98]) ⟨fun _v H18 =>
 @bindO (xload (some 2) H18 [(.pointer (some ⟨H16.length, 0, none⟩))]) ⟨fun v101 =>
 @bindL (xfill [(nv 0), (nv 0)] [(0, 2)] [v101]) ⟨fun cv102 => @letH (H18 ++ [.cells cv102 51 none false]) ⟨fun H19 =>
 @bindP (xact (.app 51 2 16) H19 [out15, (.slice (some ⟨H18.length, 0, none⟩) 1 1)]) ⟨fun v103 H20 =>
 @bindO (xbin .add 0 v89 (nv 1)) ⟨fun v104 =>
 K10 v103 v104 H20⟩⟩⟩⟩⟩⟩⟩⟩⟩⟩⟩⟩⟩ else
 R (.tuple [out15, (nv 0)].toArray) H15⟩⟩⟩⟩⟩⟩⟩⟩⟩⟩⟩⟩⟩⟩⟩⟩⟩⟩⟩⟩⟩⟩
theorem g79_of {q0 n1 words2 : Value} {H : AH} {R : Value → AH → Prop} (h : g79 q0 n1 words2 H R) : FN Try.prog 79 [q0, n1, words2] H R :=
  FN.of_XD mixed xd79_ok (by kernel_rfl) (Nat.le_of_ble_eq_true rfl) (cast (by kernel_rfl) h)
def xd80 : XD := (.seq (.reg [yS 0 6 (.new [(.slice none 0 0)] 28) [], yS 1 7 (.new [(nv 0)] 34) []]) (.seq (.seq (.reg [yS 0 18 .mov [oT 0], yS 1 19 .mov [oT 1], yS 2 20 .call [oF 115, oT 18, oT 19], yS 3 21 (.un .not) [oT 20]]) (.cond (oT 21) (.seq (.reg [yN 0 (.st 1) [oT 6, oC (.slice none 0 0)], yN 1 (.st 1) [oT 7, oC (nv 1)]]) .ret) .skip)) (.seq (.seq (.reg [yS 0 22 .mov [oT 0], yS 1 23 .mov [oT 1], yS 2 24 .call [oF 116, oT 22, oT 23, oC (nv 30)], yS 3 25 (.un .not) [oT 24]]) (.cond (oT 25) (.seq (.reg [yN 0 (.st 1) [oT 6, oC (.slice none 0 0)], yN 1 (.st 1) [oT 7, oC (nv 2)]]) .ret) .skip)) (.seq (.seq (.reg [yS 0 26 .mov [oT 2], yS 1 27 .lenS [oT 26], yS 2 28 .mov [oT 1], yS 3 29 (.bin .add 0) [oT 28, oC (nv 1)], yS 4 30 (.bin .neq 0) [oT 27, oT 29]]) (.cond (oT 30) (.seq (.reg [yN 0 (.st 1) [oT 6, oC (.slice none 0 0)], yN 1 (.st 1) [oT 7, oC (nv 1)]]) .ret) .skip)) (.seq (.reg [yS 0 8 .mov [oC (.bool true)]]) (.seq (.seq (.reg [yS 0 31 .mov [oT 2], yS 1 32 .lenS [oT 31], yS 2 33 .mov [oC (nv 0)]]) (.block 0 (.loop [8, 33] 4611686009837454592 (.seq (.reg [yS 0 34 (.bin .lss 0) [oT 33, oT 32]]) (.seq (.cond (oT 34) .skip (.exit 0)) (.seq (.block 1 (.seq (.reg [yS 0 35 (.ixS 2) [oT 31, oT 33], yS 1 36 (.ld (some 2)) [oT 35], yS 2 10 (.new [(nv 0), (nv 0)] 51) [], yN 3 (.st 2) [oT 10, oT 36]]) (.seq (.seq (.reg [yS 0 37 (.ld (some 2)) [oT 10], yS 1 38 .call [oF 122, oT 37], yS 2 39 (.un .not) [oT 38], yS 3 40 .mov [oT 39], yG (some (40, false)) 4 (some 41) (.fld 0) [oT 10], yG (some (40, false)) 5 (some 42) (.ld none) [oT 41], yG (some (40, false)) 6 (some 43) (.bin .lss 0) [oT 42, oC (nv 0)], yS 7 44 .pick [oT 40, oC (.bool true), oT 43], yS 8 45 .mov [oT 44], yG (some (45, false)) 9 (some 46) (.fld 0) [oT 10], yG (some (45, false)) 10 (some 47) (.ld none) [oT 46], yG (some (45, false)) 11 (some 48) (.bin .gtr 0) [oT 47, oC (nv 1048576)], yS 12 49 .pick [oT 45, oC (.bool true), oT 48], yS 13 50 .mov [oT 49], yG (some (50, false)) 14 (some 51) (.fld 1) [oT 10], yG (some (50, false)) 15 (some 52) (.ld none) [oT 51], yG (some (50, false)) 16 (some 53) (.bin .gtr 0) [oT 52, oC (nv 1048576)], yS 17 54 .pick [oT 50, oC (.bool true), oT 53]]) (.cond (oT 54) (.seq (.reg [yN 0 (.st 1) [oT 6, oC (.slice none 0 0)], yN 1 (.st 1) [oT 7, oC (nv 1)]]) .ret) .skip)) (.reg [yS 0 55 .mov [oT 8], yS 1 56 .mov [oT 55], yG (some (56, true)) 2 (some 57) (.fld 0) [oT 10], yG (some (56, true)) 3 (some 58) (.ld none) [oT 57], yG (some (56, true)) 4 (some 59) (.bin .eql 0) [oT 58, oC (nv 0)], yS 5 60 .pick [oT 56, oT 59, oC (.bool false)], yS 6 8 .mov [oT 60]])))) (.reg [yS 0 61 (.bin .add 0) [oT 33, oC (nv 1)], yS 1 33 .mov [oT 61]]))))))) (.seq (.seq (.reg [yS 0 62 .mov [oT 8]]) (.cond (oT 62) (.seq (.reg [yN 0 (.st 1) [oT 6, oC (.slice none 0 0)], yN 1 (.st 1) [oT 7, oC (nv 1)]]) .ret) .skip)) (.seq (.reg [yS 0 63 (.fn 123 0 2) [oT 6, oT 7], yN 1 (.dfr [123]) [oT 63]]) (.seq (.reg [yS 0 64 (.bld [(nv 0), (nv 0)] [(1, 1)]) [oC (nv 1)], yS 1 11 (.new [(nv 0), (nv 0)] 51) [], yN 2 (.st 2) [oT 11, oT 64]]) (.seq (.seq (.reg [yS 0 65 .mov [oT 2], yS 1 66 .lenS [oT 65], yS 2 67 .mov [oC (nv 0)]]) (.block 2 (.loop [67] 302083880951067617271808 (.seq (.reg [yS 0 68 (.bin .lss 0) [oT 67, oT 66]]) (.seq (.cond (oT 68) .skip (.exit 2)) (.seq (.block 3 (.seq (.reg [yS 0 69 (.ixS 2) [oT 65, oT 67], yS 1 70 (.ld (some 2)) [oT 69], yS 2 13 (.new [(nv 0), (nv 0)] 51) [], yN 3 (.st 2) [oT 13, oT 70]]) (.reg [yS 0 71 (.ld (some 2)) [oT 11], yS 1 72 (.ld (some 2)) [oT 13], yS 2 73 .call [oF 125, oT 71, oT 72], yS 3 74 (.ext 0) [oT 73], yS 4 75 (.ext 1) [oT 73], yS 5 76 .call [oF 124, oT 74, oT 75], yN 6 (.st 2) [oT 11, oT 76]]))) (.reg [yS 0 77 (.bin .add 0) [oT 67, oC (nv 1)], yS 1 67 .mov [oT 77]]))))))) (.seq (.seq (.reg [yS 0 78 .mov [oT 1], yS 1 79 (.bin .add 0) [oT 78, oC (nv 1)], yS 2 80 .mov [oC (nv 0)]]) (.block 4 (.loop [80] 332306998945020042406337135895625728 (.seq (.reg [yS 0 81 (.bin .lss 0) [oT 80, oT 79]]) (.seq (.cond (oT 81) .skip (.exit 4)) (.seq (.block 5 (.seq (.reg [yS 0 82 .mov [oT 80], yS 1 14 .mov [oT 82]]) (.seq (.reg [yS 0 83 (.bld [(nv 0), (nv 0)] [(1, 1)]) [oC (nv 1)], yS 1 15 (.new [(nv 0), (nv 0)] 51) [], yN 2 (.st 2) [oT 15, oT 83]]) (.seq (.seq (.reg [yS 0 84 .mov [oT 2], yS 1 85 .lenS [oT 84], yS 2 86 .mov [oC (nv 0)]]) (.block 6 (.loop [86] 324518476287174271446888839577600 (.seq (.reg [yS 0 87 (.bin .lss 0) [oT 86, oT 85]]) (.seq (.cond (oT 87) .skip (.exit 6)) (.seq (.block 7 (.seq (.reg [yS 0 88 .mov [oT 86], yS 1 89 (.ixS 2) [oT 84, oT 86], yS 2 90 (.ld (some 2)) [oT 89], yS 3 17 (.new [(nv 0), (nv 0)] 51) [], yS 4 16 .mov [oT 88], yN 5 (.st 2) [oT 17, oT 90]]) (.reg [⟨none, (.ld (some 2)), [oT 15], some 91, 0, true, []⟩, ⟨none, (.ld (some 2)), [oT 17], some 92, 1, true, []⟩, yS 2 93 .mov [oT 0], yS 3 94 .mov [oT 1], yS 4 95 .mov [oT 14], yS 5 96 .mov [oT 16], ⟨none, .call, [oF 117, oT 93, oT 94, oT 95, oT 96], some 97, 6, false, [1, 0]⟩, yS 7 98 (.bld [(nv 0), (nv 0)] [(0, 1), (1, 1)]) [oT 97, oC (nv 1)], ⟨none, .call, [oF 126, oT 92, oT 98], some 99, 8, false, [0]⟩, yS 9 100 (.ext 0) [oT 99], yS 10 101 (.ext 1) [oT 99], ⟨none, .call, [oF 124, oT 100, oT 101], some 102, 11, false, [0]⟩, yS 12 103 .call [oF 125, oT 91, oT 102], yS 13 104 (.ext 0) [oT 103], yS 14 105 (.ext 1) [oT 103], yS 15 106 .call [oF 124, oT 104, oT 105], yN 16 (.st 2) [oT 15, oT 106]]))) (.reg [yS 0 107 (.bin .add 0) [oT 86, oC (nv 1)], yS 1 86 .mov [oT 107]]))))))) (.reg [⟨none, (.ld none), [oT 6], some 108, 0, true, []⟩, yS 1 109 (.ld (some 2)) [oT 15], yS 2 110 (.ld (some 2)) [oT 11], ⟨none, .call, [oF 127, oT 109, oT 110], some 111, 3, false, [0]⟩, yS 4 112 (.ext 0) [oT 111], yS 5 113 (.ext 1) [oT 111], ⟨none, .call, [oF 124, oT 112, oT 113], some 114, 6, false, [0]⟩, ⟨none, (.bsl [(nv 0), (nv 0)] 1 [(0, 2)] 51), [oT 114], some 115, 7, false, [0]⟩, yS 8 116 (.app 51 2 16) [oT 108, oT 115], yN 9 (.st 1) [oT 6, oT 116]]))))) (.reg [yS 0 117 (.bin .add 0) [oT 80, oC (nv 1)], yS 1 80 .mov [oT 117]]))))))) (.seq (.reg [yS 0 118 (.ld none) [oT 6], yN 1 (.st 1) [oT 6, oT 118], yN 2 (.st 1) [oT 7, oC (nv 0)]]) .ret))))))))))))
theorem xd80_ok : compF Try.prog 80 = some ⟨119, [(.cell 6 none), (.cell 7 none)], xd80.er⟩ := by kernel_rfl
def g80 (q0 n1 d2 : Value) (H : AH) (R : Value → AH → Prop) : Prop :=
 @letH (H ++ [.cells [(.slice none 0 0)] 28 none false]) ⟨fun H1 =>
 @letH (H1 ++ [.cells [(nv 0)] 34 none false]) ⟨fun H2 =>
 @cG 115 [q0, n1] H2 ⟨fun v20 H3 =>
 @bindO (eun .not v20) ⟨fun v21 =>
 @condK v21 ⟨fun q => if q = true then @bindP (xact (.st 1) H3 [(.pointer (some ⟨H.length, 0, none⟩)), (.slice none 0 0)]) ⟨fun _v H4 =>
 @bindP (xact (.st 1) H4 [(.pointer (some ⟨H1.length, 0, none⟩)), (nv 1)]) ⟨fun _v H5 =>
 @bindO (xload none H5 [(.pointer (some ⟨H.length, 0, none⟩))]) ⟨fun r0 => @bindO (xload none H5 [(.pointer (some ⟨H1.length, 0, none⟩))]) ⟨fun r1 => R (.tuple [r0, r1].toArray) H5⟩⟩⟩⟩ else
 @cG 116 [q0, n1, (nv 30)] H3 ⟨fun v24 H6 =>
 @bindO (eun .not v24) ⟨fun v25 =>
 @condK v25 ⟨fun q => if q = true then @bindP (xact (.st 1) H6 [(.pointer (some ⟨H.length, 0, none⟩)), (.slice none 0 0)]) ⟨fun _v H7 =>
 @bindP (xact (.st 1) H7 [(.pointer (some ⟨H1.length, 0, none⟩)), (nv 2)]) ⟨fun _v H8 =>
 @bindO (xload none H8 [(.pointer (some ⟨H.length, 0, none⟩))]) ⟨fun r0 => @bindO (xload none H8 [(.pointer (some ⟨H1.length, 0, none⟩))]) ⟨fun r1 => R (.tuple [r0, r1].toArray) H8⟩⟩⟩⟩ else
 @bindO (xpure .lenS [d2]) ⟨fun v27 =>
 @bindO (xbin .add 0 n1 (nv 1)) ⟨fun v29 =>
 @bindO (xbin .neq 0 v27 v29) ⟨fun v30 =>
 @condK v30 ⟨fun q => if q = true then @bindP (xact (.st 1) H6 [(.pointer (some ⟨H.length, 0, none⟩)), (.slice none 0 0)]) ⟨fun _v H9 =>
 @bindP (xact (.st 1) H9 [(.pointer (some ⟨H1.length, 0, none⟩)), (nv 1)]) ⟨fun _v H10 =>
 @bindO (xload none H10 [(.pointer (some ⟨H.length, 0, none⟩))]) ⟨fun r0 => @bindO (xload none H10 [(.pointer (some ⟨H1.length, 0, none⟩))]) ⟨fun r1 => R (.tuple [r0, r1].toArray) H10⟩⟩⟩⟩ else
 @bindO (xpure .lenS [d2]) ⟨fun v32 =>
 @loopV2 (.bool true) (nv 0) H6 ⟨fun v8 v33 H11 K1 =>
 @bindO (xbin .lss 0 v33 v32) ⟨fun v34 =>
 @condK v34 ⟨fun q => if q = true then @bindO (xpure (.ixS 2) [d2, v33]) ⟨fun v35 =>
 @bindO (xload (some 2) H11 [v35]) ⟨fun v36 =>
 @letH (H11 ++ [.cells [(nv 0), (nv 0)] 51 none false]) ⟨fun H12 =>
 @bindP (xact (.st 2) H12 [(.pointer (some ⟨H11.length, 0, none⟩)), v36]) ⟨fun _v H13 =>
 @bindO (xload (some 2) H13 [(.pointer (some ⟨H11.length, 0, none⟩))]) ⟨fun v37 =>
 @cG 122 [v37] H13 ⟨fun v38 H14 =>
 @bindO (eun .not v38) ⟨fun v39 =>
 @guardJ (asNB v39) (fun J2 => @bindO (xpure (.fld 0) [(.pointer (some ⟨H11.length, 0, none⟩))]) ⟨fun v41 =>
 J2 v41 H14⟩) H14 ⟨fun v41a H15 =>
 @guardJ (asNB v39) (fun J3 => @bindO (xload none H15 [v41a]) ⟨fun v42 =>
 J3 v42 H15⟩) H15 ⟨fun v42a H16 =>
 @guardJ (asNB v39) (fun J4 => @bindO (xbin .lss 0 v42a (nv 0)) ⟨fun v43 =>
 J4 v43 H16⟩) H16 ⟨fun v43a H17 =>
 @pickK v39 (.bool true) v43a ⟨fun v44 =>
 @guardJ (asNB v44) (fun J5 => @bindO (xpure (.fld 0) [(.pointer (some ⟨H11.length, 0, none⟩))]) ⟨fun v46 =>
 J5 v46 H17⟩) H17 ⟨fun v46a H18 =>
 @guardJ (asNB v44) (fun J6 => @bindO (xload none H18 [v46a]) ⟨fun v47 =>
 J6 v47 H18⟩) H18 ⟨fun v47a H19 =>
 @guardJ (asNB v44) (fun J7 => @bindO (xbin .gtr 0 v47a (nv 1048576)) ⟨fun v48 =>
 J7 v48 H19⟩) H19 ⟨fun v48a H20 =>
 @pickK v44 (.bool true) v48a ⟨fun v49 =>
 @guardJ (asNB v49) (fun J8 => @bindO (xpure (.fld 1) [(.pointer (some ⟨H11.length, 0, none⟩))]) ⟨fun v51 =>
 J8 v51 H20⟩) H20 ⟨fun v51a H21 =>
 @guardJ (asNB v49) (fun J9 => @bindO (xload none H21 [v51a]) ⟨fun v52 =>
 J9 v52 H21⟩) H21 ⟨fun v52a H22 =>
 @guardJ (asNB v49) (fun J10 => @bindO (xbin .gtr 0 v52a (nv 1048576)) ⟨fun v53 =>
 J10 v53 H22⟩) H22 ⟨fun v53a H23 =>
 @pickK v49 (.bool true) v53a ⟨fun v54 =>
 @condK v54 ⟨fun q => if q = true then @bindP (xact (.st 1) H23 [(.pointer (some ⟨H.length, 0, none⟩)), (.slice none 0 0)]) ⟨fun _v H24 =>
 @bindP (xact (.st 1) H24 [(.pointer (some ⟨H1.length, 0, none⟩)), (nv 1)]) ⟨fun _v H25 =>
 @bindO (xload none H25 [(.pointer (some ⟨H.length, 0, none⟩))]) ⟨fun r0 => @bindO (xload none H25 [(.pointer (some ⟨H1.length, 0, none⟩))]) ⟨fun r1 => R (.tuple [r0, r1].toArray) H25⟩⟩⟩⟩ else
 @guardJ (asB v8) (fun J11 => @bindO (xpure (.fld 0) [(.pointer (some ⟨H11.length, 0, none⟩))]) ⟨fun v57 =>
 J11 v57 H23⟩) H23 ⟨fun v57a H26 =>
 @guardJ (asB v8) (fun J12 => @bindO (xload none H26 [v57a]) ⟨fun v58 =>
 J12 v58 H26⟩) H26 ⟨fun v58a H27 =>
 @guardJ (asB v8) (fun J13 => @bindO (xbin .eql 0 v58a (nv 0)) ⟨fun v59 =>
 J13 v59 H27⟩) H27 ⟨fun v59a H28 =>
 @pickK v8 v59a (.bool false) ⟨fun v60 =>
 @bindO (xbin .add 0 v33 (nv 1)) ⟨fun v61 =>
 K1 v60 v61 H28⟩⟩⟩⟩⟩⟩⟩⟩⟩⟩⟩⟩⟩⟩⟩⟩⟩⟩⟩⟩⟩⟩⟩⟩⟩ else
 @condK v8 ⟨fun q => if q = true then @bindP (xact (.st 1) H11 [(.pointer (some ⟨H.length, 0, none⟩)), (.slice none 0 0)]) ⟨fun _v H29 =>
 @bindP (xact (.st 1) H29 [(.pointer (some ⟨H1.length, 0, none⟩)), (nv 1)]) ⟨fun _v H30 =>
 @bindO (xload none H30 [(.pointer (some ⟨H.length, 0, none⟩))]) ⟨fun r0 => @bindO (xload none H30 [(.pointer (some ⟨H1.length, 0, none⟩))]) ⟨fun r1 => R (.tuple [r0, r1].toArray) H30⟩⟩⟩⟩ else
 @bindO (xpure (.fn 123 0 2) [(.pointer (some ⟨H.length, 0, none⟩)), (.pointer (some ⟨H1.length, 0, none⟩))]) ⟨fun v63 =>
 @bindO (xpure (.dfr [123]) [v63]) ⟨fun _v =>
 @bindL (xfill [(nv 0), (nv 0)] [(1, 1)] [(nv 1)]) ⟨fun v64 =>
 @letH (H11 ++ [.cells [(nv 0), (nv 0)] 51 none false]) ⟨fun H31 =>
 @bindP (xact (.st 2) H31 [(.pointer (some ⟨H11.length, 0, none⟩)), (.agg v64.toArray)]) ⟨fun _v H32 =>
 @bindO (xpure .lenS [d2]) ⟨fun v66 =>
 @loopV1 (nv 0) H32 ⟨fun v67 H33 K14 =>
 @bindO (xbin .lss 0 v67 v66) ⟨fun v68 =>
 @condK v68 ⟨fun q => if q = true then @bindO (xpure (.ixS 2) [d2, v67]) ⟨fun v69 =>
 @bindO (xload (some 2) H33 [v69]) ⟨fun v70 =>
 @letH (H33 ++ [.cells [(nv 0), (nv 0)] 51 none false]) ⟨fun H34 =>
 @bindP (xact (.st 2) H34 [(.pointer (some ⟨H33.length, 0, none⟩)), v70]) ⟨fun _v H35 =>
 @bindO (xload (some 2) H35 [(.pointer (some ⟨H11.length, 0, none⟩))]) ⟨fun v71 =>
 @bindO (xload (some 2) H35 [(.pointer (some ⟨H33.length, 0, none⟩))]) ⟨fun v72 =>
 @cG 125 [v71, v72] H35 ⟨fun v73 H36 =>
 @bindO (xpure (.ext 0) [v73]) ⟨fun v74 =>
 @bindO (xpure (.ext 1) [v73]) ⟨fun v75 =>
 @cG 124 [v74, v75] H36 ⟨fun v76 H37 =>
 @bindP (xact (.st 2) H37 [(.pointer (some ⟨H11.length, 0, none⟩)), v76]) ⟨fun _v H38 =>
 @bindO (xbin .add 0 v67 (nv 1)) ⟨fun v77 =>
 K14 v77 H38⟩⟩⟩⟩⟩⟩⟩⟩⟩⟩⟩⟩ else
 @bindO (xbin .add 0 n1 (nv 1)) ⟨fun v79 =>
 @loopV1 (nv 0) H33 ⟨fun v80 H39 K15 =>
 @bindO (xbin .lss 0 v80 v79) ⟨fun v81 =>
 @condK v81 ⟨fun q => if q = true then @bindL (xfill [(nv 0), (nv 0)] [(1, 1)] [(nv 1)]) ⟨fun v83 =>
 @letH (H39 ++ [.cells [(nv 0), (nv 0)] 51 none false]) ⟨fun H40 =>
 @bindP (xact (.st 2) H40 [(.pointer (some ⟨H39.length, 0, none⟩)), (.agg v83.toArray)]) ⟨fun _v H41 =>
 @bindO (xpure .lenS [d2]) ⟨fun v85 =>
 @loopV1 (nv 0) H41 ⟨fun v86 H42 K16 =>
 @bindO (xbin .lss 0 v86 v85) ⟨fun v87 =>
 @condK v87 ⟨fun q => if q = true then @bindO (xpure (.ixS 2) [d2, v86]) ⟨fun v89 =>
 @bindO (xload (some 2) H42 [v89]) ⟨fun v90 =>
 @letH (H42 ++ [.cells [(nv 0), (nv 0)] 51 none false]) ⟨fun H43 =>
 @bindP (xact (.st 2) H43 [(.pointer (some ⟨H42.length, 0, none⟩)), v90]) ⟨fun _v H44 =>
 @bindO (xload (some 2) H44 [(.pointer (some ⟨H39.length, 0, none⟩))]) ⟨fun v91 =>
 @bindO (xload (some 2) H44 [(.pointer (some ⟨H42.length, 0, none⟩))]) ⟨fun v92 =>
 @cG 117 [q0, n1, v80, v86] H44 ⟨fun v97 H45 =>
 (chkX [1, 0] (⟨1, (some 2), [(.pointer (some ⟨H42.length, 0, none⟩))], v92⟩ :: (⟨0, (some 2), [(.pointer (some ⟨H39.length, 0, none⟩))], v91⟩ :: [])) H45 ∧ @bindL (xfill [(nv 0), (nv 0)] [(0, 1), (1, 1)] [v97, (nv 1)]) ⟨fun v98 =>
 @cG 126 [v92, (.agg v98.toArray)] H45 ⟨fun v99 H46 =>
 (chkX [0] (⟨1, (some 2), [(.pointer (some ⟨H42.length, 0, none⟩))], v92⟩ :: (⟨0, (some 2), [(.pointer (some ⟨H39.length, 0, none⟩))], v91⟩ :: [])) H46 ∧ @bindO (xpure (.ext 0) [v99]) ⟨fun v100 =>
 @bindO (xpure (.ext 1) [v99]) ⟨fun v101 =>
 @cG 124 [v100, v101] H46 ⟨fun v102 H47 =>
 (chkX [0] (⟨1, (some 2), [(.pointer (some ⟨H42.length, 0, none⟩))], v92⟩ :: (⟨0, (some 2), [(.pointer (some ⟨H39.length, 0, none⟩))], v91⟩ :: [])) H47 ∧ @cG 125 [v91, v102] H47 ⟨fun v103 H48 =>
 @bindO (xpure (.ext 0) [v103]) ⟨fun v104 =>
 @bindO (xpure (.ext 1) [v103]) ⟨fun v105 =>
 @cG 124 [v104, v105] H48 ⟨fun v106 H49 =>
 @bindP (xact (.st 2) H49 [(.pointer (some ⟨H39.length, 0, none⟩)), v106]) ⟨fun _v H50 =>
 @bindO (xbin .add 0 v86 (nv 1)) ⟨fun v107 =>
 K16 v107 H50⟩⟩⟩⟩⟩⟩)⟩⟩⟩)⟩⟩)⟩⟩⟩⟩⟩⟩⟩ else
 @bindO (xload none H42 [(.pointer (some ⟨H.length, 0, none⟩))]) ⟨fun v108 =>
 @bindO (xload (some 2) H42 [(.pointer (some ⟨H39.length, 0, none⟩))]) ⟨fun v109 =>
 @bindO (xload (some 2) H42 [(.pointer (some ⟨H11.length, 0, none⟩))]) ⟨fun v110 =>
 @cG 127 [v109, v110] H42 ⟨fun v111 H51 =>
 (chkX [0] (⟨0, none, [(.pointer (some ⟨H.length, 0, none⟩))], v108⟩ :: []) H51 ∧ @bindO (xpure (.ext 0) [v111]) ⟨fun v112 =>
 @bindO (xpure (.ext 1) [v111]) ⟨fun v113 =>
 @cG 124 [v112, v113] H51 ⟨fun v114 H52 =>
 (chkX [0] (⟨0, none, [(.pointer (some ⟨H.length, 0, none⟩))], v108⟩ :: []) H52 ∧ @bindL (xfill [(nv 0), (nv 0)] [(0, 2)] [v114]) ⟨fun cv115 => @letH (H52 ++ [.cells cv115 51 none false]) ⟨fun H53 =>
 (chkX [0] (⟨0, none, [(.pointer (some ⟨H.length, 0, none⟩))], v108⟩ :: []) H53 ∧ @bindP (xact (.app 51 2 16) H53 [v108, (.slice (some ⟨H52.length, 0, none⟩) 1 1)]) ⟨fun v116 H54 =>
 @bindP (xact (.st 1) H54 [(.pointer (some ⟨H.length, 0, none⟩)), v116]) ⟨fun _v H55 =>
 @bindO (xbin .add 0 v80 (nv 1)) ⟨fun v117 =>
 K15 v117 H55⟩⟩⟩)⟩⟩)⟩⟩⟩)⟩⟩⟩⟩⟩⟩⟩⟩⟩⟩⟩ else
 @bindO (xload none H39 [(.pointer (some ⟨H.length, 0, none⟩))]) ⟨fun v118 =>
 @bindP (xact (.st 1) H39 [(.pointer (some ⟨H.length, 0, none⟩)), v118]) ⟨fun _v H56 =>
 @bindP (xact (.st 1) H56 [(.pointer (some ⟨H1.length, 0, none⟩)), (nv 0)]) ⟨fun _v H57 =>
 @bindO (xload none H57 [(.pointer (some ⟨H.length, 0, none⟩))]) ⟨fun r0 => @bindO (xload none H57 [(.pointer (some ⟨H1.length, 0, none⟩))]) ⟨fun r1 => R (.tuple [r0, r1].toArray) H57⟩⟩⟩⟩⟩⟩⟩⟩⟩⟩⟩⟩⟩⟩⟩⟩⟩⟩⟩⟩⟩⟩⟩⟩⟩⟩⟩⟩⟩⟩⟩⟩⟩⟩⟩
theorem g80_of {q0 n1 d2 : Value} {H : AH} {R : Value → AH → Prop} (h : g80 q0 n1 d2 H R) : FN Try.prog 80 [q0, n1, d2] H R :=
  FN.of_XD mixed xd80_ok (by kernel_rfl) (Nat.le_of_ble_eq_true rfl) (cast (by kernel_rfl) h)
def xd85 : XD := (.seq (.reg [yS 0 2 .mov [oC (nv 0)]]) (.seq (.reg [yS 0 3 .mov [oC (nv 0)]]) (.seq (.seq (.reg [yS 0 4 .mov [oC (nv 0)]]) (.block 0 (.loop [3, 4] 16376 (.seq (.seq (.reg [yS 0 5 .mov [oT 4], yS 1 6 (.bin .lss 0) [oT 5, oC (nv 64)]]) (.cond (oT 6) .skip (.exit 0))) (.join [3] 15880 (.block 1 (.seq (.reg [yS 0 9 .mov [oT 0], yS 1 10 .mov [oT 4], yS 2 11 .call [oF 86, oT 9, oT 10]]) (.cond (oT 11) (.reg [yS 0 12 .mov [oT 3], yS 1 13 (.bin .add 0) [oT 12, oC (nv 1)], yS 2 3 .mov [oT 13]]) .skip))) (.reg [yS 0 7 .mov [oT 4], yS 1 8 (.bin .add 0) [oT 7, oC (nv 1)], yS 2 4 .mov [oT 8]])))))) (.seq (.reg [yS 0 14 .mov [oT 3], yS 1 2 .mov [oT 14]]) .ret))))
theorem xd85_ok : compF Try.prog 85 = some ⟨15, [(.tmp 2)], xd85.er⟩ := by kernel_rfl
def g85 (b0 : Value) (H : AH) (R : Value → AH → Prop) : Prop :=
 @loopV2 (nv 0) (nv 0) H ⟨fun n3 p4 H1 K1 =>
 @bindO (xbin .lss 0 p4 (nv 64)) ⟨fun v6 =>
 @condK v6 ⟨fun q => if q = true then @joinV1 (fun J2 => @cG 86 [b0, p4] H1 ⟨fun v11 H2 =>
 @condK v11 ⟨fun q => if q = true then @bindO (xbin .add 0 n3 (nv 1)) ⟨fun v13 =>
 J2 v13 H2⟩ else
 J2 n3 H2⟩⟩) ⟨fun n3a H3 =>
 @bindO (xbin .add 0 p4 (nv 1)) ⟨fun v8 =>
 K1 n3a v8 H3⟩⟩ else
 R n3 H1⟩⟩⟩
theorem g85_of {b0 : Value} {H : AH} {R : Value → AH → Prop} (h : g85 b0 H R) : FN Try.prog 85 [b0] H R :=
  FN.of_XD mixed xd85_ok (by kernel_rfl) (Nat.le_of_ble_eq_true rfl) (cast (by kernel_rfl) h)
def xd86 : XD := (.seq (.reg [yS 0 4 .mov [oC (.bool false)]]) (.seq (.reg [yS 0 5 .mov [oT 0], yS 1 6 .mov [oT 1], yS 2 7 (.conv .u64) [oT 6], yS 3 8 (.bin .shr 0) [oT 5, oT 7], yS 4 9 (.bin .and 0) [oT 8, oC (.int .u64 1)], yS 5 10 (.bin .eql 0) [oT 9, oC (.int .u64 1)], yS 6 4 .mov [oT 10]]) .ret))
theorem xd86_ok : compF Try.prog 86 = some ⟨11, [(.tmp 4)], xd86.er⟩ := by kernel_rfl
def g86 (b0 p1 : Value) (H : AH) (R : Value → AH → Prop) : Prop :=
 @bindO (xpure (.conv .u64) [p1]) ⟨fun v7 =>
 @bindO (xbin .shr 0 b0 v7) ⟨fun v8 =>
 @bindO (xbin .and 0 v8 (.int .u64 1)) ⟨fun v9 =>
 @bindO (xbin .eql 0 v9 (.int .u64 1)) ⟨fun v10 =>
 R v10 H⟩⟩⟩⟩
theorem g86_of {b0 p1 : Value} {H : AH} {R : Value → AH → Prop} (h : g86 b0 p1 H R) : FN Try.prog 86 [b0, p1] H R :=
  FN.of_XD mixed xd86_ok (by kernel_rfl) (Nat.le_of_ble_eq_true rfl) (cast (by kernel_rfl) h)
def xd115 : XD := (.seq (.reg [yS 0 4 .mov [oC (.bool false)]]) (.seq (.reg [yS 0 5 .mov [oT 0], yS 1 6 (.bin .geq 0) [oT 5, oC (nv 2)], yS 2 7 .mov [oT 6], yG (some (7, true)) 3 (some 8) .mov [oT 0], yG (some (7, true)) 4 (some 9) (.bin .leq 0) [oT 8, oC (nv 16)], yS 5 10 .pick [oT 7, oT 9, oC (.bool false)], yS 6 11 .mov [oT 10], yG (some (11, true)) 7 (some 12) .mov [oT 1], yG (some (11, true)) 8 (some 13) (.bin .geq 0) [oT 12, oC (nv 0)], yS 9 14 .pick [oT 11, oT 13, oC (.bool false)], yS 10 15 .mov [oT 14], yG (some (15, true)) 11 (some 16) .mov [oT 1], yG (some (15, true)) 12 (some 17) (.bin .leq 0) [oT 16, oC (nv 24)], yS 13 18 .pick [oT 15, oT 17, oC (.bool false)], yS 14 4 .mov [oT 18]]) .ret))
theorem xd115_ok : compF Try.prog 115 = some ⟨19, [(.tmp 4)], xd115.er⟩ := by kernel_rfl
def g115 (q0 n1 : Value) (H : AH) (R : Value → AH → Prop) : Prop :=
 @bindO (xbin .geq 0 q0 (nv 2)) ⟨fun v6 =>
 @guardJ (asB v6) (fun J1 => J1 q0 H) H ⟨fun v8 H1 =>
 @guardJ (asB v6) (fun J2 => @bindO (xbin .leq 0 v8 (nv 16)) ⟨fun v9 =>
 J2 v9 H1⟩) H1 ⟨fun v9a H2 =>
 @pickK v6 v9a (.bool false) ⟨fun v10 =>
 @guardJ (asB v10) (fun J3 => J3 n1 H2) H2 ⟨fun v12 H3 =>
 @guardJ (asB v10) (fun J4 => @bindO (xbin .geq 0 v12 (nv 0)) ⟨fun v13 =>
 J4 v13 H3⟩) H3 ⟨fun v13a H4 =>
 @pickK v10 v13a (.bool false) ⟨fun v14 =>
 @guardJ (asB v14) (fun J5 => J5 n1 H4) H4 ⟨fun v16 H5 =>
 @guardJ (asB v14) (fun J6 => @bindO (xbin .leq 0 v16 (nv 24)) ⟨fun v17 =>
 J6 v17 H5⟩) H5 ⟨fun v17a H6 =>
 @pickK v14 v17a (.bool false) ⟨fun v18 =>
 R v18 H6⟩⟩⟩⟩⟩⟩⟩⟩⟩⟩
theorem g115_of {q0 n1 : Value} {H : AH} {R : Value → AH → Prop} (h : g115 q0 n1 H R) : FN Try.prog 115 [q0, n1] H R :=
  FN.of_XD mixed xd115_ok (by kernel_rfl) (Nat.le_of_ble_eq_true rfl) (cast (by kernel_rfl) h)
def xd116 : XD := (.seq (.reg [yS 0 6 .mov [oC (.bool false)]]) (.seq (.reg [yS 0 7 .mov [oC (.int .u64 1)]]) (.seq (.seq (.reg [yS 0 10 .mov [oT 1], yS 1 11 .mov [oC (nv 0)]]) (.block 0 (.loop [7, 11] 1073740736 (.seq (.reg [yS 0 12 (.bin .lss 0) [oT 11, oT 10]]) (.seq (.cond (oT 12) .skip (.exit 0)) (.seq (.block 1 (.seq (.reg [yS 0 14 .mov [oT 7], yS 1 15 .mov [oT 0], yS 2 16 (.conv .u64) [oT 15], yS 3 17 .call [oF 157, oT 14, oT 16], yS 4 13 .mov [oT 17], yS 5 18 (.ext 0) [oT 13], yS 6 19 (.ext 1) [oT 13], yS 7 8 .mov [oT 18], yS 8 9 .mov [oT 19]]) (.seq (.seq (.reg [yS 0 20 .mov [oT 8], yS 1 21 (.bin .neq 0) [oT 20, oC (.int .u64 0)], yS 2 22 .mov [oT 21], yG (some (22, false)) 3 (some 23) .mov [oT 9], yG (some (22, false)) 4 (some 24) .mov [oT 2], yG (some (22, false)) 5 (some 25) (.bin .shl 0) [oC (.int .u64 1), oT 24], yG (some (22, false)) 6 (some 26) (.bin .gtr 0) [oT 23, oT 25], yS 7 27 .pick [oT 22, oC (.bool true), oT 26]]) (.cond (oT 27) (.seq (.reg [yS 0 6 .mov [oC (.bool false)]]) .ret) .skip)) (.reg [yS 0 28 .mov [oT 9], yS 1 7 .mov [oT 28]])))) (.reg [yS 0 29 (.bin .add 0) [oT 11, oC (nv 1)], yS 1 11 .mov [oT 29]]))))))) (.seq (.reg [yS 0 6 .mov [oC (.bool true)]]) .ret))))
theorem xd116_ok : compF Try.prog 116 = some ⟨30, [(.tmp 6)], xd116.er⟩ := by kernel_rfl
def g116 (q0 n1 limit2 : Value) (H : AH) (R : Value → AH → Prop) : Prop :=
 @loopV2 (.int .u64 1) (nv 0) H ⟨fun out7 v11 H1 K1 =>
 @bindO (xbin .lss 0 v11 n1) ⟨fun v12 =>
 @condK v12 ⟨fun q => if q = true then @bindO (xpure (.conv .u64) [q0]) ⟨fun v16 =>
 @cG 157 [out7, v16] H1 ⟨fun v17 H2 =>
 @bindO (xpure (.ext 0) [v17]) ⟨fun v18 =>
 @bindO (xpure (.ext 1) [v17]) ⟨fun v19 =>
 @bindO (xbin .neq 0 v18 (.int .u64 0)) ⟨fun v21 =>
 @guardJ (asNB v21) (fun J2 => J2 v19 H2) H2 ⟨fun v23 H3 =>
 @guardJ (asNB v21) (fun J3 => J3 limit2 H3) H3 ⟨fun v24 H4 =>
 @guardJ (asNB v21) (fun J4 => @bindO (xbin .shl 0 (.int .u64 1) v24) ⟨fun v25 =>
 J4 v25 H4⟩) H4 ⟨fun v25a H5 =>
 @guardJ (asNB v21) (fun J5 => @bindO (xbin .gtr 0 v23 v25a) ⟨fun v26 =>
 J5 v26 H5⟩) H5 ⟨fun v26a H6 =>
 @pickK v21 (.bool true) v26a ⟨fun v27 =>
 @condK v27 ⟨fun q => if q = true then R (.bool false) H6 else
 @bindO (xbin .add 0 v11 (nv 1)) ⟨fun v29 =>
 K1 v19 v29 H6⟩⟩⟩⟩⟩⟩⟩⟩⟩⟩⟩⟩ else
 R (.bool true) H1⟩⟩⟩
theorem g116_of {q0 n1 limit2 : Value} {H : AH} {R : Value → AH → Prop} (h : g116 q0 n1 limit2 H R) : FN Try.prog 116 [q0, n1, limit2] H R :=
  FN.of_XD mixed xd116_ok (by kernel_rfl) (Nat.le_of_ble_eq_true rfl) (cast (by kernel_rfl) h)
def xd119 : XD := (.seq (.reg [yS 0 4 .mov [oC (nv 0)]]) (.seq (.reg [yS 0 6 .mov [oC (nv 1)], yS 1 5 .mov [oT 6]]) (.seq (.seq (.reg [yS 0 7 .mov [oT 1], yS 1 8 .mov [oC (nv 0)]]) (.block 0 (.loop [5, 8] 16160 (.seq (.reg [yS 0 9 (.bin .lss 0) [oT 8, oT 7]]) (.seq (.cond (oT 9) .skip (.exit 0)) (.seq (.block 1 (.reg [yS 0 10 .mov [oT 5], yS 1 11 .mov [oT 0], yS 2 12 (.bin .mul 0) [oT 10, oT 11], yS 3 5 .mov [oT 12]])) (.reg [yS 0 13 (.bin .add 0) [oT 8, oC (nv 1)], yS 1 8 .mov [oT 13]]))))))) (.seq (.reg [yS 0 14 .mov [oT 5], yS 1 4 .mov [oT 14]]) .ret))))
theorem xd119_ok : compF Try.prog 119 = some ⟨15, [(.tmp 4)], xd119.er⟩ := by kernel_rfl
def g119 (a0 n1 : Value) (H : AH) (R : Value → AH → Prop) : Prop :=
 @loopV2 (nv 1) (nv 0) H ⟨fun out5 v8 H1 K1 =>
 @bindO (xbin .lss 0 v8 n1) ⟨fun v9 =>
 @condK v9 ⟨fun q => if q = true then @bindO (xbin .mul 0 out5 a0) ⟨fun v12 =>
 @bindO (xbin .add 0 v8 (nv 1)) ⟨fun v13 =>
 K1 v12 v13 H1⟩⟩ else
 R out5 H1⟩⟩⟩
theorem g119_of {a0 n1 : Value} {H : AH} {R : Value → AH → Prop} (h : g119 a0 n1 H R) : FN Try.prog 119 [a0, n1] H R :=
  FN.of_XD mixed xd119_ok (by kernel_rfl) (Nat.le_of_ble_eq_true rfl) (cast (by kernel_rfl) h)
def xd120 : XD := (.seq (.reg [yS 0 6 .mov [oC (.bool false)]]) (.seq (.seq (.reg [yS 0 9 .mov [oT 2], yS 1 10 .lenS [oT 9], yS 2 11 .mov [oC (nv 0)]]) (.block 0 (.loop [11] 8386880 (.seq (.reg [yS 0 12 (.bin .lss 0) [oT 11, oT 10]]) (.seq (.cond (oT 12) .skip (.exit 0)) (.seq (.block 1 (.seq (.reg [yS 0 13 (.ixS 1) [oT 9, oT 11], yS 1 14 (.ld none) [oT 13], yS 2 8 .mov [oT 14]]) (.seq (.reg [yS 0 15 .mov [oT 8], yS 1 16 (.bin .lss 0) [oT 15, oC (nv 0)], yS 2 17 .mov [oT 16], yG (some (17, false)) 3 (some 18) .mov [oT 8], yG (some (17, false)) 4 (some 19) .mov [oT 0], yG (some (17, false)) 5 (some 20) (.bin .geq 0) [oT 18, oT 19], yS 6 21 .pick [oT 17, oC (.bool true), oT 20]]) (.cond (oT 21) (.seq (.reg [yS 0 6 .mov [oC (.bool false)]]) .ret) .skip)))) (.reg [yS 0 22 (.bin .add 0) [oT 11, oC (nv 1)], yS 1 11 .mov [oT 22]]))))))) (.seq (.reg [yS 0 23 .mov [oT 2], yS 1 24 .lenS [oT 23], yS 2 25 .mov [oT 1], yS 3 26 (.bin .eql 0) [oT 24, oT 25], yS 4 6 .mov [oT 26]]) .ret)))
theorem xd120_ok : compF Try.prog 120 = some ⟨27, [(.tmp 6)], xd120.er⟩ := by kernel_rfl
def g120 (q0 n1 w2 : Value) (H : AH) (R : Value → AH → Prop) : Prop :=
 @bindO (xpure .lenS [w2]) ⟨fun v10 =>
 @loopV1 (nv 0) H ⟨fun v11 H1 K1 =>
 @bindO (xbin .lss 0 v11 v10) ⟨fun v12 =>
 @condK v12 ⟨fun q => if q = true then @bindO (xpure (.ixS 1) [w2, v11]) ⟨fun v13 =>
 @bindO (xload none H1 [v13]) ⟨fun v14 =>
 @bindO (xbin .lss 0 v14 (nv 0)) ⟨fun v16 =>
 @guardJ (asNB v16) (fun J2 => J2 v14 H1) H1 ⟨fun v18 H2 =>
 @guardJ (asNB v16) (fun J3 => J3 q0 H2) H2 ⟨fun v19 H3 =>
 @guardJ (asNB v16) (fun J4 => @bindO (xbin .geq 0 v18 v19) ⟨fun v20 =>
 J4 v20 H3⟩) H3 ⟨fun v20a H4 =>
 @pickK v16 (.bool true) v20a ⟨fun v21 =>
 @condK v21 ⟨fun q => if q = true then R (.bool false) H4 else
 @bindO (xbin .add 0 v11 (nv 1)) ⟨fun v22 =>
 K1 v22 H4⟩⟩⟩⟩⟩⟩⟩⟩⟩ else
 @bindO (xpure .lenS [w2]) ⟨fun v24 =>
 @bindO (xbin .eql 0 v24 n1) ⟨fun v26 =>
 R v26 H1⟩⟩⟩⟩⟩⟩
theorem g120_of {q0 n1 w2 : Value} {H : AH} {R : Value → AH → Prop} (h : g120 q0 n1 w2 H R) : FN Try.prog 120 [q0, n1, w2] H R :=
  FN.of_XD mixed xd120_ok (by kernel_rfl) (Nat.le_of_ble_eq_true rfl) (cast (by kernel_rfl) h)
def xd121 : XD := (.seq (.reg [yS 0 4 (.new [(nv 0), (nv 0)] 51) [], yS 1 5 .mov [oC (nv 0)]]) (.seq (.seq (.reg [yS 0 7 .mov [oT 1], yS 1 8 (.bin .eql 0) [oT 7, oC (nv 0)]]) (.cond (oT 8) (.seq (.reg [yS 0 9 (.bld [(nv 0), (nv 0)] []) [], yN 1 (.st 2) [oT 4, oT 9], yS 2 5 .mov [oC (nv 3)]]) .ret) .skip)) (.seq (.seq (.reg [yS 0 10 .mov [oT 0], yS 1 11 (.bin .eql 0) [oT 10, oC (nv 0)]]) (.cond (oT 11) (.seq (.reg [yS 0 12 .call [oF 159], yS 1 13 (.ext 0) [oT 12], yS 2 14 (.ext 1) [oT 12], yN 3 (.st 2) [oT 4, oT 13], yS 4 5 .mov [oT 14]]) .ret) .skip)) (.seq (.reg [yS 0 15 .mov [oT 0], yS 1 16 .call [oF 161, oT 15], yS 2 17 .mov [oT 1], yS 3 18 .call [oF 161, oT 17], yS 4 19 (.bsl [(.int .u64 0), (.int .u64 0)] 2 [(0, 1), (1, 1)] 126) [oT 16, oT 18], yS 5 20 .call [oF 160, oT 19], yS 6 6 .mov [oT 20]]) (.seq (.reg [yS 0 21 .mov [oT 0], yS 1 22 (.bin .lss 0) [oT 21, oC (nv 0)], yS 2 23 .mov [oT 1], yS 3 24 (.bin .lss 0) [oT 23, oC (nv 0)], yS 4 25 (.bin .neq 1) [oT 22, oT 24], yS 5 26 .mov [oT 0], yS 7 28 .mov [oT 6], yS 10 31 .mov [oT 1], yS 12 33 .mov [oT 6], yS 6 27 .call [oF 161, oT 26], yS 8 29 (.bin .quo 0) [oT 27, oT 28], yS 9 30 (.bld [(.bool false), (.int .u64 0), (.int .u64 0)] [(0, 1), (1, 1), (2, 1)]) [oT 25, oC (.int .u64 0), oT 29], yS 11 32 .call [oF 161, oT 31], yS 13 34 (.bin .quo 0) [oT 32, oT 33], yS 14 35 (.bld [(.bool false), (.int .u64 0), (.int .u64 0)] [(0, 1), (1, 1), (2, 1)]) [oC (.bool false), oC (.int .u64 0), oT 34], yS 15 36 .call [oF 162, oT 30, oT 35], yS 16 37 (.ext 0) [oT 36], yS 17 38 (.ext 1) [oT 36], yN 18 (.st 2) [oT 4, oT 37], yS 19 5 .mov [oT 38]]) .ret)))))
theorem xd121_ok : compF Try.prog 121 = some ⟨39, [(.cell 4 (some 2)), (.tmp 5)], xd121.er⟩ := by kernel_rfl
def g121 (n0 d1 : Value) (H : AH) (R : Value → AH → Prop) : Prop :=
 @letH (H ++ [.cells [(nv 0), (nv 0)] 51 none false]) ⟨fun H1 =>
 @bindO (xbin .eql 0 d1 (nv 0)) ⟨fun v8 =>
 @condK v8 ⟨fun q => if q = true then @bindL (xfill [(nv 0), (nv 0)] [] []) ⟨fun v9 =>
 @bindP (xact (.st 2) H1 [(.pointer (some ⟨H.length, 0, none⟩)), (.agg v9.toArray)]) ⟨fun _v H2 =>
 @bindO (xload (some 2) H2 [(.pointer (some ⟨H.length, 0, none⟩))]) ⟨fun r0 => R (.tuple [r0, (nv 3)].toArray) H2⟩⟩⟩ else
 @bindO (xbin .eql 0 n0 (nv 0)) ⟨fun v11 =>
 @condK v11 ⟨fun q => if q = true then @cG 159 [] H1 ⟨fun v12 H3 =>
 @bindO (xpure (.ext 0) [v12]) ⟨fun v13 =>
 @bindO (xpure (.ext 1) [v12]) ⟨fun v14 =>
 @bindP (xact (.st 2) H3 [(.pointer (some ⟨H.length, 0, none⟩)), v13]) ⟨fun _v H4 =>
 @bindO (xload (some 2) H4 [(.pointer (some ⟨H.length, 0, none⟩))]) ⟨fun r0 => R (.tuple [r0, v14].toArray) H4⟩⟩⟩⟩⟩ else
 @cG 161 [n0] H1 ⟨fun v16 H5 =>
 @cG 161 [d1] H5 ⟨fun v18 H6 =>
 @bindL (xfill [(.int .u64 0), (.int .u64 0)] [(0, 1), (1, 1)] [v16, v18]) ⟨fun cv19 => @letH (H6 ++ [.cells cv19 126 none false]) ⟨fun H7 =>
 @cG 160 [(.slice (some ⟨H6.length, 0, none⟩) 2 2)] H7 ⟨fun v20 H8 =>
 @bindO (xbin .lss 0 n0 (nv 0)) ⟨fun v22 =>
 @bindO (xbin .lss 0 d1 (nv 0)) ⟨fun v24 =>
 @bindO (xbin .neq 1 v22 v24) ⟨fun v25 =>
 @cG 161 [n0] H8 ⟨fun v27 H9 =>
 @bindO (xbin .quo 0 v27 v20) ⟨fun v29 =>
 @bindL (xfill [(.bool false), (.int .u64 0), (.int .u64 0)] [(0, 1), (1, 1), (2, 1)] [v25, (.int .u64 0), v29]) ⟨fun v30 =>
 @cG 161 [d1] H9 ⟨fun v32 H10 =>
 @bindO (xbin .quo 0 v32 v20) ⟨fun v34 =>
 @bindL (xfill [(.bool false), (.int .u64 0), (.int .u64 0)] [(0, 1), (1, 1), (2, 1)] [(.bool false), (.int .u64 0), v34]) ⟨fun v35 =>
 @cG 162 [(.agg v30.toArray), (.agg v35.toArray)] H10 ⟨fun v36 H11 =>
 @bindO (xpure (.ext 0) [v36]) ⟨fun v37 =>
 @bindO (xpure (.ext 1) [v36]) ⟨fun v38 =>
 @bindP (xact (.st 2) H11 [(.pointer (some ⟨H.length, 0, none⟩)), v37]) ⟨fun _v H12 =>
 @bindO (xload (some 2) H12 [(.pointer (some ⟨H.length, 0, none⟩))]) ⟨fun r0 => R (.tuple [r0, v38].toArray) H12⟩⟩⟩⟩⟩⟩⟩⟩⟩⟩⟩⟩⟩⟩⟩⟩⟩⟩⟩⟩⟩⟩⟩⟩
theorem g121_of {n0 d1 : Value} {H : AH} {R : Value → AH → Prop} (h : g121 n0 d1 H R) : FN Try.prog 121 [n0, d1] H R :=
  FN.of_XD mixed xd121_ok (by kernel_rfl) (Nat.le_of_ble_eq_true rfl) (cast (by kernel_rfl) h)
def xd122 : XD := (.seq (.reg [yS 0 1 (.box 51) [oT 0], yS 1 2 .mov [oC (.bool false)]]) (.seq (.reg [yS 0 3 (.fld 1) [oT 1], yS 1 4 (.ld none) [oT 3], yS 2 5 (.bin .geq 0) [oT 4, oC (nv 1)], yS 3 6 .mov [oT 5], yG (some (6, true)) 4 (some 7) (.fld 1) [oT 1], yG (some (6, true)) 5 (some 8) (.ld none) [oT 7], yG (some (6, true)) 6 (some 9) (.bin .leq 0) [oT 8, oC (nv 4611686018427387904)], yS 7 10 .pick [oT 6, oT 9, oC (.bool false)], yS 8 11 .mov [oT 10], yG (some (11, true)) 9 (some 12) (.fld 0) [oT 1], yG (some (11, true)) 10 (some 13) (.ld none) [oT 12], yG (some (11, true)) 11 (some 14) (.bin .geq 0) [oT 13, oC (.int .i64 (-4611686018427387904))], yS 12 15 .pick [oT 11, oT 14, oC (.bool false)], yS 13 16 .mov [oT 15], yG (some (16, true)) 14 (some 17) (.fld 0) [oT 1], yG (some (16, true)) 15 (some 18) (.ld none) [oT 17], yG (some (16, true)) 16 (some 19) (.bin .leq 0) [oT 18, oC (nv 4611686018427387904)], yS 17 20 .pick [oT 16, oT 19, oC (.bool false)], yS 18 21 .mov [oT 20], yG (some (21, true)) 19 (some 22) (.fld 0) [oT 1], yG (some (21, true)) 20 (some 23) (.ld none) [oT 22], yG (some (21, true)) 22 (some 25) (.fld 1) [oT 1], ⟨(some (21, true)), (.ld none), [oT 25], some 26, 23, true, []⟩, yG (some (21, true)) 24 (some 27) (.conv .u64) [oT 26], ⟨(some (21, true)), .call, [oF 161, oT 23], some 24, 21, false, [23]⟩, yG (some (21, true)) 25 (some 28) (.bsl [(.int .u64 0), (.int .u64 0)] 2 [(0, 1), (1, 1)] 126) [oT 24, oT 27], yG (some (21, true)) 26 (some 29) .call [oF 160, oT 28], yG (some (21, true)) 27 (some 30) (.bin .eql 0) [oT 29, oC (.int .u64 1)], yS 28 31 .pick [oT 21, oT 30, oC (.bool false)], yS 29 2 .mov [oT 31]]) .ret))
theorem xd122_ok : compF Try.prog 122 = some ⟨32, [(.tmp 2)], xd122.er⟩ := by kernel_rfl
def g122 (a0 : Value) (H : AH) (R : Value → AH → Prop) : Prop :=
 @letH (H ++ [.cells (cellsL a0) 51 none false]) ⟨fun H1 =>
 @bindO (xpure (.fld 1) [(.pointer (some ⟨H.length, 0, none⟩))]) ⟨fun v3 =>
 @bindO (xload none H1 [v3]) ⟨fun v4 =>
 @bindO (xbin .geq 0 v4 (nv 1)) ⟨fun v5 =>
 @guardJ (asB v5) (fun J1 => @bindO (xpure (.fld 1) [(.pointer (some ⟨H.length, 0, none⟩))]) ⟨fun v7 =>
 J1 v7 H1⟩) H1 ⟨fun v7a H2 =>
 @guardJ (asB v5) (fun J2 => @bindO (xload none H2 [v7a]) ⟨fun v8 =>
 J2 v8 H2⟩) H2 ⟨fun v8a H3 =>
 @guardJ (asB v5) (fun J3 => @bindO (xbin .leq 0 v8a (nv 4611686018427387904)) ⟨fun v9 =>
 J3 v9 H3⟩) H3 ⟨fun v9a H4 =>
 @pickK v5 v9a (.bool false) ⟨fun v10 =>
 @guardJ (asB v10) (fun J4 => @bindO (xpure (.fld 0) [(.pointer (some ⟨H.length, 0, none⟩))]) ⟨fun v12 =>
 J4 v12 H4⟩) H4 ⟨fun v12a H5 =>
 @guardJ (asB v10) (fun J5 => @bindO (xload none H5 [v12a]) ⟨fun v13 =>
 J5 v13 H5⟩) H5 ⟨fun v13a H6 =>
 @guardJ (asB v10) (fun J6 => @bindO (xbin .geq 0 v13a (.int .i64 (-4611686018427387904))) ⟨fun v14 =>
 J6 v14 H6⟩) H6 ⟨fun v14a H7 =>
 @pickK v10 v14a (.bool false) ⟨fun v15 =>
 @guardJ (asB v15) (fun J7 => @bindO (xpure (.fld 0) [(.pointer (some ⟨H.length, 0, none⟩))]) ⟨fun v17 =>
 J7 v17 H7⟩) H7 ⟨fun v17a H8 =>
 @guardJ (asB v15) (fun J8 => @bindO (xload none H8 [v17a]) ⟨fun v18 =>
 J8 v18 H8⟩) H8 ⟨fun v18a H9 =>
 @guardJ (asB v15) (fun J9 => @bindO (xbin .leq 0 v18a (nv 4611686018427387904)) ⟨fun v19 =>
 J9 v19 H9⟩) H9 ⟨fun v19a H10 =>
 @pickK v15 v19a (.bool false) ⟨fun v20 =>
 @guardJ (asB v20) (fun J10 => @bindO (xpure (.fld 0) [(.pointer (some ⟨H.length, 0, none⟩))]) ⟨fun v22 =>
 J10 v22 H10⟩) H10 ⟨fun v22a H11 =>
 @guardJ (asB v20) (fun J11 => @bindO (xload none H11 [v22a]) ⟨fun v23 =>
 J11 v23 H11⟩) H11 ⟨fun v23a H12 =>
 @guardJ (asB v20) (fun J12 => @bindO (xpure (.fld 1) [(.pointer (some ⟨H.length, 0, none⟩))]) ⟨fun v25 =>
 J12 v25 H12⟩) H12 ⟨fun v25a H13 =>
 @guardJ (asB v20) (fun J13 => @bindO (xload none H13 [v25a]) ⟨fun v26 =>
 J13 v26 H13⟩) H13 ⟨fun v26a H14 => @letD (bif (asB v20) then ⟨23, none, [v25a], v26a⟩ :: [] else []) ⟨fun D1 =>
 @guardJ (asB v20) (fun J14 => @bindO (xpure (.conv .u64) [v26a]) ⟨fun v27 =>
 J14 v27 H14⟩) H14 ⟨fun v27a H15 =>
 @guardJ (asB v20) (fun J15 => @cG 161 [v23a] H15 ⟨fun v24 H16 =>
 (chkX [23] D1 H16 ∧ J15 v24 H16)⟩) H15 ⟨fun v24a H17 =>
 @guardJ (asB v20) (fun J16 => @bindL (xfill [(.int .u64 0), (.int .u64 0)] [(0, 1), (1, 1)] [v24a, v27a]) ⟨fun cv28 => @letH (H17 ++ [.cells cv28 126 none false]) ⟨fun H18 =>
 J16 (.slice (some ⟨H17.length, 0, none⟩) 2 2) H18⟩⟩) H17 ⟨fun v28a H19 =>
 @guardJ (asB v20) (fun J17 => @cG 160 [v28a] H19 ⟨fun v29 H20 =>
 J17 v29 H20⟩) H19 ⟨fun v29a H21 =>
 @guardJ (asB v20) (fun J18 => @bindO (xbin .eql 0 v29a (.int .u64 1)) ⟨fun v30 =>
 J18 v30 H21⟩) H21 ⟨fun v30a H22 =>
 @pickK v20 v30a (.bool false) ⟨fun v31 =>
 R v31 H22⟩⟩⟩⟩⟩⟩⟩⟩⟩⟩⟩⟩⟩⟩⟩⟩⟩⟩⟩⟩⟩⟩⟩⟩⟩⟩⟩
theorem g122_of {a0 : Value} {H : AH} {R : Value → AH → Prop} (h : g122 a0 H R) : FN Try.prog 122 [a0] H R :=
  FN.of_XD mixed xd122_ok (by kernel_rfl) (Nat.le_of_ble_eq_true rfl) (cast (by kernel_rfl) h)
def xd124 : XD := (.seq (.reg [yS 0 2 (.box 51) [oT 0], yS 1 4 (.new [(nv 0), (nv 0)] 51) []]) (.join [] 480 (.seq (.reg [yS 0 5 .mov [oT 1], yS 1 6 (.bin .neq 0) [oT 5, oC (nv 0)]]) (.cond (oT 6) (.reg [yS 0 7 (.bld [] []) [], yS 1 8 .bad [oT 7], yN 2 .bad [oT 8]]) .skip)) (.seq (.reg [yS 0 9 (.ld (some 2)) [oT 2], yN 1 (.st 2) [oT 4, oT 9]]) .ret)))
theorem xd124_ok : compF Try.prog 124 = some ⟨10, [(.cell 4 (some 2))], xd124.er⟩ := by kernel_rfl
def g124 (f0 e1 : Value) (H : AH) (R : Value → AH → Prop) : Prop :=
 @letH (H ++ [.cells (cellsL f0) 51 none false]) ⟨fun H1 =>
 @letH (H1 ++ [.cells [(nv 0), (nv 0)] 51 none false]) ⟨fun H2 =>
 @joinV0 (fun J1 => @bindO (xbin .neq 0 e1 (nv 0)) ⟨fun v6 =>
 @condK v6 ⟨fun q => if q = true then @bindL (xfill [] [] []) ⟨fun v7 =>
 @bindO (xpure .bad [(.agg v7.toArray)]) ⟨fun v8 =>
 @bindO (xpure .bad [v8]) ⟨fun _v =>
 J1 H2⟩⟩⟩ else
 J1 H2⟩⟩) ⟨fun H3 =>
 @bindO (xload (some 2) H3 [(.pointer (some ⟨H.length, 0, none⟩))]) ⟨fun v9 =>
 @bindP (xact (.st 2) H3 [(.pointer (some ⟨H1.length, 0, none⟩)), v9]) ⟨fun _v H4 =>
 @bindO (xload (some 2) H4 [(.pointer (some ⟨H1.length, 0, none⟩))]) ⟨fun r0 => R r0 H4⟩⟩⟩⟩⟩⟩
theorem g124_of {f0 e1 : Value} {H : AH} {R : Value → AH → Prop} (h : g124 f0 e1 H R) : FN Try.prog 124 [f0, e1] H R :=
  FN.of_XD mixed xd124_ok (by kernel_rfl) (Nat.le_of_ble_eq_true rfl) (cast (by kernel_rfl) h)
def xd125 : XD := (.seq (.reg [yS 0 2 (.box 51) [oT 0], yS 1 3 (.box 51) [oT 1], yS 2 4 (.new [(nv 0), (nv 0)] 51) [], yS 3 5 .mov [oC (nv 0)]]) (.seq (.reg [yS 0 9 (.fld 1) [oT 2], yS 1 10 (.ld none) [oT 9], yS 2 11 (.conv .u64) [oT 10], yS 3 12 (.fld 1) [oT 3], yS 4 13 (.ld none) [oT 12], yS 5 14 (.conv .u64) [oT 13], yS 6 15 (.bsl [(.int .u64 0), (.int .u64 0)] 2 [(0, 1), (1, 1)] 126) [oT 11, oT 14], yS 7 16 .call [oF 160, oT 15], yS 8 6 .mov [oT 16]]) (.seq (.reg [yS 0 17 (.fld 0) [oT 2], yS 1 18 (.ld none) [oT 17], yS 2 19 (.fld 1) [oT 3], yS 3 20 (.ld none) [oT 19], yS 4 21 .mov [oT 6], yS 5 22 (.conv .i64) [oT 21], yS 6 23 (.bin .quo 0) [oT 20, oT 22], yS 8 25 (.fld 0) [oT 3], ⟨none, (.ld none), [oT 25], some 26, 9, true, []⟩, yS 10 27 (.fld 1) [oT 2], ⟨none, (.ld none), [oT 27], some 28, 11, true, []⟩, yS 12 29 .mov [oT 6], yS 13 30 (.conv .i64) [oT 29], yS 14 31 (.bin .quo 0) [oT 28, oT 30], yS 17 7 (.new [(.bool false), (.int .u64 0), (.int .u64 0)] 197) [], ⟨none, .call, [oF 163, oT 18, oT 23], some 24, 7, false, [11, 9]⟩, yS 15 32 .call [oF 163, oT 26, oT 31], yS 16 33 .call [oF 164, oT 24, oT 32], yN 18 (.st 3) [oT 7, oT 33]]) (.seq (.seq (.reg [yS 0 34 (.ld (some 3)) [oT 7], yS 1 35 .call [oF 165, oT 34]]) (.cond (oT 35) (.seq (.reg [yS 0 36 .call [oF 159], yS 1 37 (.ext 0) [oT 36], yS 2 38 (.ext 1) [oT 36], yN 3 (.st 2) [oT 4, oT 37], yS 4 5 .mov [oT 38]]) .ret) .skip)) (.seq (.reg [yS 0 39 (.fld 1) [oT 7], yS 1 40 (.ld none) [oT 39], yS 2 41 (.fld 2) [oT 7], yS 3 42 (.ld none) [oT 41], yS 4 43 .mov [oT 6], yS 5 44 .call [oF 166, oT 40, oT 42, oT 43], yS 6 45 .mov [oT 6], yS 7 46 (.bsl [(.int .u64 0), (.int .u64 0)] 2 [(0, 1), (1, 1)] 126) [oT 44, oT 45], yS 8 47 .call [oF 160, oT 46], yS 9 8 .mov [oT 47]]) (.seq (.reg [yS 0 48 (.ld (some 3)) [oT 7], yS 1 49 .mov [oT 8], yS 3 51 (.fld 1) [oT 2], ⟨none, (.ld none), [oT 51], some 52, 4, true, []⟩, yS 5 53 .mov [oT 6], yS 6 54 (.conv .i64) [oT 53], yS 7 55 (.bin .quo 0) [oT 52, oT 54], yS 8 56 (.fld 1) [oT 3], ⟨none, (.ld none), [oT 56], some 57, 9, true, []⟩, yS 10 58 .mov [oT 8], yS 11 59 (.conv .i64) [oT 58], yS 12 60 (.bin .quo 0) [oT 57, oT 59], ⟨none, .call, [oF 167, oT 48, oT 49], some 50, 2, false, [9, 4]⟩, yS 13 61 .call [oF 163, oT 55, oT 60], yS 14 62 .call [oF 162, oT 50, oT 61], yS 15 63 (.ext 0) [oT 62], yS 16 64 (.ext 1) [oT 62], yN 17 (.st 2) [oT 4, oT 63], yS 18 5 .mov [oT 64]]) .ret))))))
theorem xd125_ok : compF Try.prog 125 = some ⟨65, [(.cell 4 (some 2)), (.tmp 5)], xd125.er⟩ := by kernel_rfl
def g125 (a0 b1 : Value) (H : AH) (R : Value → AH → Prop) : Prop :=
 @letH (H ++ [.cells (cellsL a0) 51 none false]) ⟨fun H1 =>
 @letH (H1 ++ [.cells (cellsL b1) 51 none false]) ⟨fun H2 =>
 @letH (H2 ++ [.cells [(nv 0), (nv 0)] 51 none false]) ⟨fun H3 =>
 @bindO (xpure (.fld 1) [(.pointer (some ⟨H.length, 0, none⟩))]) ⟨fun v9 =>
 @bindO (xload none H3 [v9]) ⟨fun v10 =>
 @bindO (xpure (.conv .u64) [v10]) ⟨fun v11 =>
 @bindO (xpure (.fld 1) [(.pointer (some ⟨H1.length, 0, none⟩))]) ⟨fun v12 =>
 @bindO (xload none H3 [v12]) ⟨fun v13 =>
 @bindO (xpure (.conv .u64) [v13]) ⟨fun v14 =>
 @bindL (xfill [(.int .u64 0), (.int .u64 0)] [(0, 1), (1, 1)] [v11, v14]) ⟨fun cv15 => @letH (H3 ++ [.cells cv15 126 none false]) ⟨fun H4 =>
 @cG 160 [(.slice (some ⟨H3.length, 0, none⟩) 2 2)] H4 ⟨fun v16 H5 =>
 @bindO (xpure (.fld 0) [(.pointer (some ⟨H.length, 0, none⟩))]) ⟨fun v17 =>
 @bindO (xload none H5 [v17]) ⟨fun v18 =>
 @bindO (xpure (.fld 1) [(.pointer (some ⟨H1.length, 0, none⟩))]) ⟨fun v19 =>
 @bindO (xload none H5 [v19]) ⟨fun v20 =>
 @bindO (xpure (.conv .i64) [v16]) ⟨fun v22 =>
 @bindO (xbin .quo 0 v20 v22) ⟨fun v23 =>
 @bindO (xpure (.fld 0) [(.pointer (some ⟨H1.length, 0, none⟩))]) ⟨fun v25 =>
 @bindO (xload none H5 [v25]) ⟨fun v26 =>
 @bindO (xpure (.fld 1) [(.pointer (some ⟨H.length, 0, none⟩))]) ⟨fun v27 =>
 @bindO (xload none H5 [v27]) ⟨fun v28 =>
 @bindO (xpure (.conv .i64) [v16]) ⟨fun v30 =>
 @bindO (xbin .quo 0 v28 v30) ⟨fun v31 =>
 @letH (H5 ++ [.cells [(.bool false), (.int .u64 0), (.int .u64 0)] 197 none false]) ⟨fun H6 =>
 @cG 163 [v18, v23] H6 ⟨fun v24 H7 =>
 (chkX [11, 9] (⟨11, none, [v27], v28⟩ :: (⟨9, none, [v25], v26⟩ :: [])) H7 ∧ @cG 163 [v26, v31] H7 ⟨fun v32 H8 =>
 @cG 164 [v24, v32] H8 ⟨fun v33 H9 =>
 @bindP (xact (.st 3) H9 [(.pointer (some ⟨H5.length, 0, none⟩)), v33]) ⟨fun _v H10 =>
 @bindO (xload (some 3) H10 [(.pointer (some ⟨H5.length, 0, none⟩))]) ⟨fun v34 =>
 @cG 165 [v34] H10 ⟨fun v35 H11 =>
 @condK v35 ⟨fun q => if q = true then @cG 159 [] H11 ⟨fun v36 H12 =>
 @bindO (xpure (.ext 0) [v36]) ⟨fun v37 =>
 @bindO (xpure (.ext 1) [v36]) ⟨fun v38 =>
 @bindP (xact (.st 2) H12 [(.pointer (some ⟨H2.length, 0, none⟩)), v37]) ⟨fun _v H13 =>
 @bindO (xload (some 2) H13 [(.pointer (some ⟨H2.length, 0, none⟩))]) ⟨fun r0 => R (.tuple [r0, v38].toArray) H13⟩⟩⟩⟩⟩ else
 @bindO (xpure (.fld 1) [(.pointer (some ⟨H5.length, 0, none⟩))]) ⟨fun v39 =>
 @bindO (xload none H11 [v39]) ⟨fun v40 =>
 @bindO (xpure (.fld 2) [(.pointer (some ⟨H5.length, 0, none⟩))]) ⟨fun v41 =>
 @bindO (xload none H11 [v41]) ⟨fun v42 =>
 @cG 166 [v40, v42, v16] H11 ⟨fun v44 H14 =>
 @bindL (xfill [(.int .u64 0), (.int .u64 0)] [(0, 1), (1, 1)] [v44, v16]) ⟨fun cv46 => @letH (H14 ++ [.cells cv46 126 none false]) ⟨fun H15 =>
 @cG 160 [(.slice (some ⟨H14.length, 0, none⟩) 2 2)] H15 ⟨fun v47 H16 =>
 @bindO (xload (some 3) H16 [(.pointer (some ⟨H5.length, 0, none⟩))]) ⟨fun v48 =>
 @bindO (xpure (.fld 1) [(.pointer (some ⟨H.length, 0, none⟩))]) ⟨fun v51 =>
 @bindO (xload none H16 [v51]) ⟨fun v52 =>
 @bindO (xpure (.conv .i64) [v16]) ⟨fun v54 =>
 @bindO (xbin .quo 0 v52 v54) ⟨fun v55 =>
 @bindO (xpure (.fld 1) [(.pointer (some ⟨H1.length, 0, none⟩))]) ⟨fun v56 =>
 @bindO (xload none H16 [v56]) ⟨fun v57 =>
 @bindO (xpure (.conv .i64) [v47]) ⟨fun v59 =>
 @bindO (xbin .quo 0 v57 v59) ⟨fun v60 =>
 @cG 167 [v48, v47] H16 ⟨fun v50 H17 =>
 (chkX [9, 4] (⟨9, none, [v56], v57⟩ :: (⟨4, none, [v51], v52⟩ :: [])) H17 ∧ @cG 163 [v55, v60] H17 ⟨fun v61 H18 =>
 @cG 162 [v50, v61] H18 ⟨fun v62 H19 =>
 @bindO (xpure (.ext 0) [v62]) ⟨fun v63 =>
 @bindO (xpure (.ext 1) [v62]) ⟨fun v64 =>
 @bindP (xact (.st 2) H19 [(.pointer (some ⟨H2.length, 0, none⟩)), v63]) ⟨fun _v H20 =>
 @bindO (xload (some 2) H20 [(.pointer (some ⟨H2.length, 0, none⟩))]) ⟨fun r0 => R (.tuple [r0, v64].toArray) H20⟩⟩⟩⟩⟩⟩)⟩⟩⟩⟩⟩⟩⟩⟩⟩⟩⟩⟩⟩⟩⟩⟩⟩⟩⟩⟩⟩⟩⟩⟩)⟩⟩⟩⟩⟩⟩⟩⟩⟩⟩⟩⟩⟩⟩⟩⟩⟩⟩⟩⟩⟩⟩⟩⟩⟩⟩
theorem g125_of {a0 b1 : Value} {H : AH} {R : Value → AH → Prop} (h : g125 a0 b1 H R) : FN Try.prog 125 [a0, b1] H R :=
  FN.of_XD mixed xd125_ok (by kernel_rfl) (Nat.le_of_ble_eq_true rfl) (cast (by kernel_rfl) h)
def xd126 : XD := (.seq (.reg [yS 0 2 (.box 51) [oT 0], yS 1 3 (.box 51) [oT 1], yS 2 4 (.new [(nv 0), (nv 0)] 51) [], yS 3 5 .mov [oC (nv 0)]]) (.seq (.seq (.reg [yS 0 8 (.fld 0) [oT 2], yS 1 9 (.ld none) [oT 8], yS 2 10 (.bin .eql 0) [oT 9, oC (nv 0)], yS 3 11 .mov [oT 10], yG (some (11, false)) 4 (some 12) (.fld 0) [oT 3], yG (some (11, false)) 5 (some 13) (.ld none) [oT 12], yG (some (11, false)) 6 (some 14) (.bin .eql 0) [oT 13, oC (nv 0)], yS 7 15 .pick [oT 11, oC (.bool true), oT 14]]) (.cond (oT 15) (.seq (.reg [yS 0 16 .call [oF 159], yS 1 17 (.ext 0) [oT 16], yS 2 18 (.ext 1) [oT 16], yN 3 (.st 2) [oT 4, oT 17], yS 4 5 .mov [oT 18]]) .ret) .skip)) (.seq (.reg [yS 0 19 (.fld 0) [oT 2], yS 1 20 (.ld none) [oT 19], yS 3 22 (.fld 1) [oT 3], ⟨none, (.ld none), [oT 22], some 23, 4, true, []⟩, yS 5 24 (.conv .u64) [oT 23], yS 9 28 (.fld 0) [oT 3], ⟨none, (.ld none), [oT 28], some 29, 10, true, []⟩, yS 12 31 (.fld 1) [oT 2], ⟨none, (.ld none), [oT 31], some 32, 13, true, []⟩, yS 14 33 (.conv .u64) [oT 32], ⟨none, .call, [oF 161, oT 20], some 21, 2, false, [13, 10, 4]⟩, ⟨none, (.bsl [(.int .u64 0), (.int .u64 0)] 2 [(0, 1), (1, 1)] 126), [oT 21, oT 24], some 25, 6, false, [13, 10]⟩, ⟨none, .call, [oF 160, oT 25], some 26, 7, false, [13, 10]⟩, yS 8 27 (.conv .i64) [oT 26], ⟨none, .call, [oF 161, oT 29], some 30, 11, false, [13]⟩, yS 15 34 (.bsl [(.int .u64 0), (.int .u64 0)] 2 [(0, 1), (1, 1)] 126) [oT 30, oT 33], yS 16 35 .call [oF 160, oT 34], yS 17 36 (.conv .i64) [oT 35], yS 18 6 .mov [oT 27], yS 19 7 .mov [oT 36]]) (.seq (.reg [yS 0 37 (.fld 0) [oT 2], yS 1 38 (.ld none) [oT 37], yS 2 39 .mov [oT 6], yS 3 40 (.bin .quo 0) [oT 38, oT 39], yS 4 41 (.fld 0) [oT 3], yS 5 42 (.ld none) [oT 41], yS 6 43 .mov [oT 7], yS 7 44 (.bin .quo 0) [oT 42, oT 43], yS 9 46 (.fld 1) [oT 2], ⟨none, (.ld none), [oT 46], some 47, 10, true, []⟩, yS 11 48 .mov [oT 7], yS 12 49 (.bin .quo 0) [oT 47, oT 48], yS 13 50 (.fld 1) [oT 3], ⟨none, (.ld none), [oT 50], some 51, 14, true, []⟩, yS 15 52 .mov [oT 6], yS 16 53 (.bin .quo 0) [oT 51, oT 52], ⟨none, .call, [oF 163, oT 40, oT 44], some 45, 8, false, [14, 10]⟩, yS 17 54 .call [oF 163, oT 49, oT 53], yS 18 55 .call [oF 162, oT 45, oT 54], yS 19 56 (.ext 0) [oT 55], yS 20 57 (.ext 1) [oT 55], yN 21 (.st 2) [oT 4, oT 56], yS 22 5 .mov [oT 57]]) .ret))))
theorem xd126_ok : compF Try.prog 126 = some ⟨58, [(.cell 4 (some 2)), (.tmp 5)], xd126.er⟩ := by kernel_rfl
def g126 (a0 b1 : Value) (H : AH) (R : Value → AH → Prop) : Prop :=
 @letH (H ++ [.cells (cellsL a0) 51 none false]) ⟨fun H1 =>
 @letH (H1 ++ [.cells (cellsL b1) 51 none false]) ⟨fun H2 =>
 @letH (H2 ++ [.cells [(nv 0), (nv 0)] 51 none false]) ⟨fun H3 =>
 @bindO (xpure (.fld 0) [(.pointer (some ⟨H.length, 0, none⟩))]) ⟨fun v8 =>
 @bindO (xload none H3 [v8]) ⟨fun v9 =>
 @bindO (xbin .eql 0 v9 (nv 0)) ⟨fun v10 =>
 @guardJ (asNB v10) (fun J1 => @bindO (xpure (.fld 0) [(.pointer (some ⟨H1.length, 0, none⟩))]) ⟨fun v12 =>
 J1 v12 H3⟩) H3 ⟨fun v12a H4 =>
 @guardJ (asNB v10) (fun J2 => @bindO (xload none H4 [v12a]) ⟨fun v13 =>
 J2 v13 H4⟩) H4 ⟨fun v13a H5 =>
 @guardJ (asNB v10) (fun J3 => @bindO (xbin .eql 0 v13a (nv 0)) ⟨fun v14 =>
 J3 v14 H5⟩) H5 ⟨fun v14a H6 =>
 @pickK v10 (.bool true) v14a ⟨fun v15 =>
 @condK v15 ⟨fun q => if q = true then @cG 159 [] H6 ⟨fun v16 H7 =>
 @bindO (xpure (.ext 0) [v16]) ⟨fun v17 =>
 @bindO (xpure (.ext 1) [v16]) ⟨fun v18 =>
 @bindP (xact (.st 2) H7 [(.pointer (some ⟨H2.length, 0, none⟩)), v17]) ⟨fun _v H8 =>
 @bindO (xload (some 2) H8 [(.pointer (some ⟨H2.length, 0, none⟩))]) ⟨fun r0 => R (.tuple [r0, v18].toArray) H8⟩⟩⟩⟩⟩ else
 @bindO (xpure (.fld 0) [(.pointer (some ⟨H.length, 0, none⟩))]) ⟨fun v19 =>
 @bindO (xload none H6 [v19]) ⟨fun v20 =>
 @bindO (xpure (.fld 1) [(.pointer (some ⟨H1.length, 0, none⟩))]) ⟨fun v22 =>
 @bindO (xload none H6 [v22]) ⟨fun v23 =>
 @bindO (xpure (.conv .u64) [v23]) ⟨fun v24 =>
 @bindO (xpure (.fld 0) [(.pointer (some ⟨H1.length, 0, none⟩))]) ⟨fun v28 =>
 @bindO (xload none H6 [v28]) ⟨fun v29 =>
 @bindO (xpure (.fld 1) [(.pointer (some ⟨H.length, 0, none⟩))]) ⟨fun v31 =>
 @bindO (xload none H6 [v31]) ⟨fun v32 =>
 @bindO (xpure (.conv .u64) [v32]) ⟨fun v33 =>
 @cG 161 [v20] H6 ⟨fun v21 H9 =>
 (chkX [13, 10, 4] (⟨13, none, [v31], v32⟩ :: (⟨10, none, [v28], v29⟩ :: (⟨4, none, [v22], v23⟩ :: []))) H9 ∧ @bindL (xfill [(.int .u64 0), (.int .u64 0)] [(0, 1), (1, 1)] [v21, v24]) ⟨fun cv25 => @letH (H9 ++ [.cells cv25 126 none false]) ⟨fun H10 =>
 (chkX [13, 10] (⟨13, none, [v31], v32⟩ :: (⟨10, none, [v28], v29⟩ :: (⟨4, none, [v22], v23⟩ :: []))) H10 ∧ @cG 160 [(.slice (some ⟨H9.length, 0, none⟩) 2 2)] H10 ⟨fun v26 H11 =>
 (chkX [13, 10] (⟨13, none, [v31], v32⟩ :: (⟨10, none, [v28], v29⟩ :: (⟨4, none, [v22], v23⟩ :: []))) H11 ∧ @bindO (xpure (.conv .i64) [v26]) ⟨fun v27 =>
 @cG 161 [v29] H11 ⟨fun v30 H12 =>
 (chkX [13] (⟨13, none, [v31], v32⟩ :: (⟨10, none, [v28], v29⟩ :: (⟨4, none, [v22], v23⟩ :: []))) H12 ∧ @bindL (xfill [(.int .u64 0), (.int .u64 0)] [(0, 1), (1, 1)] [v30, v33]) ⟨fun cv34 => @letH (H12 ++ [.cells cv34 126 none false]) ⟨fun H13 =>
 @cG 160 [(.slice (some ⟨H12.length, 0, none⟩) 2 2)] H13 ⟨fun v35 H14 =>
 @bindO (xpure (.conv .i64) [v35]) ⟨fun v36 =>
 @bindO (xpure (.fld 0) [(.pointer (some ⟨H.length, 0, none⟩))]) ⟨fun v37 =>
 @bindO (xload none H14 [v37]) ⟨fun v38 =>
 @bindO (xbin .quo 0 v38 v27) ⟨fun v40 =>
 @bindO (xpure (.fld 0) [(.pointer (some ⟨H1.length, 0, none⟩))]) ⟨fun v41 =>
 @bindO (xload none H14 [v41]) ⟨fun v42 =>
 @bindO (xbin .quo 0 v42 v36) ⟨fun v44 =>
 @bindO (xpure (.fld 1) [(.pointer (some ⟨H.length, 0, none⟩))]) ⟨fun v46 =>
 @bindO (xload none H14 [v46]) ⟨fun v47 =>
 @bindO (xbin .quo 0 v47 v36) ⟨fun v49 =>
 @bindO (xpure (.fld 1) [(.pointer (some ⟨H1.length, 0, none⟩))]) ⟨fun v50 =>
 @bindO (xload none H14 [v50]) ⟨fun v51 =>
 @bindO (xbin .quo 0 v51 v27) ⟨fun v53 =>
 @cG 163 [v40, v44] H14 ⟨fun v45 H15 =>
 (chkX [14, 10] (⟨14, none, [v50], v51⟩ :: (⟨10, none, [v46], v47⟩ :: [])) H15 ∧ @cG 163 [v49, v53] H15 ⟨fun v54 H16 =>
 @cG 162 [v45, v54] H16 ⟨fun v55 H17 =>
 @bindO (xpure (.ext 0) [v55]) ⟨fun v56 =>
 @bindO (xpure (.ext 1) [v55]) ⟨fun v57 =>
 @bindP (xact (.st 2) H17 [(.pointer (some ⟨H2.length, 0, none⟩)), v56]) ⟨fun _v H18 =>
 @bindO (xload (some 2) H18 [(.pointer (some ⟨H2.length, 0, none⟩))]) ⟨fun r0 => R (.tuple [r0, v57].toArray) H18⟩⟩⟩⟩⟩⟩)⟩⟩⟩⟩⟩⟩⟩⟩⟩⟩⟩⟩⟩⟩⟩⟩⟩)⟩⟩)⟩)⟩⟩)⟩⟩⟩⟩⟩⟩⟩⟩⟩⟩⟩⟩⟩⟩⟩⟩⟩⟩⟩⟩⟩⟩
theorem g126_of {a0 b1 : Value} {H : AH} {R : Value → AH → Prop} (h : g126 a0 b1 H R) : FN Try.prog 126 [a0, b1] H R :=
  FN.of_XD mixed xd126_ok (by kernel_rfl) (Nat.le_of_ble_eq_true rfl) (cast (by kernel_rfl) h)
def xd127 : XD := (.seq (.reg [yS 0 2 (.box 51) [oT 0], yS 1 3 (.box 51) [oT 1], yS 2 4 (.new [(nv 0), (nv 0)] 51) [], yS 3 5 .mov [oC (nv 0)]]) (.seq (.block 0 (.seq (.reg [yS 0 7 (.fld 0) [oT 3], yS 1 8 (.ld none) [oT 7], yS 2 9 (.bin .eql 0) [oT 8, oC (nv 0)], yS 3 6 .mov [oT 9]]) (.cond (oT 6) (.seq (.reg [yS 0 10 (.bld [(nv 0), (nv 0)] []) [], yN 1 (.st 2) [oT 4, oT 10], yS 2 5 .mov [oC (nv 3)]]) .ret) (.seq (.reg [yS 0 12 (.fld 0) [oT 3], yS 1 13 (.ld none) [oT 12], yS 2 14 (.bin .lss 0) [oT 13, oC (nv 0)], yS 3 11 .mov [oT 14]]) (.cond (oT 11) (.seq (.reg [yS 0 15 (.ld (some 2)) [oT 2], yS 1 16 (.fld 1) [oT 3], yS 2 17 (.ld none) [oT 16], yS 3 18 (.un .neg) [oT 17], yS 4 19 (.fld 0) [oT 3], yS 5 20 (.ld none) [oT 19], yS 6 21 (.un .neg) [oT 20], yS 7 22 (.bld [(nv 0), (nv 0)] [(0, 1), (1, 1)]) [oT 18, oT 21], yS 8 23 .call [oF 126, oT 15, oT 22], yS 9 24 (.ext 0) [oT 23], yS 10 25 (.ext 1) [oT 23], yN 11 (.st 2) [oT 4, oT 24], yS 12 5 .mov [oT 25]]) .ret) .skip))))) (.seq (.reg [yS 0 26 (.ld (some 2)) [oT 2], yS 1 27 (.fld 1) [oT 3], yS 2 28 (.ld none) [oT 27], yS 3 29 (.fld 0) [oT 3], yS 4 30 (.ld none) [oT 29], yS 5 31 (.bld [(nv 0), (nv 0)] [(0, 1), (1, 1)]) [oT 28, oT 30], yS 6 32 .call [oF 126, oT 26, oT 31], yS 7 33 (.ext 0) [oT 32], yS 8 34 (.ext 1) [oT 32], yN 9 (.st 2) [oT 4, oT 33], yS 10 5 .mov [oT 34]]) .ret)))
theorem xd127_ok : compF Try.prog 127 = some ⟨35, [(.cell 4 (some 2)), (.tmp 5)], xd127.er⟩ := by kernel_rfl
def g127 (a0 b1 : Value) (H : AH) (R : Value → AH → Prop) : Prop :=
 @letH (H ++ [.cells (cellsL a0) 51 none false]) ⟨fun H1 =>
 @letH (H1 ++ [.cells (cellsL b1) 51 none false]) ⟨fun H2 =>
 @letH (H2 ++ [.cells [(nv 0), (nv 0)] 51 none false]) ⟨fun H3 =>
 @bindO (xpure (.fld 0) [(.pointer (some ⟨H1.length, 0, none⟩))]) ⟨fun v7 =>
 @bindO (xload none H3 [v7]) ⟨fun v8 =>
 @bindO (xbin .eql 0 v8 (nv 0)) ⟨fun v9 =>
 @condK v9 ⟨fun q => if q = true then @bindL (xfill [(nv 0), (nv 0)] [] []) ⟨fun v10 =>
 @bindP (xact (.st 2) H3 [(.pointer (some ⟨H2.length, 0, none⟩)), (.agg v10.toArray)]) ⟨fun _v H4 =>
 @bindO (xload (some 2) H4 [(.pointer (some ⟨H2.length, 0, none⟩))]) ⟨fun r0 => R (.tuple [r0, (nv 3)].toArray) H4⟩⟩⟩ else
 @bindO (xpure (.fld 0) [(.pointer (some ⟨H1.length, 0, none⟩))]) ⟨fun v12 =>
 @bindO (xload none H3 [v12]) ⟨fun v13 =>
 @bindO (xbin .lss 0 v13 (nv 0)) ⟨fun v14 =>
 @condK v14 ⟨fun q => if q = true then @bindO (xload (some 2) H3 [(.pointer (some ⟨H.length, 0, none⟩))]) ⟨fun v15 =>
 @bindO (xpure (.fld 1) [(.pointer (some ⟨H1.length, 0, none⟩))]) ⟨fun v16 =>
 @bindO (xload none H3 [v16]) ⟨fun v17 =>
 @bindO (eun .neg v17) ⟨fun v18 =>
 @bindO (xpure (.fld 0) [(.pointer (some ⟨H1.length, 0, none⟩))]) ⟨fun v19 =>
 @bindO (xload none H3 [v19]) ⟨fun v20 =>
 @bindO (eun .neg v20) ⟨fun v21 =>
 @bindL (xfill [(nv 0), (nv 0)] [(0, 1), (1, 1)] [v18, v21]) ⟨fun v22 =>
 @cG 126 [v15, (.agg v22.toArray)] H3 ⟨fun v23 H5 =>
 @bindO (xpure (.ext 0) [v23]) ⟨fun v24 =>
 @bindO (xpure (.ext 1) [v23]) ⟨fun v25 =>
 @bindP (xact (.st 2) H5 [(.pointer (some ⟨H2.length, 0, none⟩)), v24]) ⟨fun _v H6 =>
 @bindO (xload (some 2) H6 [(.pointer (some ⟨H2.length, 0, none⟩))]) ⟨fun r0 => R (.tuple [r0, v25].toArray) H6⟩⟩⟩⟩⟩⟩⟩⟩⟩⟩⟩⟩⟩ else
 @bindO (xload (some 2) H3 [(.pointer (some ⟨H.length, 0, none⟩))]) ⟨fun v26 =>
 @bindO (xpure (.fld 1) [(.pointer (some ⟨H1.length, 0, none⟩))]) ⟨fun v27 =>
 @bindO (xload none H3 [v27]) ⟨fun v28 =>
 @bindO (xpure (.fld 0) [(.pointer (some ⟨H1.length, 0, none⟩))]) ⟨fun v29 =>
 @bindO (xload none H3 [v29]) ⟨fun v30 =>
 @bindL (xfill [(nv 0), (nv 0)] [(0, 1), (1, 1)] [v28, v30]) ⟨fun v31 =>
 @cG 126 [v26, (.agg v31.toArray)] H3 ⟨fun v32 H7 =>
 @bindO (xpure (.ext 0) [v32]) ⟨fun v33 =>
 @bindO (xpure (.ext 1) [v32]) ⟨fun v34 =>
 @bindP (xact (.st 2) H7 [(.pointer (some ⟨H2.length, 0, none⟩)), v33]) ⟨fun _v H8 =>
 @bindO (xload (some 2) H8 [(.pointer (some ⟨H2.length, 0, none⟩))]) ⟨fun r0 => R (.tuple [r0, v34].toArray) H8⟩⟩⟩⟩⟩⟩⟩⟩⟩⟩⟩⟩⟩⟩⟩⟩⟩⟩⟩⟩⟩⟩
theorem g127_of {a0 b1 : Value} {H : AH} {R : Value → AH → Prop} (h : g127 a0 b1 H R) : FN Try.prog 127 [a0, b1] H R :=
  FN.of_XD mixed xd127_ok (by kernel_rfl) (Nat.le_of_ble_eq_true rfl) (cast (by kernel_rfl) h)
def xd157 : XD := (.seq (.reg [yS 0 4 .mov [oC (.int .u64 0)], yS 1 5 .mov [oC (.int .u64 0)]]) (.seq (.reg [yS 0 14 .mov [oT 0], yS 1 15 (.bin .and 0) [oT 14, oC (.int .u64 4294967295)], yS 2 6 .mov [oT 15]]) (.seq (.reg [yS 0 16 .mov [oT 0], yS 1 17 (.bin .shr 0) [oT 16, oC (.int .u64 32)], yS 2 7 .mov [oT 17]]) (.seq (.reg [yS 0 18 .mov [oT 1], yS 1 19 (.bin .and 0) [oT 18, oC (.int .u64 4294967295)], yS 2 8 .mov [oT 19]]) (.seq (.reg [yS 0 20 .mov [oT 1], yS 1 21 (.bin .shr 0) [oT 20, oC (.int .u64 32)], yS 2 9 .mov [oT 21]]) (.seq (.reg [yS 0 22 .mov [oT 6], yS 1 23 .mov [oT 8], yS 2 24 (.bin .mul 0) [oT 22, oT 23], yS 3 10 .mov [oT 24]]) (.seq (.reg [yS 0 25 .mov [oT 7], yS 1 26 .mov [oT 8], yS 2 27 (.bin .mul 0) [oT 25, oT 26], yS 3 28 .mov [oT 10], yS 4 29 (.bin .shr 0) [oT 28, oC (.int .u64 32)], yS 5 30 (.bin .add 0) [oT 27, oT 29], yS 6 11 .mov [oT 30]]) (.seq (.reg [yS 0 31 .mov [oT 11], yS 1 32 (.bin .and 0) [oT 31, oC (.int .u64 4294967295)], yS 2 12 .mov [oT 32]]) (.seq (.reg [yS 0 33 .mov [oT 11], yS 1 34 (.bin .shr 0) [oT 33, oC (.int .u64 32)], yS 2 13 .mov [oT 34]]) (.seq (.reg [yS 0 35 .mov [oT 12], yS 1 36 .mov [oT 6], yS 2 37 .mov [oT 9], yS 3 38 (.bin .mul 0) [oT 36, oT 37], yS 4 39 (.bin .add 0) [oT 35, oT 38], yS 5 12 .mov [oT 39]]) (.seq (.reg [yS 0 40 .mov [oT 7], yS 1 41 .mov [oT 9], yS 2 42 (.bin .mul 0) [oT 40, oT 41], yS 3 43 .mov [oT 13], yS 4 44 (.bin .add 0) [oT 42, oT 43], yS 5 45 .mov [oT 12], yS 6 46 (.bin .shr 0) [oT 45, oC (.int .u64 32)], yS 7 47 (.bin .add 0) [oT 44, oT 46], yS 8 4 .mov [oT 47]]) (.seq (.reg [yS 0 48 .mov [oT 0], yS 1 49 .mov [oT 1], yS 2 50 (.bin .mul 0) [oT 48, oT 49], yS 3 5 .mov [oT 50]]) .ret))))))))))))
theorem xd157_ok : compF Try.prog 157 = some ⟨51, [(.tmp 4), (.tmp 5)], xd157.er⟩ := by kernel_rfl
def g157 (x0 y1 : Value) (H : AH) (R : Value → AH → Prop) : Prop :=
 @bindO (xbin .and 0 x0 (.int .u64 4294967295)) ⟨fun v15 =>
 @bindO (xbin .shr 0 x0 (.int .u64 32)) ⟨fun v17 =>
 @bindO (xbin .and 0 y1 (.int .u64 4294967295)) ⟨fun v19 =>
 @bindO (xbin .shr 0 y1 (.int .u64 32)) ⟨fun v21 =>
 @bindO (xbin .mul 0 v15 v19) ⟨fun v24 =>
 @bindO (xbin .mul 0 v17 v19) ⟨fun v27 =>
 @bindO (xbin .shr 0 v24 (.int .u64 32)) ⟨fun v29 =>
 @bindO (xbin .add 0 v27 v29) ⟨fun v30 =>
 @bindO (xbin .and 0 v30 (.int .u64 4294967295)) ⟨fun v32 =>
 @bindO (xbin .shr 0 v30 (.int .u64 32)) ⟨fun v34 =>
 @bindO (xbin .mul 0 v15 v21) ⟨fun v38 =>
 @bindO (xbin .add 0 v32 v38) ⟨fun v39 =>
 @bindO (xbin .mul 0 v17 v21) ⟨fun v42 =>
 @bindO (xbin .add 0 v42 v34) ⟨fun v44 =>
 @bindO (xbin .shr 0 v39 (.int .u64 32)) ⟨fun v46 =>
 @bindO (xbin .add 0 v44 v46) ⟨fun v47 =>
 @bindO (xbin .mul 0 x0 y1) ⟨fun v50 =>
 R (.tuple [v47, v50].toArray) H⟩⟩⟩⟩⟩⟩⟩⟩⟩⟩⟩⟩⟩⟩⟩⟩⟩
theorem g157_of {x0 y1 : Value} {H : AH} {R : Value → AH → Prop} (h : g157 x0 y1 H R) : FN Try.prog 157 [x0, y1] H R :=
  FN.of_XD mixed xd157_ok (by kernel_rfl) (Nat.le_of_ble_eq_true rfl) (cast (by kernel_rfl) h)
def xd159 : XD := (.seq (.reg [yS 0 0 (.new [(nv 0), (nv 0)] 51) [], yS 1 1 .mov [oC (nv 0)]]) (.seq (.reg [yS 0 2 (.bld [(nv 0), (nv 0)] [(1, 1)]) [oC (nv 1)], yN 1 (.st 2) [oT 0, oT 2], yS 2 1 .mov [oC (nv 0)]]) .ret))
theorem xd159_ok : compF Try.prog 159 = some ⟨3, [(.cell 0 (some 2)), (.tmp 1)], xd159.er⟩ := by kernel_rfl
def g159 (H : AH) (R : Value → AH → Prop) : Prop :=
 @letH (H ++ [.cells [(nv 0), (nv 0)] 51 none false]) ⟨fun H1 =>
 @bindL (xfill [(nv 0), (nv 0)] [(1, 1)] [(nv 1)]) ⟨fun v2 =>
 @bindP (xact (.st 2) H1 [(.pointer (some ⟨H.length, 0, none⟩)), (.agg v2.toArray)]) ⟨fun _v H2 =>
 @bindO (xload (some 2) H2 [(.pointer (some ⟨H.length, 0, none⟩))]) ⟨fun r0 => R (.tuple [r0, (nv 0)].toArray) H2⟩⟩⟩⟩
theorem g159_of {H : AH} {R : Value → AH → Prop} (h : g159  H R) : FN Try.prog 159 [] H R :=
  FN.of_XD mixed xd159_ok (by kernel_rfl) (Nat.le_of_ble_eq_true rfl) (cast (by kernel_rfl) h)
def xd160 : XD := (.seq (.reg [yS 0 2 .mov [oC (.int .u64 0)]]) (.seq (.reg [yS 0 6 .mov [oT 0], yS 1 7 (.ixS 1) [oT 6, oC (nv 0)], yS 2 8 (.ld none) [oT 7], yS 3 3 .mov [oT 8]]) (.seq (.seq (.reg [yS 0 9 .mov [oT 0], yS 1 10 (.slS 1 true false) [oT 9, oC (nv 1)], yS 2 11 .lenS [oT 10], yS 3 12 .mov [oC (nv 0)]]) (.block 0 (.loop [3, 12] 8384552 (.seq (.reg [yS 0 13 (.bin .lss 0) [oT 12, oT 11]]) (.seq (.cond (oT 13) .skip (.exit 0)) (.seq (.block 1 (.seq (.reg [yS 0 14 (.ixS 1) [oT 10, oT 12], yS 1 15 (.ld none) [oT 14], yS 2 5 .mov [oT 15]]) (.block 2 (.loop [3, 5] 4128808 (.seq (.seq (.reg [yS 0 16 .mov [oT 5], yS 1 17 (.bin .gtr 0) [oT 16, oC (.int .u64 0)]]) (.cond (oT 17) .skip (.exit 2))) (.block 3 (.reg [yS 0 18 .mov [oT 5], yS 1 19 .mov [oT 3], yS 2 20 .mov [oT 5], yS 3 21 (.bin .rem 0) [oT 19, oT 20], yS 4 3 .mov [oT 18], yS 5 5 .mov [oT 21]]))))))) (.reg [yS 0 22 (.bin .add 0) [oT 12, oC (nv 1)], yS 1 12 .mov [oT 22]]))))))) (.seq (.reg [yS 0 23 .mov [oT 3], yS 1 2 .mov [oT 23]]) .ret))))
theorem xd160_ok : compF Try.prog 160 = some ⟨24, [(.tmp 2)], xd160.er⟩ := by kernel_rfl
def g160 (l0 : Value) (H : AH) (R : Value → AH → Prop) : Prop :=
 @bindO (xpure (.ixS 1) [l0, (nv 0)]) ⟨fun v7 =>
 @bindO (xload none H [v7]) ⟨fun v8 =>
 @bindO (xpure (.slS 1 true false) [l0, (nv 1)]) ⟨fun v10 =>
 @bindO (xpure .lenS [v10]) ⟨fun v11 =>
 @loopV2 v8 (nv 0) H ⟨fun a3 v12 H1 K1 =>
 @bindO (xbin .lss 0 v12 v11) ⟨fun v13 =>
 @condK v13 ⟨fun q => if q = true then @bindO (xpure (.ixS 1) [v10, v12]) ⟨fun v14 =>
 @bindO (xload none H1 [v14]) ⟨fun v15 =>
 @loopV2 a3 v15 H1 ⟨fun a3a b5 H2 K2 =>
 @bindO (xbin .gtr 0 b5 (.int .u64 0)) ⟨fun v17 =>
 @condK v17 ⟨fun q => if q = true then @bindO (xbin .rem 0 a3a b5) ⟨fun v21 =>
 K2 b5 v21 H2⟩ else
 @bindO (xbin .add 0 v12 (nv 1)) ⟨fun v22 =>
 K1 a3a v22 H2⟩⟩⟩⟩⟩⟩ else
 R a3 H1⟩⟩⟩⟩⟩⟩⟩
theorem g160_of {l0 : Value} {H : AH} {R : Value → AH → Prop} (h : g160 l0 H R) : FN Try.prog 160 [l0] H R :=
  FN.of_XD mixed xd160_ok (by kernel_rfl) (Nat.le_of_ble_eq_true rfl) (cast (by kernel_rfl) h)
def xd161 : XD := (.seq (.reg [yS 0 2 .mov [oC (.int .u64 0)]]) (.seq (.seq (.reg [yS 0 3 .mov [oT 0], yS 1 4 (.bin .lss 0) [oT 3, oC (nv 0)]]) (.cond (oT 4) (.seq (.reg [yS 0 5 .mov [oT 0], yS 1 6 (.conv .u64) [oT 5], yS 2 7 (.un .neg) [oT 6], yS 3 2 .mov [oT 7]]) .ret) .skip)) (.seq (.reg [yS 0 8 .mov [oT 0], yS 1 9 (.conv .u64) [oT 8], yS 2 2 .mov [oT 9]]) .ret)))
theorem xd161_ok : compF Try.prog 161 = some ⟨10, [(.tmp 2)], xd161.er⟩ := by kernel_rfl
def g161 (n0 : Value) (H : AH) (R : Value → AH → Prop) : Prop :=
 @bindO (xbin .lss 0 n0 (nv 0)) ⟨fun v4 =>
 @condK v4 ⟨fun q => if q = true then @bindO (xpure (.conv .u64) [n0]) ⟨fun v6 =>
 @bindO (eun .neg v6) ⟨fun v7 =>
 R v7 H⟩⟩ else
 @bindO (xpure (.conv .u64) [n0]) ⟨fun v9 =>
 R v9 H⟩⟩⟩
theorem g161_of {n0 : Value} {H : AH} {R : Value → AH → Prop} (h : g161 n0 H R) : FN Try.prog 161 [n0] H R :=
  FN.of_XD mixed xd161_ok (by kernel_rfl) (Nat.le_of_ble_eq_true rfl) (cast (by kernel_rfl) h)
def xd162 : XD := (.seq (.reg [yS 0 2 (.box 197) [oT 0], yS 1 3 (.box 197) [oT 1], yS 2 4 (.new [(nv 0), (nv 0)] 51) [], yS 3 5 .mov [oC (nv 0)]]) (.seq (.reg [yS 0 11 (.ld (some 3)) [oT 2], yS 1 12 .call [oF 184, oT 11], yS 2 10 .mov [oT 12], yS 3 13 (.ext 0) [oT 10], yS 4 14 (.ext 1) [oT 10], yS 5 6 .mov [oT 13], yS 6 7 .mov [oT 14]]) (.seq (.reg [yS 0 16 (.ld (some 3)) [oT 3], yS 1 17 .call [oF 184, oT 16], yS 2 15 .mov [oT 17], yS 3 18 (.ext 0) [oT 15], yS 4 19 (.ext 1) [oT 15], yS 5 8 .mov [oT 18], yS 6 9 .mov [oT 19]]) (.seq (.seq (.reg [yS 0 20 .mov [oT 7], yS 1 21 (.un .not) [oT 20], yS 2 22 .mov [oT 21], yG (some (22, false)) 3 (some 23) .mov [oT 9], yG (some (22, false)) 4 (some 24) (.un .not) [oT 23], yS 5 25 .pick [oT 22, oC (.bool true), oT 24]]) (.cond (oT 25) (.seq (.reg [yS 0 26 (.bld [(nv 0), (nv 0)] []) [], yN 1 (.st 2) [oT 4, oT 26], yS 2 5 .mov [oC (nv 2)]]) .ret) .skip)) (.seq (.reg [yS 0 27 .mov [oT 6], yS 1 28 .mov [oT 8], yS 2 29 (.bld [(nv 0), (nv 0)] [(0, 1), (1, 1)]) [oT 27, oT 28], yN 3 (.st 2) [oT 4, oT 29], yS 4 5 .mov [oC (nv 0)]]) .ret)))))
theorem xd162_ok : compF Try.prog 162 = some ⟨30, [(.cell 4 (some 2)), (.tmp 5)], xd162.er⟩ := by kernel_rfl
def g162 (n0 d1 : Value) (H : AH) (R : Value → AH → Prop) : Prop :=
 @letH (H ++ [.cells (cellsL n0) 197 none false]) ⟨fun H1 =>
 @letH (H1 ++ [.cells (cellsL d1) 197 none false]) ⟨fun H2 =>
 @letH (H2 ++ [.cells [(nv 0), (nv 0)] 51 none false]) ⟨fun H3 =>
 @bindO (xload (some 3) H3 [(.pointer (some ⟨H.length, 0, none⟩))]) ⟨fun v11 =>
 @cG 184 [v11] H3 ⟨fun v12 H4 =>
 @bindO (xpure (.ext 0) [v12]) ⟨fun v13 =>
 @bindO (xpure (.ext 1) [v12]) ⟨fun v14 =>
 @bindO (xload (some 3) H4 [(.pointer (some ⟨H1.length, 0, none⟩))]) ⟨fun v16 =>
 @cG 184 [v16] H4 ⟨fun v17 H5 =>
 @bindO (xpure (.ext 0) [v17]) ⟨fun v18 =>
 @bindO (xpure (.ext 1) [v17]) ⟨fun v19 =>
 @bindO (eun .not v14) ⟨fun v21 =>
 @guardJ (asNB v21) (fun J1 => J1 v19 H5) H5 ⟨fun v23 H6 =>
 @guardJ (asNB v21) (fun J2 => @bindO (eun .not v23) ⟨fun v24 =>
 J2 v24 H6⟩) H6 ⟨fun v24a H7 =>
 @pickK v21 (.bool true) v24a ⟨fun v25 =>
 @condK v25 ⟨fun q => if q = true then @bindL (xfill [(nv 0), (nv 0)] [] []) ⟨fun v26 =>
 @bindP (xact (.st 2) H7 [(.pointer (some ⟨H2.length, 0, none⟩)), (.agg v26.toArray)]) ⟨fun _v H8 =>
 @bindO (xload (some 2) H8 [(.pointer (some ⟨H2.length, 0, none⟩))]) ⟨fun r0 => R (.tuple [r0, (nv 2)].toArray) H8⟩⟩⟩ else
 @bindL (xfill [(nv 0), (nv 0)] [(0, 1), (1, 1)] [v13, v18]) ⟨fun v29 =>
 @bindP (xact (.st 2) H7 [(.pointer (some ⟨H2.length, 0, none⟩)), (.agg v29.toArray)]) ⟨fun _v H9 =>
 @bindO (xload (some 2) H9 [(.pointer (some ⟨H2.length, 0, none⟩))]) ⟨fun r0 => R (.tuple [r0, (nv 0)].toArray) H9⟩⟩⟩⟩⟩⟩⟩⟩⟩⟩⟩⟩⟩⟩⟩⟩⟩⟩⟩
theorem g162_of {n0 d1 : Value} {H : AH} {R : Value → AH → Prop} (h : g162 n0 d1 H R) : FN Try.prog 162 [n0, d1] H R :=
  FN.of_XD mixed xd162_ok (by kernel_rfl) (Nat.le_of_ble_eq_true rfl) (cast (by kernel_rfl) h)
def xd163 : XD := (.seq (.reg [yS 0 4 (.new [(.bool false), (.int .u64 0), (.int .u64 0)] 197) []]) (.seq (.reg [yS 0 8 .mov [oT 0], yS 1 9 .call [oF 161, oT 8], yS 2 10 .mov [oT 1], yS 3 11 .call [oF 161, oT 10], yS 4 12 .call [oF 157, oT 9, oT 11], yS 5 7 .mov [oT 12], yS 6 13 (.ext 0) [oT 7], yS 7 14 (.ext 1) [oT 7], yS 8 5 .mov [oT 13], yS 9 6 .mov [oT 14]]) (.seq (.reg [yS 0 15 .mov [oT 0], yS 1 16 (.bin .lss 0) [oT 15, oC (nv 0)], yS 2 17 .mov [oT 1], yS 3 18 (.bin .lss 0) [oT 17, oC (nv 0)], yS 4 19 (.bin .neq 1) [oT 16, oT 18], yS 5 20 .mov [oT 5], yS 6 21 .mov [oT 6], yS 7 22 (.bld [(.bool false), (.int .u64 0), (.int .u64 0)] [(0, 1), (1, 1), (2, 1)]) [oT 19, oT 20, oT 21], yN 8 (.st 3) [oT 4, oT 22]]) .ret)))
theorem xd163_ok : compF Try.prog 163 = some ⟨23, [(.cell 4 (some 3))], xd163.er⟩ := by kernel_rfl
def g163 (a0 b1 : Value) (H : AH) (R : Value → AH → Prop) : Prop :=
 @letH (H ++ [.cells [(.bool false), (.int .u64 0), (.int .u64 0)] 197 none false]) ⟨fun H1 =>
 @cG 161 [a0] H1 ⟨fun v9 H2 =>
 @cG 161 [b1] H2 ⟨fun v11 H3 =>
 @cG 157 [v9, v11] H3 ⟨fun v12 H4 =>
 @bindO (xpure (.ext 0) [v12]) ⟨fun v13 =>
 @bindO (xpure (.ext 1) [v12]) ⟨fun v14 =>
 @bindO (xbin .lss 0 a0 (nv 0)) ⟨fun v16 =>
 @bindO (xbin .lss 0 b1 (nv 0)) ⟨fun v18 =>
 @bindO (xbin .neq 1 v16 v18) ⟨fun v19 =>
 @bindL (xfill [(.bool false), (.int .u64 0), (.int .u64 0)] [(0, 1), (1, 1), (2, 1)] [v19, v13, v14]) ⟨fun v22 =>
 @bindP (xact (.st 3) H4 [(.pointer (some ⟨H.length, 0, none⟩)), (.agg v22.toArray)]) ⟨fun _v H5 =>
 @bindO (xload (some 3) H5 [(.pointer (some ⟨H.length, 0, none⟩))]) ⟨fun r0 => R r0 H5⟩⟩⟩⟩⟩⟩⟩⟩⟩⟩⟩⟩
theorem g163_of {a0 b1 : Value} {H : AH} {R : Value → AH → Prop} (h : g163 a0 b1 H R) : FN Try.prog 163 [a0, b1] H R :=
  FN.of_XD mixed xd163_ok (by kernel_rfl) (Nat.le_of_ble_eq_true rfl) (cast (by kernel_rfl) h)
def xd164 : XD := (.seq (.reg [yS 0 2 (.box 197) [oT 0], yS 1 3 (.box 197) [oT 1], yS 2 4 (.new [(.bool false), (.int .u64 0), (.int .u64 0)] 197) []]) (.seq (.seq (.reg [yS 0 13 (.fld 0) [oT 2], yS 1 14 (.ld none) [oT 13], yS 2 15 (.fld 0) [oT 3], yS 3 16 (.ld none) [oT 15], yS 4 17 (.bin .eql 1) [oT 14, oT 16]]) (.cond (oT 17) (.seq (.reg [yS 0 19 (.fld 2) [oT 2], yS 1 20 (.ld none) [oT 19], yS 2 21 (.fld 2) [oT 3], yS 3 22 (.ld none) [oT 21], yS 4 23 (.ext3 true 185) [oF 185, oT 20, oT 22, oC (.int .u64 0)], yS 5 18 .mov [oT 23], yS 6 24 (.ext 0) [oT 18], yS 7 25 (.ext 1) [oT 18], yS 8 5 .mov [oT 24], yS 9 6 .mov [oT 25]]) (.seq (.reg [yS 0 27 (.fld 1) [oT 2], yS 1 28 (.ld none) [oT 27], yS 2 29 (.fld 1) [oT 3], yS 3 30 (.ld none) [oT 29], yS 4 31 .mov [oT 6], yS 5 32 (.ext3 true 185) [oF 185, oT 28, oT 30, oT 31], yS 6 26 .mov [oT 32], yS 7 33 (.ext 0) [oT 26], yS 8 34 (.ext 1) [oT 26], yS 9 7 .mov [oT 33], yS 10 8 .mov [oT 34]]) (.seq (.reg [yS 0 35 (.fld 0) [oT 2], yS 1 36 (.ld none) [oT 35], yS 2 37 .mov [oT 7], yS 3 38 .mov [oT 5], yS 4 39 (.bld [(.bool false), (.int .u64 0), (.int .u64 0)] [(0, 1), (1, 1), (2, 1)]) [oT 36, oT 37, oT 38], yN 5 (.st 3) [oT 4, oT 39]]) .ret))) .skip)) (.join [] 69269232549888 (.seq (.reg [yS 0 40 (.ld (some 3)) [oT 2], yS 1 41 (.ld (some 3)) [oT 3], yS 2 42 .call [oF 186, oT 40, oT 41], yS 3 43 (.un .not) [oT 42]]) (.cond (oT 43) (.reg [yS 0 44 (.ld (some 3)) [oT 3], yS 1 45 (.ld (some 3)) [oT 2], yN 2 (.st 3) [oT 2, oT 44], yN 3 (.st 3) [oT 3, oT 45]]) .skip)) (.seq (.reg [yS 0 47 (.fld 2) [oT 2], yS 1 48 (.ld none) [oT 47], yS 2 49 (.fld 2) [oT 3], yS 3 50 (.ld none) [oT 49], yS 4 51 (.ext3 false 187) [oF 187, oT 48, oT 50, oC (.int .u64 0)], yS 5 46 .mov [oT 51], yS 6 52 (.ext 0) [oT 46], yS 7 53 (.ext 1) [oT 46], yS 8 9 .mov [oT 52], yS 9 10 .mov [oT 53]]) (.seq (.reg [yS 0 55 (.fld 1) [oT 2], yS 1 56 (.ld none) [oT 55], yS 2 57 (.fld 1) [oT 3], yS 3 58 (.ld none) [oT 57], yS 4 59 .mov [oT 10], yS 5 60 (.ext3 false 187) [oF 187, oT 56, oT 58, oT 59], yS 6 54 .mov [oT 60], yS 7 61 (.ext 0) [oT 54], yS 8 62 (.ext 1) [oT 54], yS 9 11 .mov [oT 61], yS 10 12 .mov [oT 62]]) (.seq (.reg [yS 0 63 (.fld 0) [oT 2], yS 1 64 (.ld none) [oT 63], yS 2 65 .mov [oT 11], yS 3 66 .mov [oT 9], yS 4 67 (.bld [(.bool false), (.int .u64 0), (.int .u64 0)] [(0, 1), (1, 1), (2, 1)]) [oT 64, oT 65, oT 66], yN 5 (.st 3) [oT 4, oT 67]]) .ret))))))
theorem xd164_ok : compF Try.prog 164 = some ⟨68, [(.cell 4 (some 3))], xd164.er⟩ := by kernel_rfl
def g164 (w0 v1 : Value) (H : AH) (R : Value → AH → Prop) : Prop :=
 @letH (H ++ [.cells (cellsL w0) 197 none false]) ⟨fun H1 =>
 @letH (H1 ++ [.cells (cellsL v1) 197 none false]) ⟨fun H2 =>
 @letH (H2 ++ [.cells [(.bool false), (.int .u64 0), (.int .u64 0)] 197 none false]) ⟨fun H3 =>
 @bindO (xpure (.fld 0) [(.pointer (some ⟨H.length, 0, none⟩))]) ⟨fun v13 =>
 @bindO (xload none H3 [v13]) ⟨fun v14 =>
 @bindO (xpure (.fld 0) [(.pointer (some ⟨H1.length, 0, none⟩))]) ⟨fun v15 =>
 @bindO (xload none H3 [v15]) ⟨fun v16 =>
 @bindO (xbin .eql 1 v14 v16) ⟨fun v17 =>
 @condK v17 ⟨fun q => if q = true then @bindO (xpure (.fld 2) [(.pointer (some ⟨H.length, 0, none⟩))]) ⟨fun v19 =>
 @bindO (xload none H3 [v19]) ⟨fun v20 =>
 @bindO (xpure (.fld 2) [(.pointer (some ⟨H1.length, 0, none⟩))]) ⟨fun v21 =>
 @bindO (xload none H3 [v21]) ⟨fun v22 =>
 @bindO (xpure (.ext3 true 185) [(.func (.func 185) #[] #[]), v20, v22, (.int .u64 0)]) ⟨fun v23 =>
 @bindO (xpure (.ext 0) [v23]) ⟨fun v24 =>
 @bindO (xpure (.ext 1) [v23]) ⟨fun v25 =>
 @bindO (xpure (.fld 1) [(.pointer (some ⟨H.length, 0, none⟩))]) ⟨fun v27 =>
 @bindO (xload none H3 [v27]) ⟨fun v28 =>
 @bindO (xpure (.fld 1) [(.pointer (some ⟨H1.length, 0, none⟩))]) ⟨fun v29 =>
 @bindO (xload none H3 [v29]) ⟨fun v30 =>
 @bindO (xpure (.ext3 true 185) [(.func (.func 185) #[] #[]), v28, v30, v25]) ⟨fun v32 =>
 @bindO (xpure (.ext 0) [v32]) ⟨fun v33 =>
 @bindO (xpure (.ext 1) [v32]) ⟨fun v34 =>
 @bindO (xpure (.fld 0) [(.pointer (some ⟨H.length, 0, none⟩))]) ⟨fun v35 =>
 @bindO (xload none H3 [v35]) ⟨fun v36 =>
 @bindL (xfill [(.bool false), (.int .u64 0), (.int .u64 0)] [(0, 1), (1, 1), (2, 1)] [v36, v33, v24]) ⟨fun v39 =>
 @bindP (xact (.st 3) H3 [(.pointer (some ⟨H2.length, 0, none⟩)), (.agg v39.toArray)]) ⟨fun _v H4 =>
 @bindO (xload (some 3) H4 [(.pointer (some ⟨H2.length, 0, none⟩))]) ⟨fun r0 => R r0 H4⟩⟩⟩⟩⟩⟩⟩⟩⟩⟩⟩⟩⟩⟩⟩⟩⟩⟩⟩ else
 @joinV0 (fun J1 => @bindO (xload (some 3) H3 [(.pointer (some ⟨H.length, 0, none⟩))]) ⟨fun v40 =>
 @bindO (xload (some 3) H3 [(.pointer (some ⟨H1.length, 0, none⟩))]) ⟨fun v41 =>
 @cG 186 [v40, v41] H3 ⟨fun v42 H5 =>
 @bindO (eun .not v42) ⟨fun v43 =>
 @condK v43 ⟨fun q => if q = true then @bindO (xload (some 3) H5 [(.pointer (some ⟨H1.length, 0, none⟩))]) ⟨fun v44 =>
 @bindO (xload (some 3) H5 [(.pointer (some ⟨H.length, 0, none⟩))]) ⟨fun v45 =>
 @bindP (xact (.st 3) H5 [(.pointer (some ⟨H.length, 0, none⟩)), v44]) ⟨fun _v H6 =>
 @bindP (xact (.st 3) H6 [(.pointer (some ⟨H1.length, 0, none⟩)), v45]) ⟨fun _v H7 =>
 J1 H7⟩⟩⟩⟩ else
 J1 H5⟩⟩⟩⟩⟩) ⟨fun H8 =>
 @bindO (xpure (.fld 2) [(.pointer (some ⟨H.length, 0, none⟩))]) ⟨fun v47 =>
 @bindO (xload none H8 [v47]) ⟨fun v48 =>
 @bindO (xpure (.fld 2) [(.pointer (some ⟨H1.length, 0, none⟩))]) ⟨fun v49 =>
 @bindO (xload none H8 [v49]) ⟨fun v50 =>
 @bindO (xpure (.ext3 false 187) [(.func (.func 187) #[] #[]), v48, v50, (.int .u64 0)]) ⟨fun v51 =>
 @bindO (xpure (.ext 0) [v51]) ⟨fun v52 =>
 @bindO (xpure (.ext 1) [v51]) ⟨fun v53 =>
 @bindO (xpure (.fld 1) [(.pointer (some ⟨H.length, 0, none⟩))]) ⟨fun v55 =>
 @bindO (xload none H8 [v55]) ⟨fun v56 =>
 @bindO (xpure (.fld 1) [(.pointer (some ⟨H1.length, 0, none⟩))]) ⟨fun v57 =>
 @bindO (xload none H8 [v57]) ⟨fun v58 =>
 @bindO (xpure (.ext3 false 187) [(.func (.func 187) #[] #[]), v56, v58, v53]) ⟨fun v60 =>
 @bindO (xpure (.ext 0) [v60]) ⟨fun v61 =>
 @bindO (xpure (.ext 1) [v60]) ⟨fun v62 =>
 @bindO (xpure (.fld 0) [(.pointer (some ⟨H.length, 0, none⟩))]) ⟨fun v63 =>
 @bindO (xload none H8 [v63]) ⟨fun v64 =>
 @bindL (xfill [(.bool false), (.int .u64 0), (.int .u64 0)] [(0, 1), (1, 1), (2, 1)] [v64, v61, v52]) ⟨fun v67 =>
 @bindP (xact (.st 3) H8 [(.pointer (some ⟨H2.length, 0, none⟩)), (.agg v67.toArray)]) ⟨fun _v H9 =>
 @bindO (xload (some 3) H9 [(.pointer (some ⟨H2.length, 0, none⟩))]) ⟨fun r0 => R r0 H9⟩⟩⟩⟩⟩⟩⟩⟩⟩⟩⟩⟩⟩⟩⟩⟩⟩⟩⟩⟩⟩⟩⟩⟩⟩⟩⟩⟩⟩
theorem g164_of {w0 v1 : Value} {H : AH} {R : Value → AH → Prop} (h : g164 w0 v1 H R) : FN Try.prog 164 [w0, v1] H R :=
  FN.of_XD mixed xd164_ok (by kernel_rfl) (Nat.le_of_ble_eq_true rfl) (cast (by kernel_rfl) h)
def xd165 : XD := (.seq (.reg [yS 0 1 (.box 197) [oT 0], yS 1 2 .mov [oC (.bool false)]]) (.seq (.reg [yS 0 3 (.fld 1) [oT 1], yS 1 4 (.ld none) [oT 3], yS 2 5 (.bin .eql 0) [oT 4, oC (.int .u64 0)], yS 3 6 .mov [oT 5], yG (some (6, true)) 4 (some 7) (.fld 2) [oT 1], yG (some (6, true)) 5 (some 8) (.ld none) [oT 7], yG (some (6, true)) 6 (some 9) (.bin .eql 0) [oT 8, oC (.int .u64 0)], yS 7 10 .pick [oT 6, oT 9, oC (.bool false)], yS 8 2 .mov [oT 10]]) .ret))
theorem xd165_ok : compF Try.prog 165 = some ⟨11, [(.tmp 2)], xd165.er⟩ := by kernel_rfl
def g165 (w0 : Value) (H : AH) (R : Value → AH → Prop) : Prop :=
 @letH (H ++ [.cells (cellsL w0) 197 none false]) ⟨fun H1 =>
 @bindO (xpure (.fld 1) [(.pointer (some ⟨H.length, 0, none⟩))]) ⟨fun v3 =>
 @bindO (xload none H1 [v3]) ⟨fun v4 =>
 @bindO (xbin .eql 0 v4 (.int .u64 0)) ⟨fun v5 =>
 @guardJ (asB v5) (fun J1 => @bindO (xpure (.fld 2) [(.pointer (some ⟨H.length, 0, none⟩))]) ⟨fun v7 =>
 J1 v7 H1⟩) H1 ⟨fun v7a H2 =>
 @guardJ (asB v5) (fun J2 => @bindO (xload none H2 [v7a]) ⟨fun v8 =>
 J2 v8 H2⟩) H2 ⟨fun v8a H3 =>
 @guardJ (asB v5) (fun J3 => @bindO (xbin .eql 0 v8a (.int .u64 0)) ⟨fun v9 =>
 J3 v9 H3⟩) H3 ⟨fun v9a H4 =>
 @pickK v5 v9a (.bool false) ⟨fun v10 =>
 R v10 H4⟩⟩⟩⟩⟩⟩⟩⟩
theorem g165_of {w0 : Value} {H : AH} {R : Value → AH → Prop} (h : g165 w0 H R) : FN Try.prog 165 [w0] H R :=
  FN.of_XD mixed xd165_ok (by kernel_rfl) (Nat.le_of_ble_eq_true rfl) (cast (by kernel_rfl) h)
def xd166 : XD := (.seq (.reg [yS 0 6 .mov [oC (.int .u64 0)]]) (.seq (.reg [yS 0 10 .mov [oT 0], yS 1 11 .mov [oT 2], yS 2 12 (.bin .rem 0) [oT 10, oT 11], yS 3 13 .mov [oT 1], yS 4 14 .mov [oT 2], yS 5 15 .call [oF 188, oT 12, oT 13, oT 14], yS 6 9 .mov [oT 15], yS 7 16 (.ext 0) [oT 9], yS 8 17 (.ext 1) [oT 9], yS 9 7 .mov [oT 16], yS 10 8 .mov [oT 17]]) (.seq (.reg [yS 0 18 .mov [oT 8], yS 1 6 .mov [oT 18]]) .ret)))
theorem xd166_ok : compF Try.prog 166 = some ⟨19, [(.tmp 6)], xd166.er⟩ := by kernel_rfl
def g166 (hi0 lo1 y2 : Value) (H : AH) (R : Value → AH → Prop) : Prop :=
 @bindO (xbin .rem 0 hi0 y2) ⟨fun v12 =>
 @cG 188 [v12, lo1, y2] H ⟨fun v15 H1 =>
 @bindO (xpure (.ext 0) [v15]) ⟨fun v16 =>
 @bindO (xpure (.ext 1) [v15]) ⟨fun v17 =>
 R v17 H1⟩⟩⟩⟩
theorem g166_of {hi0 lo1 y2 : Value} {H : AH} {R : Value → AH → Prop} (h : g166 hi0 lo1 y2 H R) : FN Try.prog 166 [hi0, lo1, y2] H R :=
  FN.of_XD mixed xd166_ok (by kernel_rfl) (Nat.le_of_ble_eq_true rfl) (cast (by kernel_rfl) h)
def xd167 : XD := (.seq (.reg [yS 0 2 (.box 197) [oT 0], yS 1 4 (.new [(.bool false), (.int .u64 0), (.int .u64 0)] 197) []]) (.seq (.reg [yS 0 8 (.fld 1) [oT 2], yS 1 9 (.ld none) [oT 8], yS 2 10 .mov [oT 1], yS 3 11 (.bin .rem 0) [oT 9, oT 10], yS 4 12 (.fld 2) [oT 2], yS 5 13 (.ld none) [oT 12], yS 6 14 .mov [oT 1], yS 7 15 .call [oF 188, oT 11, oT 13, oT 14], yS 8 7 .mov [oT 15], yS 9 16 (.ext 0) [oT 7], yS 10 17 (.ext 1) [oT 7], yS 11 5 .mov [oT 16], yS 12 6 .mov [oT 17]]) (.seq (.reg [yS 0 18 (.fld 0) [oT 2], yS 1 19 (.ld none) [oT 18], yS 2 20 (.fld 1) [oT 2], yS 3 21 (.ld none) [oT 20], yS 4 22 .mov [oT 1], yS 5 23 (.bin .quo 0) [oT 21, oT 22], yS 6 24 .mov [oT 5], yS 7 25 (.bld [(.bool false), (.int .u64 0), (.int .u64 0)] [(0, 1), (1, 1), (2, 1)]) [oT 19, oT 23, oT 24], yN 8 (.st 3) [oT 4, oT 25]]) .ret)))
theorem xd167_ok : compF Try.prog 167 = some ⟨26, [(.cell 4 (some 3))], xd167.er⟩ := by kernel_rfl
def g167 (w0 m1 : Value) (H : AH) (R : Value → AH → Prop) : Prop :=
 @letH (H ++ [.cells (cellsL w0) 197 none false]) ⟨fun H1 =>
 @letH (H1 ++ [.cells [(.bool false), (.int .u64 0), (.int .u64 0)] 197 none false]) ⟨fun H2 =>
 @bindO (xpure (.fld 1) [(.pointer (some ⟨H.length, 0, none⟩))]) ⟨fun v8 =>
 @bindO (xload none H2 [v8]) ⟨fun v9 =>
 @bindO (xbin .rem 0 v9 m1) ⟨fun v11 =>
 @bindO (xpure (.fld 2) [(.pointer (some ⟨H.length, 0, none⟩))]) ⟨fun v12 =>
 @bindO (xload none H2 [v12]) ⟨fun v13 =>
 @cG 188 [v11, v13, m1] H2 ⟨fun v15 H3 =>
 @bindO (xpure (.ext 0) [v15]) ⟨fun v16 =>
 @bindO (xpure (.ext 1) [v15]) ⟨fun v17 =>
 @bindO (xpure (.fld 0) [(.pointer (some ⟨H.length, 0, none⟩))]) ⟨fun v18 =>
 @bindO (xload none H3 [v18]) ⟨fun v19 =>
 @bindO (xpure (.fld 1) [(.pointer (some ⟨H.length, 0, none⟩))]) ⟨fun v20 =>
 @bindO (xload none H3 [v20]) ⟨fun v21 =>
 @bindO (xbin .quo 0 v21 m1) ⟨fun v23 =>
 @bindL (xfill [(.bool false), (.int .u64 0), (.int .u64 0)] [(0, 1), (1, 1), (2, 1)] [v19, v23, v16]) ⟨fun v25 =>
 @bindP (xact (.st 3) H3 [(.pointer (some ⟨H1.length, 0, none⟩)), (.agg v25.toArray)]) ⟨fun _v H4 =>
 @bindO (xload (some 3) H4 [(.pointer (some ⟨H1.length, 0, none⟩))]) ⟨fun r0 => R r0 H4⟩⟩⟩⟩⟩⟩⟩⟩⟩⟩⟩⟩⟩⟩⟩⟩⟩⟩
theorem g167_of {w0 m1 : Value} {H : AH} {R : Value → AH → Prop} (h : g167 w0 m1 H R) : FN Try.prog 167 [w0, m1] H R :=
  FN.of_XD mixed xd167_ok (by kernel_rfl) (Nat.le_of_ble_eq_true rfl) (cast (by kernel_rfl) h)
def xd183 : XD := (.seq (.reg [yS 0 4 .mov [oC (nv 0)]]) (.seq (.seq (.reg [yS 0 7 .mov [oT 1], yS 1 8 (.bin .lss 0) [oT 7, oC (nv 0)], yS 2 9 .mov [oT 8], yG (some (9, false)) 3 (some 10) .mov [oT 1], yG (some (9, false)) 4 (some 11) .mov [oT 0], yG (some (9, false)) 5 (some 12) (.bin .gtr 0) [oT 10, oT 11], yS 6 13 .pick [oT 9, oC (.bool true), oT 12]]) (.cond (oT 13) (.seq (.reg [yS 0 4 .mov [oC (nv 0)]]) .ret) .skip)) (.seq (.reg [yS 0 5 .mov [oC (nv 1)]]) (.seq (.seq (.reg [yS 0 14 .mov [oT 1], yS 1 15 .mov [oT 0], yS 2 16 .mov [oT 1], yS 3 17 (.bin .sub 0) [oT 15, oT 16], yS 4 18 .min2 [oT 14, oT 17], yS 5 19 .mov [oC (nv 0)]]) (.block 0 (.loop [5, 19] 2146959456 (.seq (.reg [yS 0 20 (.bin .lss 0) [oT 19, oT 18]]) (.seq (.cond (oT 20) .skip (.exit 0)) (.seq (.block 1 (.seq (.reg [yS 0 21 .mov [oT 19], yS 1 6 .mov [oT 21]]) (.reg [yS 0 22 .mov [oT 5], yS 1 23 .mov [oT 0], yS 2 24 .mov [oT 6], yS 3 25 (.bin .sub 0) [oT 23, oT 24], yS 4 26 (.bin .mul 0) [oT 22, oT 25], yS 5 27 .mov [oT 6], yS 6 28 (.bin .add 0) [oT 27, oC (nv 1)], yS 7 29 (.bin .quo 0) [oT 26, oT 28], yS 8 5 .mov [oT 29]]))) (.reg [yS 0 30 (.bin .add 0) [oT 19, oC (nv 1)], yS 1 19 .mov [oT 30]]))))))) (.seq (.reg [yS 0 31 .mov [oT 5], yS 1 4 .mov [oT 31]]) .ret)))))
theorem xd183_ok : compF Try.prog 183 = some ⟨32, [(.tmp 4)], xd183.er⟩ := by kernel_rfl
def g183 (n0 k1 : Value) (H : AH) (R : Value → AH → Prop) : Prop :=
 @bindO (xbin .lss 0 k1 (nv 0)) ⟨fun v8 =>
 @guardJ (asNB v8) (fun J1 => J1 k1 H) H ⟨fun v10 H1 =>
 @guardJ (asNB v8) (fun J2 => J2 n0 H1) H1 ⟨fun v11 H2 =>
 @guardJ (asNB v8) (fun J3 => @bindO (xbin .gtr 0 v10 v11) ⟨fun v12 =>
 J3 v12 H2⟩) H2 ⟨fun v12a H3 =>
 @pickK v8 (.bool true) v12a ⟨fun v13 =>
 @condK v13 ⟨fun q => if q = true then R (nv 0) H3 else
 @bindO (xbin .sub 0 n0 k1) ⟨fun v17 =>
 @bindO (xpure .min2 [k1, v17]) ⟨fun v18 =>
 @loopV2 (nv 1) (nv 0) H3 ⟨fun out5 v19 H4 K4 =>
 @bindO (xbin .lss 0 v19 v18) ⟨fun v20 =>
 @condK v20 ⟨fun q => if q = true then @bindO (xbin .sub 0 n0 v19) ⟨fun v25 =>
 @bindO (xbin .mul 0 out5 v25) ⟨fun v26 =>
 @bindO (xbin .add 0 v19 (nv 1)) ⟨fun v28 =>
 @bindO (xbin .quo 0 v26 v28) ⟨fun v29 =>
 @bindO (xbin .add 0 v19 (nv 1)) ⟨fun v30 =>
 K4 v29 v30 H4⟩⟩⟩⟩⟩ else
 R out5 H4⟩⟩⟩⟩⟩⟩⟩⟩⟩⟩⟩
theorem g183_of {n0 k1 : Value} {H : AH} {R : Value → AH → Prop} (h : g183 n0 k1 H R) : FN Try.prog 183 [n0, k1] H R :=
  FN.of_XD mixed xd183_ok (by kernel_rfl) (Nat.le_of_ble_eq_true rfl) (cast (by kernel_rfl) h)
def xd184 : XD := (.seq (.reg [yS 0 1 (.box 197) [oT 0], yS 1 2 .mov [oC (nv 0)], yS 2 3 .mov [oC (.bool false)]]) (.seq (.seq (.reg [yS 0 4 (.fld 1) [oT 1], yS 1 5 (.ld none) [oT 4], yS 2 6 (.bin .gtr 0) [oT 5, oC (.int .u64 0)], yS 3 7 .mov [oT 6], yG (some (7, false)) 4 (some 8) (.fld 2) [oT 1], yG (some (7, false)) 5 (some 9) (.ld none) [oT 8], yG (some (7, false)) 6 (some 10) (.bin .gtr 0) [oT 9, oC (.int .u64 4611686018427387904)], yS 7 11 .pick [oT 7, oC (.bool true), oT 10]]) (.cond (oT 11) (.seq (.reg [yS 0 2 .mov [oC (nv 0)], yS 1 3 .mov [oC (.bool false)]]) .ret) .skip)) (.seq (.seq (.reg [yS 0 12 (.fld 0) [oT 1], yS 1 13 (.ld none) [oT 12]]) (.cond (oT 13) (.seq (.reg [yS 0 14 (.fld 2) [oT 1], yS 1 15 (.ld none) [oT 14], yS 2 16 (.conv .i64) [oT 15], yS 3 17 (.un .neg) [oT 16], yS 4 2 .mov [oT 17], yS 5 3 .mov [oC (.bool true)]]) .ret) .skip)) (.seq (.reg [yS 0 18 (.fld 2) [oT 1], yS 1 19 (.ld none) [oT 18], yS 2 20 (.conv .i64) [oT 19], yS 3 2 .mov [oT 20], yS 4 3 .mov [oC (.bool true)]]) .ret))))
theorem xd184_ok : compF Try.prog 184 = some ⟨21, [(.tmp 2), (.tmp 3)], xd184.er⟩ := by kernel_rfl
def g184 (w0 : Value) (H : AH) (R : Value → AH → Prop) : Prop :=
 @letH (H ++ [.cells (cellsL w0) 197 none false]) ⟨fun H1 =>
 @bindO (xpure (.fld 1) [(.pointer (some ⟨H.length, 0, none⟩))]) ⟨fun v4 =>
 @bindO (xload none H1 [v4]) ⟨fun v5 =>
 @bindO (xbin .gtr 0 v5 (.int .u64 0)) ⟨fun v6 =>
 @guardJ (asNB v6) (fun J1 => @bindO (xpure (.fld 2) [(.pointer (some ⟨H.length, 0, none⟩))]) ⟨fun v8 =>
 J1 v8 H1⟩) H1 ⟨fun v8a H2 =>
 @guardJ (asNB v6) (fun J2 => @bindO (xload none H2 [v8a]) ⟨fun v9 =>
 J2 v9 H2⟩) H2 ⟨fun v9a H3 =>
 @guardJ (asNB v6) (fun J3 => @bindO (xbin .gtr 0 v9a (.int .u64 4611686018427387904)) ⟨fun v10 =>
 J3 v10 H3⟩) H3 ⟨fun v10a H4 =>
 @pickK v6 (.bool true) v10a ⟨fun v11 =>
 @condK v11 ⟨fun q => if q = true then R (.tuple [(nv 0), (.bool false)].toArray) H4 else
 @bindO (xpure (.fld 0) [(.pointer (some ⟨H.length, 0, none⟩))]) ⟨fun v12 =>
 @bindO (xload none H4 [v12]) ⟨fun v13 =>
 @condK v13 ⟨fun q => if q = true then @bindO (xpure (.fld 2) [(.pointer (some ⟨H.length, 0, none⟩))]) ⟨fun v14 =>
 @bindO (xload none H4 [v14]) ⟨fun v15 =>
 @bindO (xpure (.conv .i64) [v15]) ⟨fun v16 =>
 @bindO (eun .neg v16) ⟨fun v17 =>
 R (.tuple [v17, (.bool true)].toArray) H4⟩⟩⟩⟩ else
 @bindO (xpure (.fld 2) [(.pointer (some ⟨H.length, 0, none⟩))]) ⟨fun v18 =>
 @bindO (xload none H4 [v18]) ⟨fun v19 =>
 @bindO (xpure (.conv .i64) [v19]) ⟨fun v20 =>
 R (.tuple [v20, (.bool true)].toArray) H4⟩⟩⟩⟩⟩⟩⟩⟩⟩⟩⟩⟩⟩⟩⟩
theorem g184_of {w0 : Value} {H : AH} {R : Value → AH → Prop} (h : g184 w0 H R) : FN Try.prog 184 [w0] H R :=
  FN.of_XD mixed xd184_ok (by kernel_rfl) (Nat.le_of_ble_eq_true rfl) (cast (by kernel_rfl) h)
def xd186 : XD := (.seq (.reg [yS 0 2 (.box 197) [oT 0], yS 1 3 (.box 197) [oT 1], yS 2 4 .mov [oC (.bool false)]]) (.seq (.reg [yS 0 5 (.fld 1) [oT 2], yS 1 6 (.ld none) [oT 5], yS 2 7 (.fld 1) [oT 3], yS 3 8 (.ld none) [oT 7], yS 4 9 (.bin .gtr 0) [oT 6, oT 8], yS 5 10 .mov [oT 9], yG (some (10, false)) 6 (some 11) (.fld 1) [oT 2], yG (some (10, false)) 7 (some 12) (.ld none) [oT 11], yG (some (10, false)) 8 (some 13) (.fld 1) [oT 3], yG (some (10, false)) 9 (some 14) (.ld none) [oT 13], yG (some (10, false)) 10 (some 15) (.bin .eql 0) [oT 12, oT 14], yG (some (10, false)) 11 (some 16) .mov [oT 15], yG (some (16, true)) 12 (some 17) (.fld 2) [oT 2], yG (some (16, true)) 13 (some 18) (.ld none) [oT 17], yG (some (16, true)) 14 (some 19) (.fld 2) [oT 3], yG (some (16, true)) 15 (some 20) (.ld none) [oT 19], yG (some (16, true)) 16 (some 21) (.bin .geq 0) [oT 18, oT 20], yG (some (10, false)) 17 (some 22) .pick [oT 16, oT 21, oC (.bool false)], yS 18 23 .pick [oT 10, oC (.bool true), oT 22], yS 19 4 .mov [oT 23]]) .ret))
theorem xd186_ok : compF Try.prog 186 = some ⟨24, [(.tmp 4)], xd186.er⟩ := by kernel_rfl
def g186 (w0 v1 : Value) (H : AH) (R : Value → AH → Prop) : Prop :=
 @letH (H ++ [.cells (cellsL w0) 197 none false]) ⟨fun H1 =>
 @letH (H1 ++ [.cells (cellsL v1) 197 none false]) ⟨fun H2 =>
 @bindO (xpure (.fld 1) [(.pointer (some ⟨H.length, 0, none⟩))]) ⟨fun v5 =>
 @bindO (xload none H2 [v5]) ⟨fun v6 =>
 @bindO (xpure (.fld 1) [(.pointer (some ⟨H1.length, 0, none⟩))]) ⟨fun v7 =>
 @bindO (xload none H2 [v7]) ⟨fun v8 =>
 @bindO (xbin .gtr 0 v6 v8) ⟨fun v9 =>
 @guardJ (asNB v9) (fun J1 => @bindO (xpure (.fld 1) [(.pointer (some ⟨H.length, 0, none⟩))]) ⟨fun v11 =>
 J1 v11 H2⟩) H2 ⟨fun v11a H3 =>
 @guardJ (asNB v9) (fun J2 => @bindO (xload none H3 [v11a]) ⟨fun v12 =>
 J2 v12 H3⟩) H3 ⟨fun v12a H4 =>
 @guardJ (asNB v9) (fun J3 => @bindO (xpure (.fld 1) [(.pointer (some ⟨H1.length, 0, none⟩))]) ⟨fun v13 =>
 J3 v13 H4⟩) H4 ⟨fun v13a H5 =>
 @guardJ (asNB v9) (fun J4 => @bindO (xload none H5 [v13a]) ⟨fun v14 =>
 J4 v14 H5⟩) H5 ⟨fun v14a H6 =>
 @guardJ (asNB v9) (fun J5 => @bindO (xbin .eql 0 v12a v14a) ⟨fun v15 =>
 J5 v15 H6⟩) H6 ⟨fun v15a H7 =>
 @guardJ (asNB v9) (fun J6 => J6 v15a H7) H7 ⟨fun v16 H8 =>
 @guardJ (asB v16) (fun J7 => @bindO (xpure (.fld 2) [(.pointer (some ⟨H.length, 0, none⟩))]) ⟨fun v17 =>
 J7 v17 H8⟩) H8 ⟨fun v17a H9 =>
 @guardJ (asB v16) (fun J8 => @bindO (xload none H9 [v17a]) ⟨fun v18 =>
 J8 v18 H9⟩) H9 ⟨fun v18a H10 =>
 @guardJ (asB v16) (fun J9 => @bindO (xpure (.fld 2) [(.pointer (some ⟨H1.length, 0, none⟩))]) ⟨fun v19 =>
 J9 v19 H10⟩) H10 ⟨fun v19a H11 =>
 @guardJ (asB v16) (fun J10 => @bindO (xload none H11 [v19a]) ⟨fun v20 =>
 J10 v20 H11⟩) H11 ⟨fun v20a H12 =>
 @guardJ (asB v16) (fun J11 => @bindO (xbin .geq 0 v18a v20a) ⟨fun v21 =>
 J11 v21 H12⟩) H12 ⟨fun v21a H13 =>
 @guardJ (asNB v9) (fun J12 => @pickK v16 v21a (.bool false) ⟨fun v22 =>
 J12 v22 H13⟩) H13 ⟨fun v22a H14 =>
 @pickK v9 (.bool true) v22a ⟨fun v23 =>
 R v23 H14⟩⟩⟩⟩⟩⟩⟩⟩⟩⟩⟩⟩⟩⟩⟩⟩⟩⟩⟩⟩
theorem g186_of {w0 v1 : Value} {H : AH} {R : Value → AH → Prop} (h : g186 w0 v1 H R) : FN Try.prog 186 [w0, v1] H R :=
  FN.of_XD mixed xd186_ok (by kernel_rfl) (Nat.le_of_ble_eq_true rfl) (cast (by kernel_rfl) h)
def xd188 : XD := (.seq (.reg [yS 0 6 .mov [oC (.int .u64 0)], yS 1 7 .mov [oC (.int .u64 0)]]) (.join [] 3670016 (.seq (.reg [yS 0 19 .mov [oT 2], yS 1 20 (.bin .eql 0) [oT 19, oC (.int .u64 0)]]) (.cond (oT 20) (.reg [yS 0 21 .bad [], yN 1 .bad [oT 21]]) .skip)) (.join [] 62914560 (.seq (.reg [yS 0 22 .mov [oT 2], yS 1 23 .mov [oT 0], yS 2 24 (.bin .leq 0) [oT 22, oT 23]]) (.cond (oT 24) (.reg [yS 0 25 .bad [], yN 1 .bad [oT 25]]) .skip)) (.seq (.seq (.reg [yS 0 26 .mov [oT 0], yS 1 27 (.bin .eql 0) [oT 26, oC (.int .u64 0)]]) (.cond (oT 27) (.seq (.reg [yS 0 28 .mov [oT 1], yS 1 29 .mov [oT 2], yS 2 30 (.bin .quo 0) [oT 28, oT 29], yS 3 31 .mov [oT 1], yS 4 32 .mov [oT 2], yS 5 33 (.bin .rem 0) [oT 31, oT 32], yS 6 6 .mov [oT 30], yS 7 7 .mov [oT 33]]) .ret) .skip)) (.seq (.reg [yS 0 34 .mov [oT 2], yS 1 35 .call [oF 192, oT 34], yS 2 36 (.conv .u64) [oT 35], yS 3 8 .mov [oT 36]]) (.seq (.reg [yS 0 37 .mov [oT 2], yS 1 38 .mov [oT 8], yS 2 39 (.bin .shl 0) [oT 37, oT 38], yS 3 2 .mov [oT 39]]) (.seq (.reg [yS 0 40 .mov [oT 2], yS 1 41 (.bin .shr 0) [oT 40, oC (.int .u64 32)], yS 2 9 .mov [oT 41]]) (.seq (.reg [yS 0 42 .mov [oT 2], yS 1 43 (.bin .and 0) [oT 42, oC (.int .u64 4294967295)], yS 2 10 .mov [oT 43]]) (.seq (.reg [yS 0 44 .mov [oT 0], yS 1 45 .mov [oT 8], yS 2 46 (.bin .shl 0) [oT 44, oT 45], yS 3 47 .mov [oT 1], yS 4 48 .mov [oT 8], yS 5 49 (.bin .sub 0) [oC (.int .u64 64), oT 48], yS 6 50 (.bin .shr 0) [oT 47, oT 49], yS 7 51 (.bin .or 0) [oT 46, oT 50], yS 8 11 .mov [oT 51]]) (.seq (.reg [yS 0 52 .mov [oT 1], yS 1 53 .mov [oT 8], yS 2 54 (.bin .shl 0) [oT 52, oT 53], yS 3 12 .mov [oT 54]]) (.seq (.reg [yS 0 55 .mov [oT 12], yS 1 56 (.bin .shr 0) [oT 55, oC (.int .u64 32)], yS 2 13 .mov [oT 56]]) (.seq (.reg [yS 0 57 .mov [oT 12], yS 1 58 (.bin .and 0) [oT 57, oC (.int .u64 4294967295)], yS 2 14 .mov [oT 58]]) (.seq (.reg [yS 0 59 .mov [oT 11], yS 1 60 .mov [oT 9], yS 2 61 (.bin .quo 0) [oT 59, oT 60], yS 3 15 .mov [oT 61]]) (.seq (.reg [yS 0 62 .mov [oT 11], yS 1 63 .mov [oT 15], yS 2 64 .mov [oT 9], yS 3 65 (.bin .mul 0) [oT 63, oT 64], yS 4 66 (.bin .sub 0) [oT 62, oT 65], yS 5 16 .mov [oT 66]]) (.join [15] 77371104881383677504880640 (.block 0 (.loop [15, 16] 77371104881383677504880640 (.seq (.seq (.reg [yS 0 67 .mov [oT 15], yS 1 68 (.bin .geq 0) [oT 67, oC (.int .u64 4294967296)], yS 2 69 .mov [oT 68], yG (some (69, false)) 3 (some 70) .mov [oT 15], yG (some (69, false)) 4 (some 71) .mov [oT 10], yG (some (69, false)) 5 (some 72) (.bin .mul 0) [oT 70, oT 71], yG (some (69, false)) 6 (some 73) .mov [oT 16], yG (some (69, false)) 7 (some 74) (.bin .mul 0) [oC (.int .u64 4294967296), oT 73], yG (some (69, false)) 8 (some 75) .mov [oT 13], yG (some (69, false)) 9 (some 76) (.bin .add 0) [oT 74, oT 75], yG (some (69, false)) 10 (some 77) (.bin .gtr 0) [oT 72, oT 76], yS 11 78 .pick [oT 69, oC (.bool true), oT 77]]) (.cond (oT 78) .skip (.exit 0))) (.block 1 (.seq (.reg [yS 0 79 .mov [oT 15], yS 1 80 (.bin .sub 0) [oT 79, oC (.int .u64 1)], yS 2 15 .mov [oT 80]]) (.seq (.reg [yS 0 81 .mov [oT 16], yS 1 82 .mov [oT 9], yS 2 83 (.bin .add 0) [oT 81, oT 82], yS 3 16 .mov [oT 83]]) (.seq (.reg [yS 0 84 .mov [oT 16], yS 1 85 (.bin .geq 0) [oT 84, oC (.int .u64 4294967296)]]) (.cond (oT 85) (.exit 0) .skip)))))))) (.seq (.reg [yS 0 86 .mov [oT 11], yS 1 87 (.bin .mul 0) [oT 86, oC (.int .u64 4294967296)], yS 2 88 .mov [oT 13], yS 3 89 (.bin .add 0) [oT 87, oT 88], yS 4 90 .mov [oT 15], yS 5 91 .mov [oT 2], yS 6 92 (.bin .mul 0) [oT 90, oT 91], yS 7 93 (.bin .sub 0) [oT 89, oT 92], yS 8 17 .mov [oT 93]]) (.seq (.reg [yS 0 94 .mov [oT 17], yS 1 95 .mov [oT 9], yS 2 96 (.bin .quo 0) [oT 94, oT 95], yS 3 18 .mov [oT 96]]) (.seq (.reg [yS 0 97 .mov [oT 17], yS 1 98 .mov [oT 18], yS 2 99 .mov [oT 9], yS 3 100 (.bin .mul 0) [oT 98, oT 99], yS 4 101 (.bin .sub 0) [oT 97, oT 100], yS 5 16 .mov [oT 101]]) (.join [18] 2658450920967430832890008133748195328 (.block 2 (.loop [16, 18] 2658450920967430832890008133748195328 (.seq (.seq (.reg [yS 0 102 .mov [oT 18], yS 1 103 (.bin .geq 0) [oT 102, oC (.int .u64 4294967296)], yS 2 104 .mov [oT 103], yG (some (104, false)) 3 (some 105) .mov [oT 18], yG (some (104, false)) 4 (some 106) .mov [oT 10], yG (some (104, false)) 5 (some 107) (.bin .mul 0) [oT 105, oT 106], yG (some (104, false)) 6 (some 108) .mov [oT 16], yG (some (104, false)) 7 (some 109) (.bin .mul 0) [oC (.int .u64 4294967296), oT 108], yG (some (104, false)) 8 (some 110) .mov [oT 14], yG (some (104, false)) 9 (some 111) (.bin .add 0) [oT 109, oT 110], yG (some (104, false)) 10 (some 112) (.bin .gtr 0) [oT 107, oT 111], yS 11 113 .pick [oT 104, oC (.bool true), oT 112]]) (.cond (oT 113) .skip (.exit 2))) (.block 3 (.seq (.reg [yS 0 114 .mov [oT 18], yS 1 115 (.bin .sub 0) [oT 114, oC (.int .u64 1)], yS 2 18 .mov [oT 115]]) (.seq (.reg [yS 0 116 .mov [oT 16], yS 1 117 .mov [oT 9], yS 2 118 (.bin .add 0) [oT 116, oT 117], yS 3 16 .mov [oT 118]]) (.seq (.reg [yS 0 119 .mov [oT 16], yS 1 120 (.bin .geq 0) [oT 119, oC (.int .u64 4294967296)]]) (.cond (oT 120) (.exit 2) .skip)))))))) (.seq (.reg [yS 0 121 .mov [oT 15], yS 1 122 (.bin .mul 0) [oT 121, oC (.int .u64 4294967296)], yS 2 123 .mov [oT 18], yS 3 124 (.bin .add 0) [oT 122, oT 123], yS 4 125 .mov [oT 17], yS 5 126 (.bin .mul 0) [oT 125, oC (.int .u64 4294967296)], yS 6 127 .mov [oT 14], yS 7 128 (.bin .add 0) [oT 126, oT 127], yS 8 129 .mov [oT 18], yS 9 130 .mov [oT 2], yS 10 131 (.bin .mul 0) [oT 129, oT 130], yS 11 132 (.bin .sub 0) [oT 128, oT 131], yS 12 133 .mov [oT 8], yS 13 134 (.bin .shr 0) [oT 132, oT 133], yS 14 6 .mov [oT 124], yS 15 7 .mov [oT 134]]) .ret))))))))))))))))))))
theorem xd188_ok : compF Try.prog 188 = some ⟨135, [(.tmp 6), (.tmp 7)], xd188.er⟩ := by kernel_rfl
def g188 (hi0 lo1 y2 : Value) (H : AH) (R : Value → AH → Prop) : Prop :=
 @joinV0 (fun J1 => @bindO (xbin .eql 0 y2 (.int .u64 0)) ⟨fun v20 =>
 @condK v20 ⟨fun q => if q = true then @bindO (xpure .bad []) ⟨fun v21 =>
 @bindO (xpure .bad [v21]) ⟨fun _v =>
 J1 H⟩⟩ else
 J1 H⟩⟩) ⟨fun H1 =>
 @joinV0 (fun J2 => @bindO (xbin .leq 0 y2 hi0) ⟨fun v24 =>
 @condK v24 ⟨fun q => if q = true then @bindO (xpure .bad []) ⟨fun v25 =>
 @bindO (xpure .bad [v25]) ⟨fun _v =>
 J2 H1⟩⟩ else
 J2 H1⟩⟩) ⟨fun H2 =>
 @bindO (xbin .eql 0 hi0 (.int .u64 0)) ⟨fun v27 =>
 @condK v27 ⟨fun q => if q = true then @bindO (xbin .quo 0 lo1 y2) ⟨fun v30 =>
 @bindO (xbin .rem 0 lo1 y2) ⟨fun v33 =>
 R (.tuple [v30, v33].toArray) H2⟩⟩ else
 @cG 192 [y2] H2 ⟨fun v35 H3 =>
 @bindO (xpure (.conv .u64) [v35]) ⟨fun v36 =>
 @bindO (xbin .shl 0 y2 v36) ⟨fun v39 =>
 @bindO (xbin .shr 0 v39 (.int .u64 32)) ⟨fun v41 =>
 @bindO (xbin .and 0 v39 (.int .u64 4294967295)) ⟨fun v43 =>
 @bindO (xbin .shl 0 hi0 v36) ⟨fun v46 =>
 @bindO (xbin .sub 0 (.int .u64 64) v36) ⟨fun v49 =>
 @bindO (xbin .shr 0 lo1 v49) ⟨fun v50 =>
 @bindO (xbin .or 0 v46 v50) ⟨fun v51 =>
 @bindO (xbin .shl 0 lo1 v36) ⟨fun v54 =>
 @bindO (xbin .shr 0 v54 (.int .u64 32)) ⟨fun v56 =>
 @bindO (xbin .and 0 v54 (.int .u64 4294967295)) ⟨fun v58 =>
 @bindO (xbin .quo 0 v51 v41) ⟨fun v61 =>
 @bindO (xbin .mul 0 v61 v41) ⟨fun v65 =>
 @bindO (xbin .sub 0 v51 v65) ⟨fun v66 =>
 @joinV1 (fun J3 => @loopV2 v61 v66 H3 ⟨fun q115 rhat16 H4 K4 =>
 @bindO (xbin .geq 0 q115 (.int .u64 4294967296)) ⟨fun v68 =>
 @guardJ (asNB v68) (fun J5 => J5 q115 H4) H4 ⟨fun v70 H5 =>
 @guardJ (asNB v68) (fun J6 => J6 v43 H5) H5 ⟨fun v71 H6 =>
 @guardJ (asNB v68) (fun J7 => @bindO (xbin .mul 0 v70 v71) ⟨fun v72 =>
 J7 v72 H6⟩) H6 ⟨fun v72a H7 =>
 @guardJ (asNB v68) (fun J8 => J8 rhat16 H7) H7 ⟨fun v73 H8 =>
 @guardJ (asNB v68) (fun J9 => @bindO (xbin .mul 0 (.int .u64 4294967296) v73) ⟨fun v74 =>
 J9 v74 H8⟩) H8 ⟨fun v74a H9 =>
 @guardJ (asNB v68) (fun J10 => J10 v56 H9) H9 ⟨fun v75 H10 =>
 @guardJ (asNB v68) (fun J11 => @bindO (xbin .add 0 v74a v75) ⟨fun v76 =>
 J11 v76 H10⟩) H10 ⟨fun v76a H11 =>
 @guardJ (asNB v68) (fun J12 => @bindO (xbin .gtr 0 v72a v76a) ⟨fun v77 =>
 J12 v77 H11⟩) H11 ⟨fun v77a H12 =>
 @pickK v68 (.bool true) v77a ⟨fun v78 =>
 @condK v78 ⟨fun q => if q = true then @bindO (xbin .sub 0 q115 (.int .u64 1)) ⟨fun v80 =>
 @bindO (xbin .add 0 rhat16 v41) ⟨fun v83 =>
 @bindO (xbin .geq 0 v83 (.int .u64 4294967296)) ⟨fun v85 =>
 @condK v85 ⟨fun q => if q = true then J3 v80 H12 else
 K4 v80 v83 H12⟩⟩⟩⟩ else
 J3 q115 H12⟩⟩⟩⟩⟩⟩⟩⟩⟩⟩⟩⟩) ⟨fun q115a H13 =>
 @bindO (xbin .mul 0 v51 (.int .u64 4294967296)) ⟨fun v87 =>
 @bindO (xbin .add 0 v87 v56) ⟨fun v89 =>
 @bindO (xbin .mul 0 q115a v39) ⟨fun v92 =>
 @bindO (xbin .sub 0 v89 v92) ⟨fun v93 =>
 @bindO (xbin .quo 0 v93 v41) ⟨fun v96 =>
 @bindO (xbin .mul 0 v96 v41) ⟨fun v100 =>
 @bindO (xbin .sub 0 v93 v100) ⟨fun v101 =>
 @joinV1 (fun J13 => @loopV2 v101 v96 H13 ⟨fun rhat16a q018 H14 K14 =>
 @bindO (xbin .geq 0 q018 (.int .u64 4294967296)) ⟨fun v103 =>
 @guardJ (asNB v103) (fun J15 => J15 q018 H14) H14 ⟨fun v105 H15 =>
 @guardJ (asNB v103) (fun J16 => J16 v43 H15) H15 ⟨fun v106 H16 =>
 @guardJ (asNB v103) (fun J17 => @bindO (xbin .mul 0 v105 v106) ⟨fun v107 =>
 J17 v107 H16⟩) H16 ⟨fun v107a H17 =>
 @guardJ (asNB v103) (fun J18 => J18 rhat16a H17) H17 ⟨fun v108 H18 =>
 @guardJ (asNB v103) (fun J19 => @bindO (xbin .mul 0 (.int .u64 4294967296) v108) ⟨fun v109 =>
 J19 v109 H18⟩) H18 ⟨fun v109a H19 =>
 @guardJ (asNB v103) (fun J20 => J20 v58 H19) H19 ⟨fun v110 H20 =>
 @guardJ (asNB v103) (fun J21 => @bindO (xbin .add 0 v109a v110) ⟨fun v111 =>
 J21 v111 H20⟩) H20 ⟨fun v111a H21 =>
 @guardJ (asNB v103) (fun J22 => @bindO (xbin .gtr 0 v107a v111a) ⟨fun v112 =>
 J22 v112 H21⟩) H21 ⟨fun v112a H22 =>
 @pickK v103 (.bool true) v112a ⟨fun v113 =>
 @condK v113 ⟨fun q => if q = true then @bindO (xbin .sub 0 q018 (.int .u64 1)) ⟨fun v115 =>
 @bindO (xbin .add 0 rhat16a v41) ⟨fun v118 =>
 @bindO (xbin .geq 0 v118 (.int .u64 4294967296)) ⟨fun v120 =>
 @condK v120 ⟨fun q => if q = true then J13 v115 H22 else
 K14 v118 v115 H22⟩⟩⟩⟩ else
 J13 q018 H22⟩⟩⟩⟩⟩⟩⟩⟩⟩⟩⟩⟩) ⟨fun q018a H23 =>
 @bindO (xbin .mul 0 q115a (.int .u64 4294967296)) ⟨fun v122 =>
 @bindO (xbin .add 0 v122 q018a) ⟨fun v124 =>
 @bindO (xbin .mul 0 v93 (.int .u64 4294967296)) ⟨fun v126 =>
 @bindO (xbin .add 0 v126 v58) ⟨fun v128 =>
 @bindO (xbin .mul 0 q018a v39) ⟨fun v131 =>
 @bindO (xbin .sub 0 v128 v131) ⟨fun v132 =>
 @bindO (xbin .shr 0 v132 v36) ⟨fun v134 =>
 R (.tuple [v124, v134].toArray) H23⟩⟩⟩⟩⟩⟩⟩⟩⟩⟩⟩⟩⟩⟩⟩⟩⟩⟩⟩⟩⟩⟩⟩⟩⟩⟩⟩⟩⟩⟩⟩⟩⟩⟩⟩
theorem g188_of {hi0 lo1 y2 : Value} {H : AH} {R : Value → AH → Prop} (h : g188 hi0 lo1 y2 H R) : FN Try.prog 188 [hi0, lo1, y2] H R :=
  FN.of_XD mixed xd188_ok (by kernel_rfl) (Nat.le_of_ble_eq_true rfl) (cast (by kernel_rfl) h)
end Go.Sim
