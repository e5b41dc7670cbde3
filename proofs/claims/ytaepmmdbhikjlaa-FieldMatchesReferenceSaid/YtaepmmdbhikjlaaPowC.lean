/- Part of the proof: PowC. -/
import Derived.Test.YtaepmmdbhikjlaaPowAToPowB
set_option maxRecDepth 100000
namespace Go.Sim
open Go Go.Proofs

def kFac0 : KTab := [([nv 1], .val (.slice none 0 0)), ([nv 2], .row 1 1 (.cells [nv 2] 3 (some 1) false)), ([nv 3], .row 1 1 (.cells [nv 3] 3 (some 1) false)), ([nv 4], .row 1 1 (.cells [nv 2] 3 (some 1) false)), ([nv 6], .row 2 2 (.cells [nv 2, nv 3] 3 (some 1) false)), ([nv 7], .row 1 1 (.cells [nv 7] 3 (some 1) false)), ([nv 8], .row 1 1 (.cells [nv 2] 3 (some 1) false)), ([nv 10], .row 2 2 (.cells [nv 2, nv 5] 3 (some 1) false)), ([nv 12], .row 2 2 (.cells [nv 2, nv 3] 3 (some 1) false)), ([nv 15], .row 2 2 (.cells [nv 3, nv 5] 3 (some 1) false)), ([nv 16], .row 1 1 (.cells [nv 2] 3 (some 1) false)), ([nv 18], .row 2 2 (.cells [nv 2, nv 3] 3 (some 1) false)), ([nv 22], .row 2 2 (.cells [nv 2, nv 11] 3 (some 1) false)), ([nv 24], .row 2 2 (.cells [nv 2, nv 3] 3 (some 1) false)), ([nv 26], .row 2 2 (.cells [nv 2, nv 13] 3 (some 1) false)), ([nv 28], .row 2 2 (.cells [nv 2, nv 7] 3 (some 1) false)), ([nv 30], .row 3 3 (.cells [nv 2, nv 3, nv 5] 3 (some 1) false)), ([nv 31], .row 1 1 (.cells [nv 31] 3 (some 1) false)), ([nv 36], .row 2 2 (.cells [nv 2, nv 3] 3 (some 1) false)), ([nv 40], .row 2 2 (.cells [nv 2, nv 5] 3 (some 1) false)), ([nv 42], .row 3 3 (.cells [nv 2, nv 3, nv 7] 3 (some 1) false)), ([nv 46], .row 2 2 (.cells [nv 2, nv 23] 3 (some 1) false)), ([nv 48], .row 2 2 (.cells [nv 2, nv 3] 3 (some 1) false)), ([nv 52], .row 2 2 (.cells [nv 2, nv 13] 3 (some 1) false)), ([nv 58], .row 2 2 (.cells [nv 2, nv 29] 3 (some 1) false)), ([nv 60], .row 3 3 (.cells [nv 2, nv 3, nv 5] 3 (some 1) false)), ([nv 63], .row 2 2 (.cells [nv 3, nv 7] 3 (some 1) false))]
theorem kFac0_run : kAll xfT (fun _ _ _ => none) 100 12 42 kFac0 = true := by kernel_rfl
theorem kFac0_ok : KTabOk Try.prog 42 kFac0 := KTabOk.of mixed xfT_ok noO kFac0_run
def kFac : KTab := kFac0
theorem kFac_ok : KTabOk Try.prog 42 kFac := kFac0_ok
theorem fp2 : FP 2 1 [0] 1 [1] [] := { toFT := ft2, fac := ⟨by decide, by decide, .inr ⟨rfl, kFac0_ok _ (List.mem_of_getElem? (i := 0) rfl)⟩⟩, od := by kernel_rfl }
theorem fp3 : FP 3 1 [0] 2 [1, 2] [2] := { toFT := ft3, fac := ⟨by decide, by decide, .inl (kFac0_ok _ (List.mem_of_getElem? (i := 1) rfl))⟩, od := by kernel_rfl }
theorem fp4 : FP 2 2 [1, 1] 2 [1, 2, 3] [3] := { toFT := ft4, fac := ⟨by decide, by decide, .inl (kFac0_ok _ (List.mem_of_getElem? (i := 2) rfl))⟩, od := by kernel_rfl }
theorem fp5 : FP 5 1 [0] 2 [1, 2, 4, 3] [2] := { toFT := ft5, fac := ⟨by decide, by decide, .inl (kFac0_ok _ (List.mem_of_getElem? (i := 3) rfl))⟩, od := by kernel_rfl }
theorem fp7 : FP 7 1 [0] 3 [1, 3, 2, 6, 4, 5] [2, 3] := { toFT := ft7, fac := ⟨by decide, by decide, .inl (kFac0_ok _ (List.mem_of_getElem? (i := 4) rfl))⟩, od := by kernel_rfl }
theorem fp8 : FP 2 3 [1, 1, 0] 2 [1, 2, 4, 3, 6, 7, 5] [7] := { toFT := ft8, fac := ⟨by decide, by decide, .inl (kFac0_ok _ (List.mem_of_getElem? (i := 5) rfl))⟩, od := by kernel_rfl }
theorem fp9 : FP 3 2 [1, 0] 4 [1, 4, 6, 7, 2, 8, 3, 5] [2] := { toFT := ft9, fac := ⟨by decide, by decide, .inl (kFac0_ok _ (List.mem_of_getElem? (i := 6) rfl))⟩, od := by kernel_rfl }
theorem fp11 : FP 11 1 [0] 2 [1, 2, 4, 8, 5, 10, 9, 7, 3, 6] [2, 5] := { toFT := ft11, fac := ⟨by decide, by decide, .inl (kFac0_ok _ (List.mem_of_getElem? (i := 7) rfl))⟩, od := by kernel_rfl }
theorem fp13 : FP 13 1 [0] 2 [1, 2, 4, 8, 3, 6, 12, 11, 9, 5, 10, 7] [2, 3] := { toFT := ft13, fac := ⟨by decide, by decide, .inl (kFac0_ok _ (List.mem_of_getElem? (i := 8) rfl))⟩, od := by kernel_rfl }
theorem fp16 : FP 2 4 [1, 1, 0, 0] 2 [1, 2, 4, 8, 3, 6, 12, 11, 5, 10, 7, 14, 15, 13, 9] [3, 5] := { toFT := ft16, fac := ⟨by decide, by decide, .inl (kFac0_ok _ (List.mem_of_getElem? (i := 9) rfl))⟩, od := by kernel_rfl }
theorem fp17 : FP 17 1 [0] 3 [1, 3, 9, 10, 13, 5, 15, 11, 16, 14, 8, 7, 4, 12, 2, 6] [2] := { toFT := ft17, fac := ⟨by decide, by decide, .inl (kFac0_ok _ (List.mem_of_getElem? (i := 10) rfl))⟩, od := by kernel_rfl }
theorem fp19 : FP 19 1 [0] 2 [1, 2, 4, 8, 16, 13, 7, 14, 9, 18, 17, 15, 11, 3, 6, 12, 5, 10] [2, 3] := { toFT := ft19, fac := ⟨by decide, by decide, .inl (kFac0_ok _ (List.mem_of_getElem? (i := 11) rfl))⟩, od := by kernel_rfl }
theorem fp23 : FP 23 1 [0] 5 [1, 5, 2, 10, 4, 20, 8, 17, 16, 11, 9, 22, 18, 21, 13, 19, 3, 15, 6, 7, 12, 14] [2, 11] := { toFT := ft23, fac := ⟨by decide, by decide, .inl (kFac0_ok _ (List.mem_of_getElem? (i := 12) rfl))⟩, od := by kernel_rfl }
theorem fp25 : FP 5 2 [2, 0] 6 [1, 6, 14, 5, 8, 21, 3, 18, 7, 15, 19, 13, 4, 24, 16, 20, 22, 9, 2, 12, 23, 10, 11, 17] [2, 3] := { toFT := ft25, fac := ⟨by decide, by decide, .inl (kFac0_ok _ (List.mem_of_getElem? (i := 13) rfl))⟩, od := by kernel_rfl }
theorem fp27 : FP 3 3 [1, 2, 0] 3 [1, 3, 9, 5, 15, 23, 13, 17, 20, 4, 12, 14, 11, 2, 6, 18, 7, 21, 16, 26, 22, 10, 8, 24, 25, 19] [2, 13] := { toFT := ft27, fac := ⟨by decide, by decide, .inl (kFac0_ok _ (List.mem_of_getElem? (i := 14) rfl))⟩, od := by kernel_rfl }
theorem fp29 : FP 29 1 [0] 2 [1, 2, 4, 8, 16, 3, 6, 12, 24, 19, 9, 18, 7, 14, 28, 27, 25, 21, 13, 26, 23, 17, 5, 10, 20, 11, 22, 15] [2, 7] := { toFT := ft29, fac := ⟨by decide, by decide, .inl (kFac0_ok _ (List.mem_of_getElem? (i := 15) rfl))⟩, od := by kernel_rfl }
theorem fp31 : FP 31 1 [0] 3 [1, 3, 9, 27, 19, 26, 16, 17, 20, 29, 25, 13, 8, 24, 10, 30, 28, 22, 4, 12, 5, 15, 14, 11, 2, 6, 18, 23, 7, 21] [2, 3, 5] := { toFT := ft31, fac := ⟨by decide, by decide, .inl (kFac0_ok _ (List.mem_of_getElem? (i := 16) rfl))⟩, od := by kernel_rfl }
theorem fp32 : FP 2 5 [1, 0, 1, 0, 0] 2 [1, 2, 4, 8, 16, 5, 10, 20, 13, 26, 17, 7, 14, 28, 29, 31, 27, 19, 3, 6, 12, 24, 21, 15, 30, 25, 23, 11, 22, 9, 18] [31] := { toFT := ft32, fac := ⟨by decide, by decide, .inl (kFac0_ok _ (List.mem_of_getElem? (i := 17) rfl))⟩, od := by kernel_rfl }
theorem fp37 : FP 37 1 [0] 2 [1, 2, 4, 8, 16, 32, 27, 17, 34, 31, 25, 13, 26, 15, 30, 23, 9, 18, 36, 35, 33, 29, 21, 5, 10, 20, 3, 6, 12, 24, 11, 22, 7, 14, 28, 19] [2, 3] := { toFT := ft37, fac := ⟨by decide, by decide, .inl (kFac0_ok _ (List.mem_of_getElem? (i := 18) rfl))⟩, od := by kernel_rfl }
theorem fp41 : FP 41 1 [0] 6 [1, 6, 36, 11, 25, 27, 39, 29, 10, 19, 32, 28, 4, 24, 21, 3, 18, 26, 33, 34, 40, 35, 5, 30, 16, 14, 2, 12, 31, 22, 9, 13, 37, 17, 20, 38, 23, 15, 8, 7] [2, 5] := { toFT := ft41, fac := ⟨by decide, by decide, .inl (kFac0_ok _ (List.mem_of_getElem? (i := 19) rfl))⟩, od := by kernel_rfl }
theorem fp43 : FP 43 1 [0] 3 [1, 3, 9, 27, 38, 28, 41, 37, 25, 32, 10, 30, 4, 12, 36, 22, 23, 26, 35, 19, 14, 42, 40, 34, 16, 5, 15, 2, 6, 18, 11, 33, 13, 39, 31, 7, 21, 20, 17, 8, 24, 29] [2, 3, 7] := { toFT := ft43, fac := ⟨by decide, by decide, .inl (kFac0_ok _ (List.mem_of_getElem? (i := 20) rfl))⟩, od := by kernel_rfl }
theorem fp47 : FP 47 1 [0] 5 [1, 5, 25, 31, 14, 23, 21, 11, 8, 40, 12, 13, 18, 43, 27, 41, 17, 38, 2, 10, 3, 15, 28, 46, 42, 22, 16, 33, 24, 26, 36, 39, 7, 35, 34, 29, 4, 20, 6, 30, 9, 45, 37, 44, 32, 19] [2, 23] := { toFT := ft47, fac := ⟨by decide, by decide, .inl (kFac0_ok _ (List.mem_of_getElem? (i := 21) rfl))⟩, od := by kernel_rfl }
theorem fp49 : FP 7 2 [1, 0] 9 [1, 9, 31, 30, 21, 46, 16, 44, 5, 38, 43, 45, 7, 20, 24, 17, 4, 29, 19, 15, 35, 23, 8, 22, 6, 47, 25, 26, 28, 10, 40, 12, 2, 18, 13, 11, 42, 36, 32, 39, 3, 27, 37, 41, 14, 33, 48, 34] [2, 3] := { toFT := ft49, fac := ⟨by decide, by decide, .inl (kFac0_ok _ (List.mem_of_getElem? (i := 22) rfl))⟩, od := by kernel_rfl }
theorem fp53 : FP 53 1 [0] 2 [1, 2, 4, 8, 16, 32, 11, 22, 44, 35, 17, 34, 15, 30, 7, 14, 28, 3, 6, 12, 24, 48, 43, 33, 13, 26, 52, 51, 49, 45, 37, 21, 42, 31, 9, 18, 36, 19, 38, 23, 46, 39, 25, 50, 47, 41, 29, 5, 10, 20, 40, 27] [2, 13] := { toFT := ft53, fac := ⟨by decide, by decide, .inl (kFac0_ok _ (List.mem_of_getElem? (i := 23) rfl))⟩, od := by kernel_rfl }
theorem fp59 : FP 59 1 [0] 2 [1, 2, 4, 8, 16, 32, 5, 10, 20, 40, 21, 42, 25, 50, 41, 23, 46, 33, 7, 14, 28, 56, 53, 47, 35, 11, 22, 44, 29, 58, 57, 55, 51, 43, 27, 54, 49, 39, 19, 38, 17, 34, 9, 18, 36, 13, 26, 52, 45, 31, 3, 6, 12, 24, 48, 37, 15, 30] [2, 29] := { toFT := ft59, fac := ⟨by decide, by decide, .inl (kFac0_ok _ (List.mem_of_getElem? (i := 24) rfl))⟩, od := by kernel_rfl }
theorem fp61 : FP 61 1 [0] 2 [1, 2, 4, 8, 16, 32, 3, 6, 12, 24, 48, 35, 9, 18, 36, 11, 22, 44, 27, 54, 47, 33, 5, 10, 20, 40, 19, 38, 15, 30, 60, 59, 57, 53, 45, 29, 58, 55, 49, 37, 13, 26, 52, 43, 25, 50, 39, 17, 34, 7, 14, 28, 56, 51, 41, 21, 42, 23, 46, 31] [2, 3, 5] := { toFT := ft61, fac := ⟨by decide, by decide, .inl (kFac0_ok _ (List.mem_of_getElem? (i := 25) rfl))⟩, od := by kernel_rfl }
theorem fp64 : FP 2 6 [1, 1, 0, 0, 0, 0] 2 [1, 2, 4, 8, 16, 32, 3, 6, 12, 24, 48, 35, 5, 10, 20, 40, 19, 38, 15, 30, 60, 59, 53, 41, 17, 34, 7, 14, 28, 56, 51, 37, 9, 18, 36, 11, 22, 44, 27, 54, 47, 29, 58, 55, 45, 25, 50, 39, 13, 26, 52, 43, 21, 42, 23, 46, 31, 62, 63, 61, 57, 49, 33] [3, 7] := { toFT := ft64, fac := ⟨by decide, by decide, .inl (kFac0_ok _ (List.mem_of_getElem? (i := 26) rfl))⟩, od := by kernel_rfl }
theorem fp_at : ∀ j, j < 27 → ∃ p e m g E fs, fdT.getD j (2, 1, [0]) = (p, e, m) ∧ FP p e m g E fs
  | 0, _ => ⟨2, 1, [0], 1, [1], [], rfl, fp2⟩
  | 1, _ => ⟨3, 1, [0], 2, [1, 2], [2], rfl, fp3⟩
  | 2, _ => ⟨2, 2, [1, 1], 2, [1, 2, 3], [3], rfl, fp4⟩
  | 3, _ => ⟨5, 1, [0], 2, [1, 2, 4, 3], [2], rfl, fp5⟩
  | 4, _ => ⟨7, 1, [0], 3, [1, 3, 2, 6, 4, 5], [2, 3], rfl, fp7⟩
  | 5, _ => ⟨2, 3, [1, 1, 0], 2, [1, 2, 4, 3, 6, 7, 5], [7], rfl, fp8⟩
  | 6, _ => ⟨3, 2, [1, 0], 4, [1, 4, 6, 7, 2, 8, 3, 5], [2], rfl, fp9⟩
  | 7, _ => ⟨11, 1, [0], 2, [1, 2, 4, 8, 5, 10, 9, 7, 3, 6], [2, 5], rfl, fp11⟩
  | 8, _ => ⟨13, 1, [0], 2, [1, 2, 4, 8, 3, 6, 12, 11, 9, 5, 10, 7], [2, 3], rfl, fp13⟩
  | 9, _ => ⟨2, 4, [1, 1, 0, 0], 2, [1, 2, 4, 8, 3, 6, 12, 11, 5, 10, 7, 14, 15, 13, 9], [3, 5], rfl, fp16⟩
  | 10, _ => ⟨17, 1, [0], 3, [1, 3, 9, 10, 13, 5, 15, 11, 16, 14, 8, 7, 4, 12, 2, 6], [2], rfl, fp17⟩
  | 11, _ => ⟨19, 1, [0], 2, [1, 2, 4, 8, 16, 13, 7, 14, 9, 18, 17, 15, 11, 3, 6, 12, 5, 10], [2, 3], rfl, fp19⟩
  | 12, _ => ⟨23, 1, [0], 5, [1, 5, 2, 10, 4, 20, 8, 17, 16, 11, 9, 22, 18, 21, 13, 19, 3, 15, 6, 7, 12, 14], [2, 11], rfl, fp23⟩
  | 13, _ => ⟨5, 2, [2, 0], 6, [1, 6, 14, 5, 8, 21, 3, 18, 7, 15, 19, 13, 4, 24, 16, 20, 22, 9, 2, 12, 23, 10, 11, 17], [2, 3], rfl, fp25⟩
  | 14, _ => ⟨3, 3, [1, 2, 0], 3, [1, 3, 9, 5, 15, 23, 13, 17, 20, 4, 12, 14, 11, 2, 6, 18, 7, 21, 16, 26, 22, 10, 8, 24, 25, 19], [2, 13], rfl, fp27⟩
  | 15, _ => ⟨29, 1, [0], 2, [1, 2, 4, 8, 16, 3, 6, 12, 24, 19, 9, 18, 7, 14, 28, 27, 25, 21, 13, 26, 23, 17, 5, 10, 20, 11, 22, 15], [2, 7], rfl, fp29⟩
  | 16, _ => ⟨31, 1, [0], 3, [1, 3, 9, 27, 19, 26, 16, 17, 20, 29, 25, 13, 8, 24, 10, 30, 28, 22, 4, 12, 5, 15, 14, 11, 2, 6, 18, 23, 7, 21], [2, 3, 5], rfl, fp31⟩
  | 17, _ => ⟨2, 5, [1, 0, 1, 0, 0], 2, [1, 2, 4, 8, 16, 5, 10, 20, 13, 26, 17, 7, 14, 28, 29, 31, 27, 19, 3, 6, 12, 24, 21, 15, 30, 25, 23, 11, 22, 9, 18], [31], rfl, fp32⟩
  | 18, _ => ⟨37, 1, [0], 2, [1, 2, 4, 8, 16, 32, 27, 17, 34, 31, 25, 13, 26, 15, 30, 23, 9, 18, 36, 35, 33, 29, 21, 5, 10, 20, 3, 6, 12, 24, 11, 22, 7, 14, 28, 19], [2, 3], rfl, fp37⟩
  | 19, _ => ⟨41, 1, [0], 6, [1, 6, 36, 11, 25, 27, 39, 29, 10, 19, 32, 28, 4, 24, 21, 3, 18, 26, 33, 34, 40, 35, 5, 30, 16, 14, 2, 12, 31, 22, 9, 13, 37, 17, 20, 38, 23, 15, 8, 7], [2, 5], rfl, fp41⟩
  | 20, _ => ⟨43, 1, [0], 3, [1, 3, 9, 27, 38, 28, 41, 37, 25, 32, 10, 30, 4, 12, 36, 22, 23, 26, 35, 19, 14, 42, 40, 34, 16, 5, 15, 2, 6, 18, 11, 33, 13, 39, 31, 7, 21, 20, 17, 8, 24, 29], [2, 3, 7], rfl, fp43⟩
  | 21, _ => ⟨47, 1, [0], 5, [1, 5, 25, 31, 14, 23, 21, 11, 8, 40, 12, 13, 18, 43, 27, 41, 17, 38, 2, 10, 3, 15, 28, 46, 42, 22, 16, 33, 24, 26, 36, 39, 7, 35, 34, 29, 4, 20, 6, 30, 9, 45, 37, 44, 32, 19], [2, 23], rfl, fp47⟩
  | 22, _ => ⟨7, 2, [1, 0], 9, [1, 9, 31, 30, 21, 46, 16, 44, 5, 38, 43, 45, 7, 20, 24, 17, 4, 29, 19, 15, 35, 23, 8, 22, 6, 47, 25, 26, 28, 10, 40, 12, 2, 18, 13, 11, 42, 36, 32, 39, 3, 27, 37, 41, 14, 33, 48, 34], [2, 3], rfl, fp49⟩
  | 23, _ => ⟨53, 1, [0], 2, [1, 2, 4, 8, 16, 32, 11, 22, 44, 35, 17, 34, 15, 30, 7, 14, 28, 3, 6, 12, 24, 48, 43, 33, 13, 26, 52, 51, 49, 45, 37, 21, 42, 31, 9, 18, 36, 19, 38, 23, 46, 39, 25, 50, 47, 41, 29, 5, 10, 20, 40, 27], [2, 13], rfl, fp53⟩
  | 24, _ => ⟨59, 1, [0], 2, [1, 2, 4, 8, 16, 32, 5, 10, 20, 40, 21, 42, 25, 50, 41, 23, 46, 33, 7, 14, 28, 56, 53, 47, 35, 11, 22, 44, 29, 58, 57, 55, 51, 43, 27, 54, 49, 39, 19, 38, 17, 34, 9, 18, 36, 13, 26, 52, 45, 31, 3, 6, 12, 24, 48, 37, 15, 30], [2, 29], rfl, fp59⟩
  | 25, _ => ⟨61, 1, [0], 2, [1, 2, 4, 8, 16, 32, 3, 6, 12, 24, 48, 35, 9, 18, 36, 11, 22, 44, 27, 54, 47, 33, 5, 10, 20, 40, 19, 38, 15, 30, 60, 59, 57, 53, 45, 29, 58, 55, 49, 37, 13, 26, 52, 43, 25, 50, 39, 17, 34, 7, 14, 28, 56, 51, 41, 21, 42, 23, 46, 31], [2, 3, 5], rfl, fp61⟩
  | 26, _ => ⟨2, 6, [1, 1, 0, 0, 0, 0], 2, [1, 2, 4, 8, 16, 32, 3, 6, 12, 24, 48, 35, 5, 10, 20, 40, 19, 38, 15, 30, 60, 59, 53, 41, 17, 34, 7, 14, 28, 56, 51, 37, 9, 18, 36, 11, 22, 44, 27, 54, 47, 29, 58, 55, 45, 25, 50, 39, 13, 26, 52, 43, 21, 42, 23, 46, 31, 62, 63, 61, 57, 49, 33], [3, 7], rfl, fp64⟩
  | n + 27, h => absurd h (by omega)
end Go.Sim
