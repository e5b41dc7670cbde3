/- Part of the proof: RtA, RtI. -/
import Derived.Test.YtgcoidbhikfdkaaTSimWToShS
import Derived.Test.YtgcoidbhikfdkaaTRtG1
import Derived.Test.YtgcoidbhikfdkaaTSimX
set_option linter.all false
namespace Go.Sim
open Go Go.Proofs
abbrev uw (n : Nat) : Value := .int .u64 (n : Int)
abbrev zv (z : Int) : Value := .int .i64 z
theorem stB2 {H : AH} {x y c0 c1 : Value} {e : TypeId} {op : Option Nat} {bl : Nat} (h1 : one x = true) (h2 : one y = true) : stB 2 H (some (.cells [c0, c1] e op false)) bl 0 (.agg #[x, y]) = some (undef, H.set bl (.cells [x, y] e op false)) :=
  stB_all (c' := [x, y]) rfl rfl (by simp [h1, h2])
theorem Pre.ext' {H H' : AH} (h : Pre H H') : ∃ J, H' = H ++ J := by
  refine ⟨H'.drop H.length, ?_⟩
  refine List.ext_getElem? fun k => ?_
  by_cases hk : k < H.length
  · rw [List.getElem?_append_left hk, h k hk]
  · rw [List.getElem?_append_right (by omega), List.getElem?_drop]
    congr 1; omega
theorem FN.pre0' {P : Program} {f : FuncId} {args : List Value} {H : AH} {v : Value} (h : FN P f args H (fun r H' => Pre H H' ∧ r = v)) (hg : Sim.ground v = true) : FN P f args H (fun r H' => r = v ∧ H' = H) :=
  FN.gc0 (h.mono fun r H' ⟨hp, hr⟩ => ⟨hr, by rw [hr]; exact hg, hp.ext'⟩)
theorem wrapU (z : Int) : IntKind.u64.wrap z = z % 18446744073709551616 := by
  simp [IntKind.wrap, IntKind.signed, IntKind.bits]
theorem wrapI {z : Int} (h1 : -9223372036854775808 ≤ z) (h2 : z < 9223372036854775808) : IntKind.i64.wrap z = z := wrap64 (by omega) (by omega)
theorem u_add {a b m : Nat} : xbin .add m (uw a) (uw b) = some (uw ((a + b) % 18446744073709551616)) := by
  simp only [xbin, if_true, wrapU]
  congr 2
theorem u_mul {a b m : Nat} : xbin .mul m (uw a) (uw b) = some (uw (a * b % 18446744073709551616)) := by
  simp only [xbin, if_true, wrapU]
  congr 2
theorem u_and32 {a m : Nat} (ha : a < 18446744073709551616) : xbin .and m (uw a) (.int .u64 4294967295) = some (uw (a % 4294967296)) := by
  have e : xbin .and m (uw a) (.int .u64 4294967295) = some (.int .u64 (IntKind.u64.wrap ((BitVec.ofInt 64 (a : Int) &&& BitVec.ofInt 64 4294967295).toNat : Nat))) := rfl
  have h : (BitVec.ofInt 64 (a : Int) &&& BitVec.ofInt 64 4294967295).toNat = a % 4294967296 := by
    rw [BitVec.toNat_and]
    have h1 : (BitVec.ofInt 64 (a : Int)).toNat = a := by simp [BitVec.toNat_ofInt]; omega
    have h2 : (BitVec.ofInt 64 4294967295).toNat = 2 ^ 32 - 1 := by decide
    rw [h1, h2, Nat.and_two_pow_sub_one_eq_mod]
  rw [e, h, wrapU]
  congr 2; omega
theorem u_shr32 {a m : Nat} : xbin .shr m (uw a) (.int .u64 32) = some (uw (a / 4294967296)) := by
  simp only [xbin]
  rw [if_pos (by decide)]
  have e : (2 : Int) ^ (min (Int.toNat 32) IntKind.u64.bits) = 4294967296 := rfl
  rw [e, Int.fdiv_eq_ediv_of_nonneg _ (by omega)]
  rfl
theorem u_gtr {a b m : Nat} : xbin .gtr m (uw a) (uw b) = some (.bool (decide (b < a))) := by
  simp only [xbin, if_true]; congr 2; simp
theorem mul_split (x1 x0 y1 y0 B : Nat) : (x1 * B + x0) * (y1 * B + y0) = x1 * y1 * (B * B) + (x1 * y0 + x0 * y1) * B + x0 * y0 := by
  rw [Nat.add_mul, Nat.mul_add, Nat.mul_add, Nat.mul_mul_mul_comm, Nat.add_mul (x1 * y0), Nat.mul_right_comm x1 B y0, ← Nat.mul_assoc x0 y1 B]
  omega
theorem hi_eq {n S Q T P : Nat} (h : n = S * 18446744073709551616 + (Q + T) * 4294967296 + P) : S + (Q + P / 4294967296) / 4294967296 + ((Q + P / 4294967296) % 4294967296 + T) / 4294967296 = n / 18446744073709551616 := by
  have e1 : n / 4294967296 = S * 4294967296 + (Q + T) + P / 4294967296 := by omega
  have e2 : n / 18446744073709551616 = n / 4294967296 / 4294967296 := by rw [Nat.div_div_eq_div_mul]
  rw [e2, e1]
  generalize P / 4294967296 = p
  omega
section
variable {H : AH}
theorem abs_c {z : Int} (h1 : -9223372036854775808 ≤ z) (h2 : z < 9223372036854775808) : FN Try.prog 161 [zv z] H (fun r H' => r = uw z.natAbs ∧ H' = H) := by
  refine g161_of ?_
  unfold g161
  have e1 : xbin .lss 0 (zv z) (nv 0) = some (.bool (decide (z < 0))) := by simp [xbin]
  have e2 : xpure (.conv .u64) [zv z] = some (.int .u64 (IntKind.u64.wrap z)) := rfl
  have e3 : eun .neg (.int .u64 (IntKind.u64.wrap z)) = some (.int .u64 (IntKind.u64.wrap (0 - (IntKind.u64.wrap z)))) := rfl
  by_cases h : z < 0
  · have : IntKind.u64.wrap (0 - (IntKind.u64.wrap z)) = (z.natAbs : Int) := by rw [wrapU, wrapU]; omega
    rw [this] at e3
    simp (disch := (first | omega | (simp only [stLen] <;> omega) | (simp only [all_nv]; done) | rfl)) only [zA, zB, zC, zD, zF, zG, zH, Nat.reduceEqDiff, Nat.reduceLT, Nat.reduceLeDiff, ↓reduceIte, e1, h, e2, e3]
  · have : IntKind.u64.wrap z = (z.natAbs : Int) := by rw [wrapU]; omega
    rw [this] at e2
    simp (disch := (first | omega | (simp only [stLen] <;> omega) | (simp only [all_nv]; done) | rfl)) only [zA, zB, zC, zD, zF, zG, zH, Nat.reduceEqDiff, Nat.reduceLT, Nat.reduceLeDiff, ↓reduceIte, e1, h, e2]
theorem mul64_c {x y : Nat} (hx : x < 18446744073709551616) (hy : y < 18446744073709551616) : FN Try.prog 157 [uw x, uw y] H (fun r H' => r = .tuple [uw (x * y / 18446744073709551616), uw (x * y % 18446744073709551616)].toArray ∧ H' = H) := by
  refine g157_of ?_
  unfold g157
  have a1 := u_and32 (m := 0) hx
  have a2 := u_shr32 (a := x) (m := 0)
  have a3 := u_and32 (m := 0) hy
  have a4 := u_shr32 (a := y) (m := 0)
  have hx0 : x % 4294967296 < 4294967296 := Nat.mod_lt _ (by omega)
  have hx1 : x / 4294967296 < 4294967296 := by omega
  have hy0 : y % 4294967296 < 4294967296 := Nat.mod_lt _ (by omega)
  have hy1 : y / 4294967296 < 4294967296 := by omega
  have hxe : x = x / 4294967296 * 4294967296 + x % 4294967296 := by omega
  have hye : y = y / 4294967296 * 4294967296 + y % 4294967296 := by omega
  generalize x % 4294967296 = x0 at *
  generalize x / 4294967296 = x1 at *
  generalize y % 4294967296 = y0 at *
  generalize y / 4294967296 = y1 at *
  have hp : x0 * y0 ≤ 4294967295 * 4294967295 := Nat.mul_le_mul (by omega) (by omega)
  have hq : x1 * y0 ≤ 4294967295 * 4294967295 := Nat.mul_le_mul (by omega) (by omega)
  have hr : x0 * y1 ≤ 4294967295 * 4294967295 := Nat.mul_le_mul (by omega) (by omega)
  have hs : x1 * y1 ≤ 4294967295 * 4294967295 := Nat.mul_le_mul (by omega) (by omega)
  have hxy : x * y = x1 * y1 * 18446744073709551616 + (x1 * y0 + x0 * y1) * 4294967296 + x0 * y0 := by
    rw [hxe, hye, mul_split]
  have b1 := u_mul (a := x0) (b := y0) (m := 0)
  have b2 := u_mul (a := x1) (b := y0) (m := 0)
  have b3 := u_mul (a := x0) (b := y1) (m := 0)
  have b4 := u_mul (a := x1) (b := y1) (m := 0)
  have b5 := u_mul (a := x) (b := y) (m := 0)
  generalize x0 * y0 = P at *
  generalize x1 * y0 = Q at *
  generalize x0 * y1 = T at *
  generalize x1 * y1 = S at *
  rw [Nat.mod_eq_of_lt (b := 18446744073709551616) (by omega)] at b1
  rw [Nat.mod_eq_of_lt (b := 18446744073709551616) (by omega)] at b2
  rw [Nat.mod_eq_of_lt (b := 18446744073709551616) (by omega)] at b3
  rw [Nat.mod_eq_of_lt (b := 18446744073709551616) (by omega)] at b4
  have c1 := u_shr32 (a := P) (m := 0)
  have c2 := u_add (a := Q) (b := P / 4294967296) (m := 0)
  rw [Nat.mod_eq_of_lt (b := 18446744073709551616) (by omega)] at c2
  have c3 := u_and32 (a := Q + P / 4294967296) (m := 0) (by omega)
  have c4 := u_shr32 (a := Q + P / 4294967296) (m := 0)
  have c5 := u_add (a := (Q + P / 4294967296) % 4294967296) (b := T) (m := 0)
  rw [Nat.mod_eq_of_lt (b := 18446744073709551616) (by omega)] at c5
  have c6 := u_add (a := S) (b := (Q + P / 4294967296) / 4294967296) (m := 0)
  rw [Nat.mod_eq_of_lt (b := 18446744073709551616) (by omega)] at c6
  have c7 := u_shr32 (a := (Q + P / 4294967296) % 4294967296 + T) (m := 0)
  have c8 := u_add (a := S + (Q + P / 4294967296) / 4294967296) (b := ((Q + P / 4294967296) % 4294967296 + T) / 4294967296) (m := 0)
  rw [Nat.mod_eq_of_lt (b := 18446744073709551616) (by omega)] at c8
  have hhi : S + (Q + P / 4294967296) / 4294967296 + ((Q + P / 4294967296) % 4294967296 + T) / 4294967296 = x * y / 18446744073709551616 := hi_eq hxy
  rw [hhi] at c8
  generalize (Q + P / 4294967296) % 4294967296 = W1 at *
  simp (disch := (first | omega | (simp only [stLen] <;> omega) | (simp only [all_nv]; done) | rfl)) only [zA, zB, zC, zD, zF, zG, zH, Nat.reduceEqDiff, Nat.reduceLT, Nat.reduceLeDiff, ↓reduceIte, a1, a2, a3, a4, b1, b2, b3, b4, b5, c1, c2, c3, c4, c5, c6, c7, c8]
end
end Go.Sim

namespace Go.Sim
open Go Go.Proofs
theorem c_u64 {d : Nat} (h : d < 9223372036854775808) : xpure (.conv .u64) [zv d] = some (uw d) := by
  have : xpure (.conv .u64) [zv d] = some (.int .u64 (IntKind.u64.wrap (d : Int))) := rfl
  rw [this, wrapU]; congr 2; omega
section
variable {H : AH} {n1 n2 : Int} {d1 d2 : Nat}
end
end Go.Sim
