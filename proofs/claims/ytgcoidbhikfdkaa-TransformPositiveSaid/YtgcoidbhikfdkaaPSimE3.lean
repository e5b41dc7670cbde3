/- Part of the proof: SimE3. -/
import Derived.Test.YtgcoidbhikfdkaaPSimF2
import Derived.Laws.Externs
import Derived.KernelRfl
set_option linter.all false
namespace Go.Sim
open Go
def sub64Entry : Array Value → Sem Value := fun args => do
  let (x, y, b) ← Extern.MathBitsCarry.three "Sub64" args
  pure (Extern.MathBitsCarry.pair ((x + Extern.MathBitsCarry.m64 - y - b) % Extern.MathBitsCarry.m64) (if x < y + b then 1 else 0))
theorem find_add64 {fn : Func} (h : fn.name = "math/bits.Add64") : Extern.find fn = some add64Entry := by
  have h1 : Extern.allGenericRows.lookup "math/bits.Add64" = none := by kernel_rfl
  have h2 : Extern.allTypedRows.lookup "math/bits.Add64" = none := by kernel_rfl
  have h3 : Extern.allRows.lookup "math/bits.Add64" = some add64Entry := by kernel_rfl
  unfold Extern.find
  simp [h, h1, h2, h3]
theorem find_sub64 {fn : Func} (h : fn.name = "math/bits.Sub64") : Extern.find fn = some sub64Entry := by
  have h1 : Extern.allGenericRows.lookup "math/bits.Sub64" = none := by kernel_rfl
  have h2 : Extern.allTypedRows.lookup "math/bits.Sub64" = none := by kernel_rfl
  have h3 : Extern.allRows.lookup "math/bits.Sub64" = some sub64Entry := by kernel_rfl
  unfold Extern.find
  simp [h, h1, h2, h3]
theorem run_sub64 {P : Program} (x y c : Int) (hx : 0 ≤ x) (hy : 0 ≤ y) (hy2 : y < 18446744073709551616) (hc0 : 0 ≤ c) (hc : c ≤ 1) (w : World) :
    (sub64Entry #[.int .u64 x, .int .u64 y, .int .u64 c]).run P w = .ok (.tuple #[.int .u64 ((x + 18446744073709551616 - y - c) % 18446744073709551616), .int .u64 (if x < y + c then 1 else 0)]) w := by
  have key : ∀ k : Nat, k ≤ 1 → (sub64Entry #[.int .u64 x, .int .u64 y, .int .u64 (k : Int)]).run P w =
      .ok (Extern.MathBitsCarry.pair ((x.toNat + Extern.MathBitsCarry.m64 - y.toNat - k) % Extern.MathBitsCarry.m64) (if x.toNat < y.toNat + k then 1 else 0)) w := by
    intro k hk
    have : k = 0 ∨ k = 1 := by omega
    rcases this with rfl | rfl <;> rfl
  obtain ⟨k, rfl⟩ := Int.eq_ofNat_of_zero_le hc0
  rw [key k (by omega)]
  obtain ⟨X, rfl⟩ := Int.eq_ofNat_of_zero_le hx
  obtain ⟨Y, rfl⟩ := Int.eq_ofNat_of_zero_le hy
  have h1 : X + 18446744073709551616 - Y - k = X + 18446744073709551616 - (Y + k) := by omega
  simp only [Extern.MathBitsCarry.pair, Extern.MathBitsCarry.m64, Int.toNat_natCast]
  have e1 : Int.ofNat ((X + 2 ^ 64 - Y - k) % 2 ^ 64) = ((X : Int) + 18446744073709551616 - Y - k) % 18446744073709551616 := by
    simp only [Int.ofNat_eq_natCast]; omega
  have e2 : Int.ofNat (if X < Y + k then 1 else 0) = if (X : Int) < Y + k then 1 else 0 := by
    by_cases h : X < Y + k
    · rw [if_pos h, if_pos (by omega)]; rfl
    · rw [if_neg h, if_neg (by omega)]; rfl
  rw [e1, e2]
def ext3V (b : Bool) (x y c : Int) : Value := if b then .tuple #[.int .u64 ((x + y + c) % 18446744073709551616), .int .u64 ((x + y + c) / 18446744073709551616)] else .tuple #[.int .u64 ((x + 18446744073709551616 - y - c) % 18446744073709551616), .int .u64 (if x < y + c then 1 else 0)]
theorem ext3V_rel {i : Inj} {b : Bool} {x y c : Int} : VR i (ext3V b x y c) (ext3V b x y c) := by
  cases b <;> exact VRs.tup (.cons (.int _ _) (.cons (.int _ _) .nil))
theorem runSim_ext3 {P : Program} {o : Oper} {cl : Call} {g : FuncId} {fn : Func} {b : Bool} (ho : o.op = .call cl) (hc : cl.callee = .value (.func g)) (hf : P.funcs[g]? = some fn) (hb : fn.body.isNone = true) (hn : Extern.findNext fn = none)
    (hname : fn.name = if b then "math/bits.Add64" else "math/bits.Sub64") {x y c : Int} (hx : 0 ≤ x) (hy : 0 ≤ y) (hy2 : y < 18446744073709551616) (hc0 : 0 ≤ c) (hc1 : c ≤ 1) {H : AH} :
    RunSim P o [.func (.func g) #[] #[], .int .u64 x, .int .u64 y, .int .u64 c] H (ext3V b x y c) H := by
  refine RunSim.pure_ fun i vs' hv ρ hρ => ⟨_, ext3V_rel, fun w => ?_⟩
  cases hv with
  | cons hf1 hv =>
  cases hv with
  | cons h1 hv =>
  cases hv with
  | cons h2 hv =>
  cases hv with
  | cons h3 hv =>
  cases hv
  cases h1
  cases h2
  cases h3
  cases hf1 with
  | func hfn hs1 k1 hs2 k2 =>
  rename_i fn' first' cap'
  cases hfn
  have e1 : first' = #[] := by apply Array.eq_empty_of_size_eq_zero; simpa using hs1.symm
  have e2 : cap' = #[] := by apply Array.eq_empty_of_size_eq_zero; simpa using hs2.symm
  subst e1 e2
  have hop : o.op.operands.toList = .func g :: cl.args.toList := by rw [ho]; simp [Op.operands, Call.operands, hc]
  rw [hop] at hρ
  simp only [List.map_cons, List.cons.injEq] at hρ
  obtain ⟨q1, q2⟩ := hρ
  have ha : (cl.args.map ρ) = #[.int .u64 x, .int .u64 y, .int .u64 c] := by
    apply Array.ext'
    simpa using q2
  have hng : (fn.name == "runtime.NumGoroutine") = false := by rw [hname]; cases b <;> rfl
  have hcall : (callFunc g #[.int .u64 x, .int .u64 y, .int .u64 c]).run P w = .ok (.value (ext3V b x y c)) w := by
    cases b with
    | true =>
      rw [run_callFunc_extern hf hng hb hn (find_add64 hname), run_add64 x y c hx hy hc0 hc1]
      rfl
    | false =>
      rw [run_callFunc_extern hf hng hb hn (find_sub64 hname), run_sub64 x y c hx hy hy2 hc0 hc1]
      rfl
  unfold execOp
  rw [ho]
  simp only [resolve, hc, q1, ha, Deferred.ofValue, Sem.run_bind, Sem.run_pure, Result.andThen_ok, invoke]
  simpa using hcall
theorem runSim_index_str {P : Program} {t : TypeId} {x y : Operand} {o : Oper} (ho : o.op = .index t x y) (ht : P.underlying t = some .string) {s : ByteArray} {k : IntKind} {n : Int} {b : UInt8} (h0 : 0 ≤ n) (hb : s[n.toNat]? = some b) {H : AH} : RunSim P o [.string s, .int k n] H (.int .u8 b.toNat) H := by
  refine RunSim.pure_ fun i vs' hvs ρ hρ => ?_
  obtain ⟨u', n', rfl, h1, h2⟩ := hvs.two
  cases h2
  cases h1
  rw [ho] at hρ
  simp [Op.operands] at hρ
  refine ⟨_, .int _ _, fun w => ?_⟩
  unfold execOp
  rw [ho]
  simp [Instr.index, hρ.1, hρ.2, asIntOf, run_underlying' P ht, h0, hb]
end Go.Sim
