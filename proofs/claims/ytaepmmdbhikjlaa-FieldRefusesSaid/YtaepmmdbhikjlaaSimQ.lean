/- The semantic simulation logic, part 17: rules for stepping by simp. -/
import Derived.Test.YtaepmmdbhikjlaaSimP
namespace Go.Sim
open Go

theorem ev_tmp (s : St) (t : Tmp) : ev s (.tmp t) = s.env t := _root_.id rfl
theorem ev_const (s : St) (v : Value) : ev s (.const v) = v := _root_.id rfl
theorem ev_func (s : St) (f : FuncId) : ev s (.func f) = .func (.func f) #[] #[] := _root_.id rfl
theorem put_env (s : St) (d : Tmp) (v : Value) (t : Tmp) : (s.put (some d) v).env t = if t = d then v else s.env t := _root_.id rfl
theorem put_none (s : St) (v : Value) : s.put none v = s := _root_.id rfl
theorem put_dsS (s : St) (d : Tmp) (v : Value) : (s.put (some d) v).ds = s.ds := _root_.id rfl
theorem env0_at (args : List Value) (t : Tmp) : env0 args t = args.getD t undef := _root_.id rfl
theorem env0_env (args : List Value) (ds : List Deferred) (t : Tmp) : (⟨env0 args, ds⟩ : St).env t = args.getD t undef := _root_.id rfl

section
variable {P : Program} {n : Nat} {ro : Option Nat} {s : St} {H : AH} {Q : AX → St → AH → Prop} {K : St → AH → Prop} {l : List XS} {D : List PL} {g : Option (Tmp × Bool)} {xs : List Operand} {d : Option Tmp} {j : Nat} {kp : Bool} {chk : List Nat} {a b c : Operand} {x : XO}
theorem X_skip : X P n ro .skip s H Q = Q .normal s H := _root_.id rfl
theorem X_exit {id : Nat} : X P n ro (.exit id) s H Q = Q (.exit id) s H := _root_.id rfl
theorem X_ret : X P n ro .ret s H Q = Q .ret s H := _root_.id rfl
theorem X_seq {a b : XC} : X P n ro (.seq a b) s H Q = X P n ro a s H (AX.then (fun s H => X P n ro b s H Q) Q) := _root_.id rfl
theorem X_cond {c : Operand} {a b : XC} : X P n ro (.cond c a b) s H Q = ∃ t, ev s c = .bool t ∧ (t = true → X P n ro a s H Q) ∧ (t = false → X P n ro b s H Q) := by
  apply propext
  constructor
  · rintro ⟨t, h1, h2⟩
    refine ⟨t, h1, ?_⟩
    cases t <;> simp_all
  · rintro ⟨t, h1, h2, h3⟩
    refine ⟨t, h1, ?_⟩
    cases t <;> simp_all
theorem X_condI {c : Operand} {a b : XC} : X P n ro (.cond c a b) s H Q = ∃ t, ev s c = .bool t ∧ if t = true then X P n ro a s H Q else X P n ro b s H Q := _root_.id rfl
theorem X_block {id : Nat} {a : XC} : X P n ro (.block id a) s H Q = X P n ro a s H (AX.inBlock id Q) := _root_.id rfl
theorem X_loop {a : XC} : X P n ro (.loop a) s H Q = loopX (X P n ro a) s H Q := _root_.id rfl
theorem X_reg : X P n ro (.reg l) s H Q = stepsX P l [] s H (Q .normal) := _root_.id rfl
theorem then_normal {Q : AX → St → AH → Prop} : AX.then K Q .normal s H = K s H := _root_.id rfl
theorem then_normal' {Q : AX → St → AH → Prop} : AX.then K Q .normal = K := _root_.id rfl
theorem then_exit {Q : AX → St → AH → Prop} {id : Nat} : AX.then K Q (.exit id) s H = Q (.exit id) s H := _root_.id rfl
theorem then_ret {Q : AX → St → AH → Prop} : AX.then K Q .ret s H = Q .ret s H := _root_.id rfl
theorem inBlock_normal {id : Nat} : AX.inBlock id Q .normal s H = Q .normal s H := _root_.id rfl
theorem inBlock_normal' {id : Nat} : AX.inBlock id Q .normal = Q .normal := _root_.id rfl
theorem inBlock_exit {id i : Nat} : AX.inBlock id Q (.exit i) s H = if i = id then Q .normal s H else Q (.exit i) s H := _root_.id rfl
theorem inBlock_ret {id : Nat} : AX.inBlock id Q .ret s H = Q .ret s H := _root_.id rfl
theorem steps_nil : stepsX P [] D s H K = K s H := _root_.id rfl
theorem steps_guard {t : Tmp} {w : Bool} : stepsX P (⟨some (t, w), x, xs, d, j, kp, chk⟩ :: l) D s H K = ((wantX (some (t, w)) s = true → stepsX P (⟨none, x, xs, d, j, kp, chk⟩ :: l) D s H K) ∧ (wantX (some (t, w)) s = false → stepsX P l D (s.put d undef) H K)) := by
  apply propext
  cases h : wantX (some (t, w)) s
  · constructor
    · intro q
      unfold stepsX at q
      simp only [h] at q
      exact ⟨fun h => by simp at h, fun _ => by simpa using q⟩
    · intro q
      unfold stepsX
      simp only [h]
      simpa using q.2 rfl
  · constructor
    · intro q
      unfold stepsX at q
      simp only [h] at q
      refine ⟨fun _ => ?_, fun h => by simp at h⟩
      unfold stepsX
      simp only [wantX]
      exact q
    · intro q
      have := q.1 rfl
      unfold stepsX at this ⊢
      simp only [h]
      simp only [wantX] at this
      exact this
theorem steps_guardI {t : Tmp} {w : Bool} : stepsX P (⟨some (t, w), x, xs, d, j, kp, chk⟩ :: l) D s H K = if wantX (some (t, w)) s = true then stepsX P (⟨none, x, xs, d, j, kp, chk⟩ :: l) D s H K else stepsX P l D (s.put d undef) H K := by
  rw [steps_guard]
  by_cases h : wantX (some (t, w)) s = true
  · simp [h]
  · simp [h]
def asB : Value → Bool
  | .bool b => b
  | _ => false
def asNB : Value → Bool
  | .bool b => !b
  | _ => false
theorem asB_bool {b : Bool} : asB (.bool b) = b := _root_.id rfl
theorem asNB_bool {b : Bool} : asNB (.bool b) = !b := _root_.id rfl
theorem wantX_true {t : Tmp} : wantX (some (t, true)) s = asB (s.env t) := by
  rw [show wantX (some (t, true)) s = (match s.env t with | .bool b => b == true | _ => false) from rfl]
  generalize s.env t = v
  cases v <;> simp [asB]
theorem wantX_false {t : Tmp} : wantX (some (t, false)) s = asNB (s.env t) := by
  rw [show wantX (some (t, false)) s = (match s.env t with | .bool b => b == false | _ => false) from rfl]
  generalize s.env t = v
  cases v <;> simp [asNB]
theorem wantX_some {t : Tmp} {w : Bool} : wantX (some (t, w)) s = match s.env t with | .bool b => b == w | _ => false := _root_.id rfl

theorem steps_pur (hk : x.kind = .pur) : stepsX P (⟨none, x, xs, d, j, kp, chk⟩ :: l) D s H K = ∃ v, xpure x (xs.map (ev s)) = some v ∧ stepsX P l D (s.put d v) H K := by
  conv => lhs; unfold stepsX
  simp only [wantX, if_true, hk]
theorem steps_mov : stepsX P (⟨none, .mov, [a], d, j, kp, chk⟩ :: l) D s H K = stepsX P l D (s.put d (ev s a)) H K := by
  rw [steps_pur rfl]; simp [xpure]
theorem steps_pick : stepsX P (⟨none, .pick, [c, a, b], d, j, kp, chk⟩ :: l) D s H K = ∃ t, ev s c = .bool t ∧ stepsX P l D (s.put d (if t then ev s a else ev s b)) H K := by
  rw [steps_pur rfl]
  apply propext
  constructor
  · rintro ⟨v, h1, h2⟩
    obtain ⟨t, x, y, h3, h4⟩ := xp_pick h1
    simp at h3
    obtain ⟨e1, e2, e3⟩ := h3
    subst h4
    exact ⟨t, e1, by rw [e2, e3]; exact h2⟩
  · rintro ⟨t, h1, h2⟩
    exact ⟨_, by simp [xpure, h1], h2⟩
theorem steps_bin {op : BinOp} {m : Nat} : stepsX P (⟨none, .bin op m, [a, b], d, j, kp, chk⟩ :: l) D s H K = ∃ v, xbin op m (ev s a) (ev s b) = some v ∧ stepsX P l D (s.put d v) H K := steps_pur rfl
theorem steps_un {op : UnOp} : stepsX P (⟨none, .un op, [a], d, j, kp, chk⟩ :: l) D s H K = ∃ v, eun op (ev s a) = some v ∧ stepsX P l D (s.put d v) H K := steps_pur rfl
theorem steps_conv {k : IntKind} : stepsX P (⟨none, .conv k, [a], d, j, kp, chk⟩ :: l) D s H K = ∃ v, xpure (.conv k) [ev s a] = some v ∧ stepsX P l D (s.put d v) H K := steps_pur rfl
theorem steps_ext {ix : Nat} : stepsX P (⟨none, .ext ix, [a], d, j, kp, chk⟩ :: l) D s H K = ∃ v, xpure (.ext ix) [ev s a] = some v ∧ stepsX P l D (s.put d v) H K := steps_pur rfl
theorem steps_fld {off : Nat} : stepsX P (⟨none, .fld off, [a], d, j, kp, chk⟩ :: l) D s H K = ∃ v, xpure (.fld off) [ev s a] = some v ∧ stepsX P l D (s.put d v) H K := steps_pur rfl
theorem steps_ixA {n sz : Nat} : stepsX P (⟨none, .ixA n sz, [a, b], d, j, kp, chk⟩ :: l) D s H K = ∃ v, xpure (.ixA n sz) [ev s a, ev s b] = some v ∧ stepsX P l D (s.put d v) H K := steps_pur rfl
theorem steps_ixS {sz : Nat} : stepsX P (⟨none, .ixS sz, [a, b], d, j, kp, chk⟩ :: l) D s H K = ∃ v, xpure (.ixS sz) [ev s a, ev s b] = some v ∧ stepsX P l D (s.put d v) H K := steps_pur rfl
theorem steps_slA {n sz : Nat} {lo hi : Bool} : stepsX P (⟨none, .slA n sz lo hi, xs, d, j, kp, chk⟩ :: l) D s H K = ∃ v, xpure (.slA n sz lo hi) (xs.map (ev s)) = some v ∧ stepsX P l D (s.put d v) H K := steps_pur rfl
theorem steps_slS {sz : Nat} {lo hi : Bool} : stepsX P (⟨none, .slS sz lo hi, xs, d, j, kp, chk⟩ :: l) D s H K = ∃ v, xpure (.slS sz lo hi) (xs.map (ev s)) = some v ∧ stepsX P l D (s.put d v) H K := steps_pur rfl
theorem steps_fn {g : FuncId} {nf nc : Nat} : stepsX P (⟨none, .fn g nf nc, xs, d, j, kp, chk⟩ :: l) D s H K = ∃ v, xpure (.fn g nf nc) (xs.map (ev s)) = some v ∧ stepsX P l D (s.put d v) H K := steps_pur rfl
theorem steps_lenA {n : Nat} : stepsX P (⟨none, .lenA n, [a], d, j, kp, chk⟩ :: l) D s H K = stepsX P l D (s.put d (.int .i64 n)) H K := by rw [steps_pur rfl]; simp [xpure]
theorem steps_lenS : stepsX P (⟨none, .lenS, [a], d, j, kp, chk⟩ :: l) D s H K = ∃ v, xpure .lenS [ev s a] = some v ∧ stepsX P l D (s.put d v) H K := steps_pur rfl
theorem steps_lenT : stepsX P (⟨none, .lenT, [a], d, j, kp, chk⟩ :: l) D s H K = ∃ v, xpure .lenT [ev s a] = some v ∧ stepsX P l D (s.put d v) H K := steps_pur rfl
theorem steps_min2 : stepsX P (⟨none, .min2, [a, b], d, j, kp, chk⟩ :: l) D s H K = ∃ v, xpure .min2 [ev s a, ev s b] = some v ∧ stepsX P l D (s.put d v) H K := steps_pur rfl
theorem steps_max2 : stepsX P (⟨none, .max2, [a, b], d, j, kp, chk⟩ :: l) D s H K = ∃ v, xpure .max2 [ev s a, ev s b] = some v ∧ stepsX P l D (s.put d v) H K := steps_pur rfl
theorem steps_bld {init : List Value} {pl : List (Nat × Nat)} : stepsX P (⟨none, .bld init pl, xs, d, j, kp, chk⟩ :: l) D s H K = ∃ v, xfill init pl (xs.map (ev s)) = some v ∧ stepsX P l D (s.put d (.agg v.toArray)) H K := by
  rw [steps_pur rfl]
  apply propext
  constructor
  · rintro ⟨v, h1, h2⟩
    obtain ⟨a, h3, rfl⟩ := xp_bld h1
    exact ⟨a, h3, h2⟩
  · rintro ⟨a, h, h1⟩
    exact ⟨_, by simp [xpure, h], h1⟩
theorem steps_prt {sz : Option Nat} {off : Nat} : stepsX P (⟨none, .prt sz off, [a], d, j, kp, chk⟩ :: l) D s H K = ∃ v, xpure (.prt sz off) [ev s a] = some v ∧ stepsX P l D (s.put d v) H K := steps_pur rfl
theorem steps_ixV {len es : Nat} {sz : Option Nat} : stepsX P (⟨none, .ixV len es sz, [a, b], d, j, kp, chk⟩ :: l) D s H K = ∃ v, xpure (.ixV len es sz) [ev s a, ev s b] = some v ∧ stepsX P l D (s.put d v) H K := steps_pur rfl

theorem steps_ld {sz : Option Nat} : stepsX P (⟨none, .ld sz, [a], d, j, kp, chk⟩ :: l) D s H K = ∃ v, xload sz H [ev s a] = some v ∧ stepsX P l (if kp then ⟨j, sz, [ev s a], v⟩ :: D else D) (s.put d v) H K := by
  conv => lhs; unfold stepsX
  simp [wantX, XO.kind]
theorem steps_new_ (hk : x.kind = .new) : stepsX P (⟨none, x, xs, d, j, kp, chk⟩ :: l) D s H K = ∃ c e mk, xnew x (xs.map (ev s)) = some (c, e, mk) ∧ chkX chk D (H ++ [.cells c e none false]) ∧ stepsX P l D (s.put d (mk H.length)) (H ++ [.cells c e none false]) K := by
  conv => lhs; unfold stepsX
  simp only [wantX, if_true, hk]
theorem chkX_nil {D : List PL} {H : AH} : chkX [] D H = True := by simp [chkX]
theorem steps_new {c : List Value} {e : TypeId} : stepsX P (⟨none, .new c e, [], d, j, kp, chk⟩ :: l) D s H K = (chkX chk D (H ++ [.cells c e none false]) ∧ stepsX P l D (s.put d (.pointer (some ⟨H.length, 0, none⟩))) (H ++ [.cells c e none false]) K) := by
  rw [steps_new_ rfl]
  apply propext
  constructor
  · rintro ⟨c', e', mk, h1, h2, h3⟩
    simp only [List.map_nil, xnew, Option.some.injEq, Prod.mk.injEq] at h1
    obtain ⟨rfl, rfl, rfl⟩ := h1
    exact ⟨h2, h3⟩
  · rintro ⟨h2, h3⟩
    exact ⟨_, _, _, rfl, h2, h3⟩
theorem steps_box {e : TypeId} : stepsX P (⟨none, .box e, [a], d, j, kp, chk⟩ :: l) D s H K = (chkX chk D (H ++ [.cells (cellsL (ev s a)) e none false]) ∧ stepsX P l D (s.put d (.pointer (some ⟨H.length, 0, none⟩))) (H ++ [.cells (cellsL (ev s a)) e none false]) K) := by
  rw [steps_new_ rfl]
  apply propext
  constructor
  · rintro ⟨c', e', mk, h1, h2, h3⟩
    simp only [List.map_cons, List.map_nil, xnew, Option.some.injEq, Prod.mk.injEq] at h1
    obtain ⟨rfl, rfl, rfl⟩ := h1
    exact ⟨h2, h3⟩
  · rintro ⟨h2, h3⟩
    exact ⟨_, _, _, rfl, h2, h3⟩
theorem steps_make {z : Value} {sz bytes : Nat} {e : TypeId} : stepsX P (⟨none, .make z sz bytes e, [a, b], d, j, kp, chk⟩ :: l) D s H K = ∃ c e' mk, xnew (.make z sz bytes e) [ev s a, ev s b] = some (c, e', mk) ∧ chkX chk D (H ++ [.cells c e' none false]) ∧ stepsX P l D (s.put d (mk H.length)) (H ++ [.cells c e' none false]) K := steps_new_ rfl
theorem steps_bsl {init : List Value} {len : Nat} {pl : List (Nat × Nat)} {e : TypeId} : stepsX P (⟨none, .bsl init len pl e, xs, d, j, kp, chk⟩ :: l) D s H K = ∃ c, xfill init pl (xs.map (ev s)) = some c ∧ chkX chk D (H ++ [.cells c e none false]) ∧ stepsX P l D (s.put d (.slice (some ⟨H.length, 0, none⟩) len len)) (H ++ [.cells c e none false]) K := by
  rw [steps_new_ rfl]
  apply propext
  constructor
  · rintro ⟨c', e', mk, h1, h2, h3⟩
    simp only [xnew] at h1
    split at h1
    · rename_i c hc
      simp only [Option.some.injEq, Prod.mk.injEq] at h1
      obtain ⟨rfl, rfl, rfl⟩ := h1
      exact ⟨_, hc, h2, h3⟩
    · cases h1
  · rintro ⟨c, h1, h2, h3⟩
    exact ⟨c, e, mkSl len len, by simp only [xnew, h1], h2, h3⟩
theorem steps_act_ (hk : x.kind = .act) : stepsX P (⟨none, x, xs, d, j, kp, chk⟩ :: l) D s H K = ∃ v H', xact x H (xs.map (ev s)) = some (v, H') ∧ chkX chk D H' ∧ stepsX P l D (s.put d v) H' K := by
  conv => lhs; unfold stepsX
  simp only [wantX, if_true, hk]
theorem steps_st {sz : Nat} : stepsX P (⟨none, .st sz, [a, b], d, j, kp, chk⟩ :: l) D s H K = ∃ v H', xact (.st sz) H [ev s a, ev s b] = some (v, H') ∧ chkX chk D H' ∧ stepsX P l D (s.put d v) H' K := steps_act_ rfl
theorem steps_app {e : TypeId} {sz bytes : Nat} : stepsX P (⟨none, .app e sz bytes, [a, b], d, j, kp, chk⟩ :: l) D s H K = ∃ v H', xact (.app e sz bytes) H [ev s a, ev s b] = some (v, H') ∧ chkX chk D H' ∧ stepsX P l D (s.put d v) H' K := steps_act_ rfl
theorem steps_call {f : Operand} : stepsX P (⟨none, .call, f :: xs, d, j, kp, chk⟩ :: l) D s H K = callX P (ev s f :: xs.map (ev s)) H fun v H' => chkX chk D H' ∧ stepsX P l D (s.put d v) H' K := by
  conv => lhs; unfold stepsX
  simp only [wantX, if_true, XO.kind, List.map_cons]
theorem callX_fn {g : FuncId} {first cap : Array Value} {args : List Value} {R : Value → AH → Prop} : callX P (.func (.func g) first cap :: args) H R = FN P g (first.toList ++ args ++ cap.toList) H R := _root_.id rfl
theorem callX_y {l : Nat} {args : List Value} {R : Value → AH → Prop} : callX P (.func (.yield l) #[] #[] :: args) H R = YN P l args H R := by simp [callX]
theorem callX_f {g : FuncId} {args : List Value} {R : Value → AH → Prop} : callX P (.func (.func g) #[] #[] :: args) H R = FN P g args H R := by simp [callX]
end

/-! ### what they come to -/
section
variable {k : IntKind} {a b : Int} {m : Nat} {x y : Bool}
theorem xbin_add : xbin .add m (.int k a) (.int k b) = some (.int k (k.wrap (a + b))) := by simp [xbin]
theorem xbin_sub : xbin .sub m (.int k a) (.int k b) = some (.int k (k.wrap (a - b))) := by simp [xbin]
theorem xbin_mul : xbin .mul m (.int k a) (.int k b) = some (.int k (k.wrap (a * b))) := by simp [xbin]
theorem xbin_quo (h : b ≠ 0) : xbin .quo m (.int k a) (.int k b) = some (.int k (k.wrap (a.tdiv b))) := by simp [xbin, h]
theorem xbin_rem (h : b ≠ 0) : xbin .rem m (.int k a) (.int k b) = some (.int k (a.tmod b)) := by simp [xbin, h]
theorem xbin_eql : xbin .eql m (.int k a) (.int k b) = some (.bool (decide (a = b))) := by simp [xbin]; rfl
theorem xbin_neq : xbin .neq m (.int k a) (.int k b) = some (.bool (decide (a ≠ b))) := by simp [xbin]; rw [Bool.eq_iff_iff]; simp
theorem xbin_lss : xbin .lss m (.int k a) (.int k b) = some (.bool (decide (a < b))) := by simp [xbin]
theorem xbin_leq : xbin .leq m (.int k a) (.int k b) = some (.bool (decide (a ≤ b))) := by simp [xbin]
theorem xbin_gtr : xbin .gtr m (.int k a) (.int k b) = some (.bool (decide (b < a))) := by simp [xbin]
theorem xbin_geq : xbin .geq m (.int k a) (.int k b) = some (.bool (decide (b ≤ a))) := by simp [xbin]
theorem xbin_eqlB : xbin .eql 1 (.bool x) (.bool y) = some (.bool (x == y)) := by simp [xbin]
theorem xbin_neqB : xbin .neq 1 (.bool x) (.bool y) = some (.bool (!(x == y))) := by simp [xbin]
theorem eun_not : eun .not (.bool x) = some (.bool !x) := _root_.id rfl
theorem eun_neg : eun .neg (.int k a) = some (.int k (k.wrap (0 - a))) := _root_.id rfl
theorem xp_conv' {k' : IntKind} : xpure (.conv k) [.int k' a] = some (.int k (k.wrap a)) := _root_.id rfl
theorem xp_ext' {ix : Nat} {cs : List Value} : xpure (.ext ix) [.tuple cs.toArray] = cs[ix]? := _root_.id rfl
theorem xp_ext'' {ix : Nat} {cs : Array Value} : xpure (.ext ix) [.tuple cs] = cs.toList[ix]? := _root_.id rfl
theorem xp_fld' {bl off o : Nat} : xpure (.fld off) [.pointer (some ⟨bl, o, none⟩)] = some (.pointer (some ⟨bl, o + off, none⟩)) := by simp [xpure]
theorem xp_ixA' {bl o len sz : Nat} (h0 : 0 ≤ a) (h1 : a < len) : xpure (.ixA len sz) [.pointer (some ⟨bl, o, none⟩), .int k a] = some (.pointer (some ⟨bl, o + a.toNat * sz, none⟩)) := by simp [xpure, h0, h1]
theorem xp_ixS' {bl o l c sz : Nat} (h0 : 0 ≤ a) (h1 : a < l) : xpure (.ixS sz) [.slice (some ⟨bl, o, none⟩) l c, .int k a] = some (.pointer (some ⟨bl, o + a.toNat * sz, none⟩)) := by simp [xpure, h0, h1]
theorem xp_lenS' {ad : Option Addr} {l c : Nat} : xpure .lenS [.slice ad l c] = some (.int .i64 l) := _root_.id rfl
theorem xp_lenT' {t : ByteArray} : xpure .lenT [.string t] = some (.int .i64 t.size) := _root_.id rfl
theorem xp_min2' : xpure .min2 [.int k a, .int k b] = some (.int k (if b < a then b else a)) := by simp [xpure]
theorem xp_max2' : xpure .max2 [.int k a, .int k b] = some (.int k (if a < b then b else a)) := by simp [xpure]
theorem xload_at {H : AH} {sz : Option Nat} {bl o : Nat} {c : List Value} {e : TypeId} {op : Option Nat} {r : Bool} (h : H[bl]? = some (.cells c e op r)) : xload sz H [.pointer (some ⟨bl, o, none⟩)] = xpart sz c o := by simp [xload, h]
theorem xpart_none {c : List Value} {o : Nat} : xpart none c o = c[o]? := _root_.id rfl
theorem xpart_some {n : Nat} {c : List Value} {o : Nat} (h : o + n ≤ c.length) : xpart (some n) c o = some (.agg ((c.drop o).take n).toArray) := by simp [xpart, h]
theorem wrap64 {n : Int} (h0 : -9223372036854775808 ≤ n) (h1 : n < 9223372036854775808) : IntKind.wrap .i64 n = n := by
  simp [IntKind.wrap, IntKind.bits, IntKind.signed]
  omega
end

/-! ### the heap, as what was and what is new -/
section
variable {α : Type} {H0 L : List α} {x : α} {k : Nat}
theorem get_new : (H0 ++ L)[H0.length + k]? = L[k]? := by rw [List.getElem?_append_right (by omega)]; congr 1; omega
theorem get_new0 : (H0 ++ L)[H0.length]? = L[0]? := by rw [List.getElem?_append_right (by omega)]; congr 1; omega
theorem set_new : (H0 ++ L).set (H0.length + k) x = H0 ++ L.set k x := by rw [List.set_append_right _ _ (by omega)]; congr 2; omega
theorem set_new0 : (H0 ++ L).set H0.length x = H0 ++ L.set 0 x := by rw [List.set_append_right _ _ (by omega)]; congr 2; omega
theorem get_old (h : H0[k]? = some x) : (H0 ++ L)[k]? = some x := by rw [List.getElem?_append_left (List.getElem?_eq_some_iff.1 h).1]; exact h
end

end Go.Sim
