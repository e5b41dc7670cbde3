/- The semantic simulation logic, part 17b: rules for stepping by simp, in which what comes later waits (it stands where simp does not look: as an instance). -/
import Derived.Test.YtaepmmdbhikjlaaSimT
namespace Go.Sim
open Go

class Kb (α : Type) where
  f : α
class Kp (p : Prop) : Prop where
  f : p
structure Pr where
  p : Prop

def bindO (o : Option Value) [k : Kb (Value → Prop)] : Prop := ∃ v, o = some v ∧ k.f v
def bindP (o : Option (Value × AH)) [k : Kb (Value → AH → Prop)] : Prop := ∃ v H, o = some (v, H) ∧ k.f v H
def bindN (o : Option (List Value × TypeId × (Nat → Value))) [k : Kb (List Value → TypeId → (Nat → Value) → Prop)] : Prop := ∃ c e mk, o = some (c, e, mk) ∧ k.f c e mk
def bindU (o : Option AH) [k : Kb (AH → Prop)] : Prop := ∃ H, o = some H ∧ k.f H
def bindL (o : Option (List Value)) [k : Kb (List Value → Prop)] : Prop := ∃ H, o = some H ∧ k.f H
def letV (v : Value) [k : Kb (Value → Prop)] : Prop := k.f v
def letH (H : AH) [k : Kb (AH → Prop)] : Prop := k.f H
def condK (v : Value) [k : Kb (Bool → Prop)] : Prop := ∃ t, v = .bool t ∧ k.f t
def guardK (b : Bool) [k : Kb (Bool → Prop)] : Prop := k.f b
def pickK (v x y : Value) [k : Kb (Value → Prop)] : Prop := ∃ t, v = .bool t ∧ k.f (if t then x else y)
/-- Code, steps, functions, loops, ends: as they are, but for where their parts stand. -/
def XZ (P : Program) (n : Nat) (ro : Option Nat) (c : XC) [s : Kb St] [H : Kb AH] [Q : Kb (AX → St → AH → Prop)] : Prop := X P n ro c s.f H.f Q.f
def SZ (P : Program) (l : List XS) [D : Kb (List PL)] [s : Kb St] [H : Kb AH] [K : Kb (St → AH → Prop)] : Prop := stepsX P l D.f s.f H.f K.f
def callZ (P : Program) (vs : List Value) (H : AH) [R : Kb (Value → AH → Prop)] : Prop := callX P vs H R.f
def FZ (P : Program) (g : FuncId) (args : List Value) (H : AH) [R : Kb (Value → AH → Prop)] : Prop := FN P g args H R.f
def YZ (P : Program) (g : Nat) (args : List Value) (H : AH) [R : Kb (Value → AH → Prop)] : Prop := YN P g args H R.f
def LZ (P : Program) (n : Nat) (ro : Option Nat) (c : XC) [s : Kb St] [H : Kb AH] [Q : Kb (AX → St → AH → Prop)] : Prop := loopX (X P n ro c) s.f H.f Q.f
def EZ (Q : AX → St → AH → Prop) (x : AX) (s : St) (H : AH) : Prop := Q x s H

theorem bindO_some {v : Value} {k : Value → Prop} : @bindO (some v) ⟨k⟩ = k v := by simp [bindO]
theorem bindP_some {v : Value} {H : AH} {k : Value → AH → Prop} : @bindP (some (v, H)) ⟨k⟩ = k v H := ex_pair
theorem bindN_some {c : List Value} {e : TypeId} {mk : Nat → Value} {k : List Value → TypeId → (Nat → Value) → Prop} : @bindN (some (c, e, mk)) ⟨k⟩ = k c e mk := ex_trip
theorem bindU_some {H : AH} {k : AH → Prop} : @bindU (some H) ⟨k⟩ = k H := by simp [bindU]
theorem bindL_some {H : List Value} {k : List Value → Prop} : @bindL (some H) ⟨k⟩ = k H := by simp [bindL]
theorem letV_eq {v : Value} {k : Value → Prop} : @letV v ⟨k⟩ = k v := _root_.id rfl
theorem letH_eq {H : AH} {k : AH → Prop} : @letH H ⟨k⟩ = k H := _root_.id rfl
theorem condK_bool {b : Bool} {k : Bool → Prop} : @condK (.bool b) ⟨k⟩ = @guardK b ⟨k⟩ := by simp [condK, guardK]
theorem guardK_true {k : Bool → Prop} : @guardK true ⟨k⟩ = k true := _root_.id rfl
theorem guardK_false {k : Bool → Prop} : @guardK false ⟨k⟩ = k false := _root_.id rfl
theorem pickK_true {x y : Value} {k : Value → Prop} : @pickK (.bool true) x y ⟨k⟩ = k x := by simp [pickK]
theorem pickK_false {x y : Value} {k : Value → Prop} : @pickK (.bool false) x y ⟨k⟩ = k y := by simp [pickK]
/-- A fork. -/
theorem guardK_split {b : Bool} {k : Bool → Prop} (h1 : b = true → k true) (h2 : b = false → k false) : @guardK b ⟨k⟩ := by
  cases b
  · exact h2 rfl
  · exact h1 rfl

section
variable {P : Program} {n : Nat} {ro : Option Nat} {s : St} {H : AH} {Q : AX → St → AH → Prop} {K : St → AH → Prop} {l : List XS} {D : List PL} {g : Option (Tmp × Bool)} {xs : List Operand} {d : Option Tmp} {j : Nat} {kp : Bool} {chk : List Nat} {a b c : Operand} {x : XO}
theorem XZ_of {c0 : XC} (h : @XZ P n ro c0 ⟨s⟩ ⟨H⟩ ⟨Q⟩) : X P n ro c0 s H Q := h
theorem X0_skip : @XZ P n ro (.skip) ⟨s⟩ ⟨H⟩ ⟨Q⟩ = EZ Q .normal s H := _root_.id rfl
theorem X0_exit {id : Nat} : @XZ P n ro (.exit id) ⟨s⟩ ⟨H⟩ ⟨Q⟩ = EZ Q (.exit id) s H := _root_.id rfl
theorem X0_ret : @XZ P n ro (.ret) ⟨s⟩ ⟨H⟩ ⟨Q⟩ = EZ Q .ret s H := _root_.id rfl
theorem X0_seq {a b : XC} : @XZ P n ro (.seq a b) ⟨s⟩ ⟨H⟩ ⟨Q⟩ = @XZ P n ro a ⟨s⟩ ⟨H⟩ ⟨AX.then (fun s H => @XZ P n ro b ⟨s⟩ ⟨H⟩ ⟨Q⟩) Q⟩ := _root_.id rfl
theorem X0_cond {c : Operand} {a b : XC} : @XZ P n ro (.cond c a b) ⟨s⟩ ⟨H⟩ ⟨Q⟩ = @condK (ev s c) ⟨fun t => if t = true then @XZ P n ro a ⟨s⟩ ⟨H⟩ ⟨Q⟩ else @XZ P n ro b ⟨s⟩ ⟨H⟩ ⟨Q⟩⟩ := _root_.id rfl
theorem X0_block {id : Nat} {a : XC} : @XZ P n ro (.block id a) ⟨s⟩ ⟨H⟩ ⟨Q⟩ = @XZ P n ro a ⟨s⟩ ⟨H⟩ ⟨AX.inBlock id Q⟩ := _root_.id rfl
theorem X0_loop {a : XC} : @XZ P n ro (.loop a) ⟨s⟩ ⟨H⟩ ⟨Q⟩ = @LZ P n ro a ⟨s⟩ ⟨H⟩ ⟨Q⟩ := _root_.id rfl
theorem X0_reg {l : List XS} : @XZ P n ro (.reg l) ⟨s⟩ ⟨H⟩ ⟨Q⟩ = @SZ P l ⟨[]⟩ ⟨s⟩ ⟨H⟩ ⟨Q .normal⟩ := _root_.id rfl
theorem E_then_normal {Q : AX → St → AH → Prop} : EZ (AX.then K Q) .normal s H = K s H := _root_.id rfl
theorem E_then_exit {Q : AX → St → AH → Prop} {id : Nat} : EZ (AX.then K Q) (.exit id) s H = EZ Q (.exit id) s H := _root_.id rfl
theorem E_then_ret {Q : AX → St → AH → Prop} : EZ (AX.then K Q) .ret s H = EZ Q .ret s H := _root_.id rfl
theorem E_inBlock_normal {id : Nat} : EZ (AX.inBlock id Q) .normal s H = EZ Q .normal s H := _root_.id rfl
theorem E_inBlock_exit {id i : Nat} : EZ (AX.inBlock id Q) (.exit i) s H = if i = id then EZ Q .normal s H else EZ Q (.exit i) s H := _root_.id rfl
theorem E_inBlock_ret {id : Nat} : EZ (AX.inBlock id Q) .ret s H = EZ Q .ret s H := _root_.id rfl
theorem E_normal {res : List XRes} {R : Value → AH → Prop} : EZ (bodyX res R) .normal s H = @bindU (unwA s.ds H) ⟨fun H' => @bindO (xress H' s res) ⟨fun v => R v H'⟩⟩ := bodyX_normal
theorem E_ret {res : List XRes} {R : Value → AH → Prop} : EZ (bodyX res R) .ret s H = @bindU (unwA s.ds H) ⟨fun H' => @bindO (xress H' s res) ⟨fun v => R v H'⟩⟩ := bodyX_ret
theorem S0_nil {Q : AX → St → AH → Prop} : @SZ P [] ⟨D⟩ ⟨s⟩ ⟨H⟩ ⟨Q .normal⟩ = EZ Q .normal s H := _root_.id rfl
theorem S0_guardT {t : Tmp} : @SZ P (⟨some (t, true), x, xs, d, j, kp, chk⟩ :: l) ⟨D⟩ ⟨s⟩ ⟨H⟩ ⟨K⟩ = @guardK (asB (s.env t)) ⟨fun q => if q = true then @SZ P (⟨none, x, xs, d, j, kp, chk⟩ :: l) ⟨D⟩ ⟨s⟩ ⟨H⟩ ⟨K⟩ else @SZ P l ⟨D⟩ ⟨s.put d undef⟩ ⟨H⟩ ⟨K⟩⟩ := by
  refine (steps_guardI (P := P) (t := t) (w := true)).trans ?_
  rw [wantX_true]; rfl
theorem S0_guardF {t : Tmp} : @SZ P (⟨some (t, false), x, xs, d, j, kp, chk⟩ :: l) ⟨D⟩ ⟨s⟩ ⟨H⟩ ⟨K⟩ = @guardK (asNB (s.env t)) ⟨fun q => if q = true then @SZ P (⟨none, x, xs, d, j, kp, chk⟩ :: l) ⟨D⟩ ⟨s⟩ ⟨H⟩ ⟨K⟩ else @SZ P l ⟨D⟩ ⟨s.put d undef⟩ ⟨H⟩ ⟨K⟩⟩ := by
  refine (steps_guardI (P := P) (t := t) (w := false)).trans ?_
  rw [wantX_false]; rfl
theorem S0_mov : @SZ P (⟨none, .mov, [a], d, j, kp, chk⟩ :: l) ⟨D⟩ ⟨s⟩ ⟨H⟩ ⟨K⟩ = @letV (ev s a) ⟨fun v => @SZ P l ⟨D⟩ ⟨s.put d v⟩ ⟨H⟩ ⟨K⟩⟩ := _root_.id steps_mov
theorem S0_pick : @SZ P (⟨none, .pick, [c, a, b], d, j, kp, chk⟩ :: l) ⟨D⟩ ⟨s⟩ ⟨H⟩ ⟨K⟩ = @pickK (ev s c) (ev s a) (ev s b) ⟨fun v => @SZ P l ⟨D⟩ ⟨s.put d v⟩ ⟨H⟩ ⟨K⟩⟩ := steps_pick
theorem S0_lenA {n : Nat} : @SZ P (⟨none, .lenA n, [a], d, j, kp, chk⟩ :: l) ⟨D⟩ ⟨s⟩ ⟨H⟩ ⟨K⟩ = @SZ P l ⟨D⟩ ⟨s.put d (nv n)⟩ ⟨H⟩ ⟨K⟩ := steps_lenA
theorem S0_bld {init : List Value} {pl : List (Nat × Nat)} : @SZ P (⟨none, .bld init pl, xs, d, j, kp, chk⟩ :: l) ⟨D⟩ ⟨s⟩ ⟨H⟩ ⟨K⟩ = @bindL (xfill init pl (xs.map (ev s))) ⟨fun v => @SZ P l ⟨D⟩ ⟨s.put d (.agg v.toArray)⟩ ⟨H⟩ ⟨K⟩⟩ := steps_bld
theorem S0_ldF {sz : Option Nat} : @SZ P (⟨none, .ld sz, [a], d, j, false, chk⟩ :: l) ⟨D⟩ ⟨s⟩ ⟨H⟩ ⟨K⟩ = @bindO (xload sz H [ev s a]) ⟨fun v => @SZ P l ⟨D⟩ ⟨s.put d v⟩ ⟨H⟩ ⟨K⟩⟩ := by
  unfold SZ; rw [steps_ld]; rfl
theorem S0_ldT {sz : Option Nat} : @SZ P (⟨none, .ld sz, [a], d, j, true, chk⟩ :: l) ⟨D⟩ ⟨s⟩ ⟨H⟩ ⟨K⟩ = @bindO (xload sz H [ev s a]) ⟨fun v => @SZ P l ⟨⟨j, sz, [ev s a], v⟩ :: D⟩ ⟨s.put d v⟩ ⟨H⟩ ⟨K⟩⟩ := by
  unfold SZ; rw [steps_ld]; rfl
theorem S0_new {c : List Value} {e : TypeId} : @SZ P (⟨none, .new c e, [], d, j, kp, []⟩ :: l) ⟨D⟩ ⟨s⟩ ⟨H⟩ ⟨K⟩ = @letV (.pointer (some ⟨H.length, 0, none⟩)) ⟨fun v => @letH (H ++ [.cells c e none false]) ⟨fun H' => @SZ P l ⟨D⟩ ⟨s.put d v⟩ ⟨H'⟩ ⟨K⟩⟩⟩ := by
  unfold SZ; rw [steps_new, chkX_nil]; simp [letH, letV]
theorem S0_box {e : TypeId} : @SZ P (⟨none, .box e, [a], d, j, kp, []⟩ :: l) ⟨D⟩ ⟨s⟩ ⟨H⟩ ⟨K⟩ = @letV (.pointer (some ⟨H.length, 0, none⟩)) ⟨fun v => @letH (H ++ [.cells (cellsL (ev s a)) e none false]) ⟨fun H' => @SZ P l ⟨D⟩ ⟨s.put d v⟩ ⟨H'⟩ ⟨K⟩⟩⟩ := by
  unfold SZ; rw [steps_box, chkX_nil]; simp [letH, letV]
theorem S0_make {z : Value} {sz bytes : Nat} {e : TypeId} : @SZ P (⟨none, .make z sz bytes e, [a, b], d, j, kp, []⟩ :: l) ⟨D⟩ ⟨s⟩ ⟨H⟩ ⟨K⟩ = @bindN (xnew (.make z sz bytes e) [ev s a, ev s b]) ⟨fun c e' mk => @letV (mk H.length) ⟨fun v => @letH (H ++ [.cells c e' none false]) ⟨fun H' => @SZ P l ⟨D⟩ ⟨s.put d v⟩ ⟨H'⟩ ⟨K⟩⟩⟩⟩ := by
  unfold SZ; rw [steps_make]; simp only [chkX_nil, true_and]; rfl
theorem S0_bsl {init : List Value} {len : Nat} {pl : List (Nat × Nat)} {e : TypeId} : @SZ P (⟨none, .bsl init len pl e, xs, d, j, kp, []⟩ :: l) ⟨D⟩ ⟨s⟩ ⟨H⟩ ⟨K⟩ = @bindL (xfill init pl (xs.map (ev s))) ⟨fun c => @letV (.slice (some ⟨H.length, 0, none⟩) len len) ⟨fun v => @letH (H ++ [.cells c e none false]) ⟨fun H' => @SZ P l ⟨D⟩ ⟨s.put d v⟩ ⟨H'⟩ ⟨K⟩⟩⟩⟩ := by
  unfold SZ; rw [steps_bsl]; simp only [chkX_nil, true_and]; rfl
theorem S0_st {sz : Nat} : @SZ P (⟨none, .st sz, [a, b], d, j, kp, []⟩ :: l) ⟨D⟩ ⟨s⟩ ⟨H⟩ ⟨K⟩ = @bindP (xact (.st sz) H [ev s a, ev s b]) ⟨fun v H' => @SZ P l ⟨D⟩ ⟨s.put d v⟩ ⟨H'⟩ ⟨K⟩⟩ := by
  unfold SZ; rw [steps_st]; simp only [chkX_nil, true_and]; rfl
theorem S0_app {e : TypeId} {sz bytes : Nat} : @SZ P (⟨none, .app e sz bytes, [a, b], d, j, kp, []⟩ :: l) ⟨D⟩ ⟨s⟩ ⟨H⟩ ⟨K⟩ = @bindP (xact (.app e sz bytes) H [ev s a, ev s b]) ⟨fun v H' => @SZ P l ⟨D⟩ ⟨s.put d v⟩ ⟨H'⟩ ⟨K⟩⟩ := by
  unfold SZ; rw [steps_app]; simp only [chkX_nil, true_and]; rfl
theorem S0_appC {e : TypeId} {sz bytes c : Nat} {cs : List Nat} : @SZ P (⟨none, .app e sz bytes, [a, b], d, j, kp, c :: cs⟩ :: l) ⟨D⟩ ⟨s⟩ ⟨H⟩ ⟨K⟩ = @bindP (xact (.app e sz bytes) H [ev s a, ev s b]) ⟨fun v H' => chkX (c :: cs) D H' ∧ @SZ P l ⟨D⟩ ⟨s.put d v⟩ ⟨H'⟩ ⟨K⟩⟩ := steps_app
theorem S0_stC {sz c : Nat} {cs : List Nat} : @SZ P (⟨none, .st sz, [a, b], d, j, kp, c :: cs⟩ :: l) ⟨D⟩ ⟨s⟩ ⟨H⟩ ⟨K⟩ = @bindP (xact (.st sz) H [ev s a, ev s b]) ⟨fun v H' => chkX (c :: cs) D H' ∧ @SZ P l ⟨D⟩ ⟨s.put d v⟩ ⟨H'⟩ ⟨K⟩⟩ := steps_st
theorem chkX_D0 {c : List Nat} : chkX c [] H = True := by simp [chkX]
theorem chkX_D1 {c : List Nat} {j : Nat} {sz : Option Nat} {vs : List Value} {v : Value} : chkX c (⟨j, sz, vs, v⟩ :: D) H = ((j ∈ c → xload sz H vs = some v) ∧ chkX c D H) := by simp [chkX]
theorem S0_call {f : Operand} : @SZ P (⟨none, .call, f :: xs, d, j, kp, []⟩ :: l) ⟨D⟩ ⟨s⟩ ⟨H⟩ ⟨K⟩ = @callZ P (ev s f :: xs.map (ev s)) H ⟨fun v H' => @SZ P l ⟨D⟩ ⟨s.put d v⟩ ⟨H'⟩ ⟨K⟩⟩ := by
  unfold SZ callZ; rw [steps_call]; simp only [chkX_nil, true_and]
theorem S0_callC {f : Operand} {c : Nat} {cs : List Nat} : @SZ P (⟨none, .call, f :: xs, d, j, kp, c :: cs⟩ :: l) ⟨D⟩ ⟨s⟩ ⟨H⟩ ⟨K⟩ = @callZ P (ev s f :: xs.map (ev s)) H ⟨fun v H' => chkX (c :: cs) D H' ∧ @SZ P l ⟨D⟩ ⟨s.put d v⟩ ⟨H'⟩ ⟨K⟩⟩ := steps_call
theorem callZ_f {g : FuncId} {args : List Value} {R : Value → AH → Prop} : @callZ P (.func (.func g) #[] #[] :: args) H ⟨R⟩ = @FZ P g args H ⟨R⟩ := callX_f
theorem callZ_fn {g : FuncId} {first cap : Array Value} {args : List Value} {R : Value → AH → Prop} : @callZ P (.func (.func g) first cap :: args) H ⟨R⟩ = @FZ P g (first.toList ++ args ++ cap.toList) H ⟨R⟩ := _root_.id rfl
theorem callZ_y {g : Nat} {args : List Value} {R : Value → AH → Prop} : @callZ P (.func (.yield g) #[] #[] :: args) H ⟨R⟩ = @YZ P g args H ⟨R⟩ := callX_y

theorem S0_bin {op : BinOp} {m : Nat} : @SZ P (⟨none, .bin op m, [a, b], d, j, kp, chk⟩ :: l) ⟨D⟩ ⟨s⟩ ⟨H⟩ ⟨K⟩ = @bindO (xbin op m (ev s a) (ev s b)) ⟨fun v => @SZ P l ⟨D⟩ ⟨s.put d v⟩ ⟨H⟩ ⟨K⟩⟩ := steps_bin
theorem S0_un {op : UnOp} : @SZ P (⟨none, .un op, [a], d, j, kp, chk⟩ :: l) ⟨D⟩ ⟨s⟩ ⟨H⟩ ⟨K⟩ = @bindO (eun op (ev s a)) ⟨fun v => @SZ P l ⟨D⟩ ⟨s.put d v⟩ ⟨H⟩ ⟨K⟩⟩ := steps_un
theorem S0_conv {k : IntKind} : @SZ P (⟨none, .conv k, [a], d, j, kp, chk⟩ :: l) ⟨D⟩ ⟨s⟩ ⟨H⟩ ⟨K⟩ = @bindO (xpure (.conv k) [ev s a]) ⟨fun v => @SZ P l ⟨D⟩ ⟨s.put d v⟩ ⟨H⟩ ⟨K⟩⟩ := steps_conv
theorem S0_ext {ix : Nat} : @SZ P (⟨none, .ext ix, [a], d, j, kp, chk⟩ :: l) ⟨D⟩ ⟨s⟩ ⟨H⟩ ⟨K⟩ = @bindO (xpure (.ext ix) [ev s a]) ⟨fun v => @SZ P l ⟨D⟩ ⟨s.put d v⟩ ⟨H⟩ ⟨K⟩⟩ := steps_ext
theorem S0_fld {off : Nat} : @SZ P (⟨none, .fld off, [a], d, j, kp, chk⟩ :: l) ⟨D⟩ ⟨s⟩ ⟨H⟩ ⟨K⟩ = @bindO (xpure (.fld off) [ev s a]) ⟨fun v => @SZ P l ⟨D⟩ ⟨s.put d v⟩ ⟨H⟩ ⟨K⟩⟩ := steps_fld
theorem S0_ixA {n sz : Nat} : @SZ P (⟨none, .ixA n sz, [a, b], d, j, kp, chk⟩ :: l) ⟨D⟩ ⟨s⟩ ⟨H⟩ ⟨K⟩ = @bindO (xpure (.ixA n sz) [ev s a, ev s b]) ⟨fun v => @SZ P l ⟨D⟩ ⟨s.put d v⟩ ⟨H⟩ ⟨K⟩⟩ := steps_ixA
theorem S0_ixS {sz : Nat} : @SZ P (⟨none, .ixS sz, [a, b], d, j, kp, chk⟩ :: l) ⟨D⟩ ⟨s⟩ ⟨H⟩ ⟨K⟩ = @bindO (xpure (.ixS sz) [ev s a, ev s b]) ⟨fun v => @SZ P l ⟨D⟩ ⟨s.put d v⟩ ⟨H⟩ ⟨K⟩⟩ := steps_ixS
theorem S0_slA {n sz : Nat} {lo hi : Bool} : @SZ P (⟨none, .slA n sz lo hi, xs, d, j, kp, chk⟩ :: l) ⟨D⟩ ⟨s⟩ ⟨H⟩ ⟨K⟩ = @bindO (xpure (.slA n sz lo hi) (xs.map (ev s))) ⟨fun v => @SZ P l ⟨D⟩ ⟨s.put d v⟩ ⟨H⟩ ⟨K⟩⟩ := steps_slA
theorem S0_slS {sz : Nat} {lo hi : Bool} : @SZ P (⟨none, .slS sz lo hi, xs, d, j, kp, chk⟩ :: l) ⟨D⟩ ⟨s⟩ ⟨H⟩ ⟨K⟩ = @bindO (xpure (.slS sz lo hi) (xs.map (ev s))) ⟨fun v => @SZ P l ⟨D⟩ ⟨s.put d v⟩ ⟨H⟩ ⟨K⟩⟩ := steps_slS
theorem S0_fn {g : FuncId} {nf nc : Nat} : @SZ P (⟨none, .fn g nf nc, xs, d, j, kp, chk⟩ :: l) ⟨D⟩ ⟨s⟩ ⟨H⟩ ⟨K⟩ = @bindO (xpure (.fn g nf nc) (xs.map (ev s))) ⟨fun v => @SZ P l ⟨D⟩ ⟨s.put d v⟩ ⟨H⟩ ⟨K⟩⟩ := steps_fn
theorem S0_lenS  : @SZ P (⟨none, .lenS, [a], d, j, kp, chk⟩ :: l) ⟨D⟩ ⟨s⟩ ⟨H⟩ ⟨K⟩ = @bindO (xpure .lenS [ev s a]) ⟨fun v => @SZ P l ⟨D⟩ ⟨s.put d v⟩ ⟨H⟩ ⟨K⟩⟩ := steps_lenS
theorem S0_lenT  : @SZ P (⟨none, .lenT, [a], d, j, kp, chk⟩ :: l) ⟨D⟩ ⟨s⟩ ⟨H⟩ ⟨K⟩ = @bindO (xpure .lenT [ev s a]) ⟨fun v => @SZ P l ⟨D⟩ ⟨s.put d v⟩ ⟨H⟩ ⟨K⟩⟩ := steps_lenT
theorem S0_min2  : @SZ P (⟨none, .min2, [a, b], d, j, kp, chk⟩ :: l) ⟨D⟩ ⟨s⟩ ⟨H⟩ ⟨K⟩ = @bindO (xpure .min2 [ev s a, ev s b]) ⟨fun v => @SZ P l ⟨D⟩ ⟨s.put d v⟩ ⟨H⟩ ⟨K⟩⟩ := steps_min2
theorem S0_max2  : @SZ P (⟨none, .max2, [a, b], d, j, kp, chk⟩ :: l) ⟨D⟩ ⟨s⟩ ⟨H⟩ ⟨K⟩ = @bindO (xpure .max2 [ev s a, ev s b]) ⟨fun v => @SZ P l ⟨D⟩ ⟨s.put d v⟩ ⟨H⟩ ⟨K⟩⟩ := steps_max2
theorem S0_prt {sz : Option Nat} {off : Nat} : @SZ P (⟨none, .prt sz off, [a], d, j, kp, chk⟩ :: l) ⟨D⟩ ⟨s⟩ ⟨H⟩ ⟨K⟩ = @bindO (xpure (.prt sz off) [ev s a]) ⟨fun v => @SZ P l ⟨D⟩ ⟨s.put d v⟩ ⟨H⟩ ⟨K⟩⟩ := steps_prt
theorem S0_ixV {len es : Nat} {sz : Option Nat} : @SZ P (⟨none, .ixV len es sz, [a, b], d, j, kp, chk⟩ :: l) ⟨D⟩ ⟨s⟩ ⟨H⟩ ⟨K⟩ = @bindO (xpure (.ixV len es sz) [ev s a, ev s b]) ⟨fun v => @SZ P l ⟨D⟩ ⟨s.put d v⟩ ⟨H⟩ ⟨K⟩⟩ := steps_ixV
end

theorem FN.of_compZ {P : Program} (hm : P.follows .mixedOrders = true) {f : FuncId} {xf : XF} (hf : compF P f = some xf) {args : List Value} {H : AH} {R : Value → AH → Prop} (hn : args.length ≤ xf.n)
    (h : @XZ P xf.n none xf.body ⟨⟨env0 args, []⟩⟩ ⟨H⟩ ⟨bodyX xf.res R⟩) : FN P f args H R := FN.of_comp hm hf hn h
theorem FZ.mono {P : Program} {g : FuncId} {args : List Value} {H : AH} {R R' : Value → AH → Prop} (h : FN P g args H R) (hR : ∀ v H', R v H' → R' v H') : @FZ P g args H ⟨R'⟩ := FN.mono h hR
theorem FZ.use {P : Program} {g : FuncId} {args : List Value} {H H' : AH} {v : Value} {R : Value → AH → Prop} (h : FN P g args H (fun v1 H1 => v1 = v ∧ H1 = H')) (hR : R v H') : @FZ P g args H ⟨R⟩ :=
  FN.mono h fun _ _ ⟨e1, e2⟩ => by rw [e1, e2]; exact hR
theorem LZ.nat {P : Program} {n : Nat} {ro : Option Nat} {c : XC} {s : St} {H : AH} {Q : AX → St → AH → Prop} (N : Nat) (I : Nat → St → AH → Prop) (h0 : I 0 s H)
    (hr : ∀ k s H, k < N → I k s H → @XZ P n ro c ⟨s⟩ ⟨H⟩ ⟨AX.then (I (k + 1)) Q⟩) (hN : ∀ s H, I N s H → @XZ P n ro c ⟨s⟩ ⟨H⟩ ⟨AX.then (fun _ _ => False) Q⟩) : @LZ P n ro c ⟨s⟩ ⟨H⟩ ⟨Q⟩ := loop_nat N I h0 hr hN
theorem LZ.ind {P : Program} {n : Nat} {ro : Option Nat} {c : XC} {s : St} {H : AH} {Q : AX → St → AH → Prop} (I : Nat → St → AH → Prop) (m : Nat) (h0 : I m s H)
    (hr : ∀ m s H, I m s H → @XZ P n ro c ⟨s⟩ ⟨H⟩ ⟨AX.then (fun s' H' => ∃ m', m' < m ∧ I m' s' H') Q⟩) : @LZ P n ro c ⟨s⟩ ⟨H⟩ ⟨Q⟩ := loop_ind I m h0 hr

end Go.Sim
