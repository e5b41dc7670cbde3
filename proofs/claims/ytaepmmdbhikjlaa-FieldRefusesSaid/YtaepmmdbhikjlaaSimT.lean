/- The semantic simulation logic, part 20: natural numbers, and rows of them. -/
import Derived.Test.YtaepmmdbhikjlaaSimS
namespace Go.Sim
open Go

section
variable {a b m : Nat} {k : IntKind}
theorem xbin_addN (h : a + b < 9223372036854775808) : xbin .add m (nv a) (nv b) = some (nv (a + b)) := by
  rw [xbin_add, wrap64 (by omega) (by omega)]; rfl
theorem xbin_subN (h : b ≤ a) (h2 : a < 9223372036854775808) : xbin .sub m (nv a) (nv b) = some (nv (a - b)) := by
  rw [xbin_sub, wrap64 (by omega) (by omega)]; congr 2; omega
theorem xbin_mulN (h : a * b < 9223372036854775808) : xbin .mul m (nv a) (nv b) = some (nv (a * b)) := by
  have : ((a : Int) * b) = ((a * b : Nat) : Int) := by simp
  rw [xbin_mul, this, wrap64 (by omega) (by omega)]
theorem xbin_quoN (h : b ≠ 0) (h2 : a < 9223372036854775808) : xbin .quo m (nv a) (nv b) = some (nv (a / b)) := by
  have e : ((a : Int).tdiv b) = ((a / b : Nat) : Int) := _root_.id rfl
  have : a / b ≤ a := Nat.div_le_self a b
  rw [xbin_quo (by omega), e]
  generalize a / b = q at *
  rw [wrap64 (by omega) (by omega)]
theorem xbin_remN (h : b ≠ 0) : xbin .rem m (.int k a) (.int k b) = some (.int k ((a % b : Nat) : Int)) := by
  rw [xbin_rem (by omega)]
  rfl
theorem xbin_eqlN : xbin .eql m (.int k a) (.int k b) = some (.bool (decide (a = b))) := by rw [xbin_eql]; congr 2; simp [Int.ofNat_inj]
theorem xbin_neqN : xbin .neq m (.int k a) (.int k b) = some (.bool (decide (a ≠ b))) := by rw [xbin_neq]; congr 2; simp [Int.ofNat_inj]
theorem xbin_lssN : xbin .lss m (.int k a) (.int k b) = some (.bool (decide (a < b))) := by rw [xbin_lss]; congr 2; simp
theorem xbin_leqN : xbin .leq m (.int k a) (.int k b) = some (.bool (decide (a ≤ b))) := by rw [xbin_leq]; congr 2; simp
theorem xbin_gtrN : xbin .gtr m (.int k a) (.int k b) = some (.bool (decide (b < a))) := by rw [xbin_gtr]; congr 2; simp
theorem xbin_geqN : xbin .geq m (.int k a) (.int k b) = some (.bool (decide (b ≤ a))) := by rw [xbin_geq]; congr 2; simp
theorem xp_ixAN {bl o len sz : Nat} (h1 : a < len) : xpure (.ixA len sz) [.pointer (some ⟨bl, o, none⟩), .int k a] = some (.pointer (some ⟨bl, o + a * sz, none⟩)) := by
  rw [xp_ixA' (by omega) (by omega)]; rfl
theorem xp_ixSN {bl o l c sz : Nat} (h1 : a < l) : xpure (.ixS sz) [.slice (some ⟨bl, o, none⟩) l c, .int k a] = some (.pointer (some ⟨bl, o + a * sz, none⟩)) := by
  rw [xp_ixS' (by omega) (by omega)]; rfl
theorem xp_convN (h : a < 9223372036854775808) : xpure (.conv .i64) [.int k a] = some (nv a) := by rw [xp_conv', wrap64 (by omega) (by omega)]
theorem xp_min2N : xpure .min2 [nv a, nv b] = some (nv (min a b)) := by
  rw [xp_min2']; congr 2
  split <;> omega
theorem xp_max2N : xpure .max2 [nv a, nv b] = some (nv (max a b)) := by
  rw [xp_max2']; congr 2
  split <;> omega
end

/-! ### loads and stores, by the block -/
def loadB (sz : Option Nat) (x : Option AB) (o : Nat) : Option Value :=
  match x with
  | some (.cells c _ _ _) => xpart sz c o
  | _ => none
def stB (sz : Nat) (H : AH) (x : Option AB) (bl o : Nat) (v : Value) : Option (Value × AH) :=
  match x with
  | some (.cells c e op false) => if (cellsL v).length = sz ∧ (cellsL v).all one ∧ o + sz ≤ c.length then some (undef, H.set bl (.cells (putL c o (cellsL v)) e op false)) else none
  | _ => none
theorem xload_ptr {sz : Option Nat} {H : AH} {bl o : Nat} : xload sz H [.pointer (some ⟨bl, o, none⟩)] = loadB sz H[bl]? o := by
  unfold xload loadB
  simp only
  split
  · rename_i h _; rw [h]
  · rename_i h
    split
    · rename_i e; exact absurd rfl (h _ _ _ _ e)
    · rfl
theorem xact_st {sz : Nat} {H : AH} {bl o : Nat} {v : Value} : xact (.st sz) H [.pointer (some ⟨bl, o, none⟩), v] = stB sz H H[bl]? bl o v := by
  unfold xact stB
  simp only
  split
  · rename_i h _; rw [h]
  · rename_i h
    split
    · rename_i e; exact absurd rfl (h _ _ _ e)
    · rfl

section
variable {H : AH} {c c' : List Value} {e : TypeId} {op : Option Nat} {r : Bool} {o n bl x : Nat} {l : List Nat}
theorem loadB_one : loadB none (some (.cells c e op r)) o = c[o]? := _root_.id rfl
theorem loadB_c0 {v : Value} : loadB none (some (.cells (v :: c) e op r)) 0 = some v := _root_.id rfl
theorem loadB_cs {v : Value} : loadB none (some (.cells (v :: c) e op r)) (o + 1) = loadB none (some (.cells c e op r)) o := _root_.id rfl
theorem loadB_c1 {v v1 : Value} : loadB none (some (.cells (v :: v1 :: c) e op r)) 1 = some v1 := _root_.id rfl
theorem loadB_c2 {v v1 v2 : Value} : loadB none (some (.cells (v :: v1 :: v2 :: c) e op r)) 2 = some v2 := _root_.id rfl
theorem loadB_c3 {v v1 v2 v3 : Value} : loadB none (some (.cells (v :: v1 :: v2 :: v3 :: c) e op r)) 3 = some v3 := _root_.id rfl
theorem cellsL_agg : cellsL (.agg c.toArray) = c := _root_.id rfl
theorem cellsL_int {k : IntKind} {i : Int} : cellsL (.int k i) = [.int k i] := _root_.id rfl
theorem cellsL_bool {b : Bool} : cellsL (.bool b) = [.bool b] := _root_.id rfl
theorem cellsL_slice {a : Option Addr} {n m : Nat} : cellsL (.slice a n m) = [.slice a n m] := _root_.id rfl
theorem loadB_nv (h : o < l.length) : loadB none (some (.cells (l.map nv) e op r)) o = some (nv (l.getD o 0)) := by
  simp [loadB, xpart, h]
theorem loadB_all (h : c.length = n) : loadB (some n) (some (.cells c e op r)) 0 = some (.agg c.toArray) := by
  subst h
  simp [loadB, xpart]
theorem stB_one {v : Value} (h1 : cellsL v = [v]) (h2 : one v = true) (h : o < c.length) : stB 1 H (some (.cells c e op false)) bl o v = some (undef, H.set bl (.cells (c.set o v) e op false)) := by
  unfold stB
  simp only [h1]
  rw [if_pos ⟨rfl, by simp [h2], by omega⟩]
  rfl
theorem stB_int {k : IntKind} {i : Int} (h : o < c.length) : stB 1 H (some (.cells c e op false)) bl o (.int k i) = some (undef, H.set bl (.cells (c.set o (.int k i)) e op false)) := stB_one rfl rfl h
theorem stB_intL {k : IntKind} {i : Int} {v : Value} (h : o < (v :: c).length) : stB 1 H (some (.cells (v :: c) e op false)) bl o (.int k i) = some (undef, H.set bl (.cells ((v :: c).set o (.int k i)) e op false)) := stB_one rfl rfl h
theorem map_set_nv : (l.map nv).set o (nv x) = (l.set o x).map nv := by rw [List.map_set]
theorem stB_nv (h : o < l.length) : stB 1 H (some (.cells (l.map nv) e op false)) bl o (nv x) = some (undef, H.set bl (.cells ((l.set o x).map nv) e op false)) := by
  rw [stB_int (by simpa using h), map_set_nv]
theorem stB_bool {b : Bool} (h : o < c.length) : stB 1 H (some (.cells c e op false)) bl o (.bool b) = some (undef, H.set bl (.cells (c.set o (.bool b)) e op false)) := stB_one rfl rfl h
theorem stB_slice {ad : Option Addr} {ln cp : Nat} (h : o < c.length) : stB 1 H (some (.cells c e op false)) bl o (.slice ad ln cp) = some (undef, H.set bl (.cells (c.set o (.slice ad ln cp)) e op false)) := stB_one rfl rfl h
theorem stB_all (h1 : c'.length = n) (h2 : c.length = n) (h3 : c'.all one = true) : stB n H (some (.cells c e op false)) bl 0 (.agg c'.toArray) = some (undef, H.set bl (.cells c' e op false)) := by
  have hc : cellsL (.agg c'.toArray) = c' := _root_.id rfl
  unfold stB
  simp only [hc]
  rw [if_pos ⟨h1, h3, by omega⟩, putL_eq (by omega)]
  unfold splice
  simp
  have : c.drop c'.length = [] := by apply List.drop_eq_nil_of_le; omega
  rw [this]; simp
theorem all_nv : ((l.map nv).all one) = true := by simp [one]
theorem ground_nv : ground (.agg (l.map nv).toArray) = true := by simp [ground, scal]
theorem ground_int {k : IntKind} {i : Int} : ground (.int k i) = true := _root_.id rfl
theorem ground_bool {b : Bool} : ground (.bool b) = true := _root_.id rfl
end

/-- What a function's results are, if there is one. -/
theorem xres_cell {H : AH} {s : St} {a : Tmp} {sz : Option Nat} : xres H s (.cell a sz) = xload sz H [s.env a] := _root_.id rfl
theorem xres_tmp {H : AH} {s : St} {a : Tmp} : xres H s (.tmp a) = some (s.env a) := _root_.id rfl
theorem xress_one {H : AH} {s : St} {r : XRes} : xress H s [r] = xres H s r := by
  unfold xress
  simp only [List.mapM_cons, List.mapM_nil, Option.pure_def, Option.bind_eq_bind, Option.bind_some]
  cases xres H s r <;> rfl
def tup2 (a b : Option Value) : Option Value := a.bind fun x => b.bind fun y => some (.tuple [x, y].toArray)
theorem tup2_some {x y : Value} : tup2 (some x) (some y) = some (.tuple [x, y].toArray) := _root_.id rfl
theorem xress_two {H : AH} {s : St} {r q : XRes} : xress H s [r, q] = tup2 (xres H s r) (xres H s q) := by
  unfold xress tup2
  simp only [List.mapM_cons, List.mapM_nil, Option.pure_def, Option.bind_eq_bind, Option.bind_some]
  cases xres H s r
  · rfl
  · cases xres H s q <;> rfl
theorem bodyX_normal {res : List XRes} {R : Value → AH → Prop} {s : St} {H : AH} : bodyX res R .normal s H = ∃ H', unwA s.ds H = some H' ∧ ∃ v, xress H' s res = some v ∧ R v H' := by
  simp only [bodyX, exists_and_left]
theorem bodyX_ret {res : List XRes} {R : Value → AH → Prop} {s : St} {H : AH} : bodyX res R .ret s H = ∃ H', unwA s.ds H = some H' ∧ ∃ v, xress H' s res = some v ∧ R v H' := by
  simp only [bodyX, exists_and_left]
theorem ex_some {α : Type} {a : α} {R : α → Prop} : (∃ v, some a = some v ∧ R v) = R a := by simp
theorem ex_pair {α β : Type} {a : α} {b : β} {R : α → β → Prop} : (∃ v w, some (a, b) = some (v, w) ∧ R v w) = R a b := by
  apply propext
  constructor
  · rintro ⟨v, w, h, hr⟩; cases h; exact hr
  · intro h; exact ⟨a, b, rfl, h⟩
theorem ex_trip {α β γ : Type} {a : α} {b : β} {c : γ} {R : α → β → γ → Prop} : (∃ u v w, some (a, b, c) = some (u, v, w) ∧ R u v w) = R a b c := by
  apply propext
  constructor
  · rintro ⟨u, v, w, h, hr⟩; cases h; exact hr
  · intro h; exact ⟨a, b, c, rfl, h⟩
theorem ex_bool {a : Bool} {R : Bool → Prop} : (∃ v, Value.bool a = Value.bool v ∧ R v) = R a := by
  apply propext
  constructor
  · rintro ⟨v, h, hr⟩; cases h; exact hr
  · intro h; exact ⟨a, rfl, h⟩
theorem unwA_nil {H : AH} : unwA [] H = some H := _root_.id rfl

end Go.Sim
