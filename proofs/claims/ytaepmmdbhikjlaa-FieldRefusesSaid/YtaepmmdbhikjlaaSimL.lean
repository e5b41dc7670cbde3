/- The semantic simulation logic, part 12: operations with all types looked up, as functions of the heap and the values. -/
import Derived.Test.YtaepmmdbhikjlaaSimK
namespace Go.Sim
open Go

inductive XO where
  | mov
  | pick
  | bin (op : BinOp) (m : Nat)
  | un (op : UnOp)
  | conv (k : IntKind)
  | ext (ix : Nat)
  | ld (sz : Option Nat)
  | new (c : List Value) (e : TypeId)
  | box (e : TypeId)
  | st (sz : Nat)
  | fld (off : Nat)
  | ixA (len sz : Nat)
  | ixS (sz : Nat)
  | slA (len sz : Nat) (lo hi : Bool)
  | slS (sz : Nat) (lo hi : Bool)
  | make (z : Value) (sz bytes : Nat) (e : TypeId)
  | bsl (init : List Value) (len : Nat) (pl : List (Nat × Nat)) (e : TypeId)
  | fn (g : FuncId) (nf nc : Nat)
  | lenA (n : Nat)
  | lenS
  | lenT
  | min2
  | max2
  | app (e : TypeId) (sz bytes : Nat)
  | bld (init : List Value) (pl : List (Nat × Nat))
  | prt (sz : Option Nat) (off : Nat)
  | ixV (len es : Nat) (sz : Option Nat)
  | call
  deriving Inhabited

/-- The cells of a value. -/
def cellsL : Value → List Value
  | .agg cs => cs.toList
  | v => [v]
theorem cellsL_eq (v : Value) : cellsL v = v.cells.toList := by cases v <;> rfl

/-- Cells in the place of others; one cell alone by List.set. -/
def putL (c : List Value) (off : Nat) : List Value → List Value
  | [v] => c.set off v
  | vs => splice c off vs
theorem putL_eq {c : List Value} {off : Nat} {vs : List Value} (h : off + vs.length ≤ c.length) : putL c off vs = splice c off vs := by
  unfold putL
  split
  · rename_i v
    simp at h
    unfold splice
    rw [List.set_eq_take_append_cons_drop, if_pos (by omega)]
    simp
  · rfl

def xfill (c : List Value) : List (Nat × Nat) → List Value → Option (List Value)
  | (off, n) :: pl, v :: vs => if (cellsL v).length = n ∧ off + n ≤ c.length then xfill (putL c off (cellsL v)) pl vs else none
  | [], [] => some c
  | _, _ => none

theorem fold_splice (off : Nat) : ∀ (l : List Value) (n : Nat) (a : Array Value), off + n + l.length ≤ a.size →
    ((l.zipIdx n).foldl (fun cs (x : Value × Nat) => cs.setIfInBounds (off + x.2) x.1) a).toList = splice a.toList (off + n) l
  | [], n, a, _ => by simp [splice]
  | x :: l, n, a, h => by
    simp only [List.zipIdx_cons, List.foldl_cons]
    simp at h
    rw [fold_splice off l (n + 1) _ (by simp; omega)]
    refine List.ext_getElem? fun k => ?_
    rw [splice_get _ _ _ _ (by simp; omega), splice_get _ _ _ _ (by simp; omega)]
    simp only [Array.toList_setIfInBounds, List.length_cons, List.getElem?_set]
    by_cases hk : off + n = k
    · subst hk
      have : off + n < a.size := by omega
      simp [this]
      intro h; omega
    · rw [if_neg hk]
      by_cases h1 : off + (n + 1) ≤ k ∧ k < off + (n + 1) + l.length
      · rw [if_pos h1, if_pos (by omega), show k - (off + n) = (k - (off + (n + 1))) + 1 by omega, List.getElem?_cons_succ]
      · rw [if_neg h1, if_neg (by omega)]

theorem xfill_fill {place : Nat → Option (Nat × Nat)} : ∀ (ps : List Nat) (vs : List Value) (pl : List (Nat × Nat)) (a : Array Value) (r : List Value), ps.mapM place = some pl → xfill a.toList pl vs = some r →
    Instr.fill place a (ps.zip vs) = some r.toArray
  | [], vs, pl, a, r, hp, h => by
    simp at hp
    subst hp
    cases vs with
    | nil => simp [xfill] at h; subst h; simp [Instr.fill]
    | cons v vs => simp [xfill] at h
  | p :: ps, [], pl, a, r, hp, h => by
    simp only [List.mapM_cons, Option.bind_eq_bind, Option.bind_eq_some_iff] at hp
    obtain ⟨x, h1, y, h2, h3⟩ := hp
    cases h3
    simp [xfill] at h
  | p :: ps, v :: vs, pl, a, r, hp, h => by
    simp only [List.mapM_cons, Option.bind_eq_bind, Option.bind_eq_some_iff] at hp
    obtain ⟨x, h1, y, h2, h3⟩ := hp
    cases h3
    obtain ⟨off, n⟩ := x
    simp only [xfill, cellsL_eq, Array.length_toList] at h
    split at h
    · rename_i hc
      simp only [List.zip_cons_cons, Instr.fill, h1]
      rw [if_neg (by simp; omega)]
      refine xfill_fill ps vs y _ r h2 ?_
      rw [← Array.foldl_toList, Array.toList_zipIdx, fold_splice _ _ _ _ (by simp; omega), Nat.add_zero]
      rw [putL_eq (by simp; omega)] at h
      exact h
    · cases h

/-! ### what they come to -/
def xbin (op : BinOp) (m : Nat) (x y : Value) : Option Value :=
  match op, x, y with
  | .shl, .int k a, .int _ b => if 0 ≤ b then some (.int k (k.wrap (a * 2 ^ (min b.toNat k.bits)))) else none
  | .shr, .int k a, .int _ b => if 0 ≤ b then some (.int k (a.fdiv (2 ^ (min b.toNat k.bits)))) else none
  | .add, .int k a, .int k' b => if k = k' then some (.int k (k.wrap (a + b))) else none
  | .sub, .int k a, .int k' b => if k = k' then some (.int k (k.wrap (a - b))) else none
  | .mul, .int k a, .int k' b => if k = k' then some (.int k (k.wrap (a * b))) else none
  | .quo, .int k a, .int k' b => if k = k' ∧ b ≠ 0 then some (.int k (k.wrap (a.tdiv b))) else none
  | .rem, .int k a, .int k' b => if k = k' ∧ b ≠ 0 then some (.int k (a.tmod b)) else none
  | .and, .int k a, .int k' b => if k = k' then some (.int k (k.wrap (BitVec.ofInt k.bits a &&& BitVec.ofInt k.bits b).toNat)) else none
  | .or, .int k a, .int k' b => if k = k' then some (.int k (k.wrap (BitVec.ofInt k.bits a ||| BitVec.ofInt k.bits b).toNat)) else none
  | .xor, .int k a, .int k' b => if k = k' then some (.int k (k.wrap (BitVec.ofInt k.bits a ^^^ BitVec.ofInt k.bits b).toNat)) else none
  | .andNot, .int k a, .int k' b => if k = k' then some (.int k (k.wrap (BitVec.ofInt k.bits a &&& ~~~ BitVec.ofInt k.bits b).toNat)) else none
  | .eql, .int k a, .int k' b => if k = k' then some (.bool (a == b)) else none
  | .neq, .int k a, .int k' b => if k = k' then some (.bool (a != b)) else none
  | .lss, .int k a, .int k' b => if k = k' then some (.bool (decide (a < b))) else none
  | .leq, .int k a, .int k' b => if k = k' then some (.bool (decide (a ≤ b))) else none
  | .gtr, .int k a, .int k' b => if k = k' then some (.bool (decide (a > b))) else none
  | .geq, .int k a, .int k' b => if k = k' then some (.bool (decide (a ≥ b))) else none
  | .eql, .bool a, .bool b => if m = 1 then some (.bool (a == b)) else none
  | .neq, .bool a, .bool b => if m = 1 then some (.bool (!(a == b))) else none
  | .eql, .slice a _ _, .slice none _ _ => if m = 2 then some (.bool a.isNone) else none
  | .neq, .slice a _ _, .slice none _ _ => if m = 2 then some (.bool (!a.isNone)) else none
  | _, _, _ => none

def isBoolT (P : Program) (t : TypeId) : Bool := P.underlying t matches some .bool
def binM (P : Program) (t : TypeId) : Nat := if isBoolT P t then 1 else if (slT P t).isSome then 2 else 0
theorem binM_1 {P : Program} {t : TypeId} (h : binM P t = 1) : (P.underlying t matches some .bool) = true := by
  unfold binM at h
  split at h
  · rename_i e; exact e
  · split at h <;> cases h
theorem binM_2 {P : Program} {t : TypeId} (h : binM P t = 2) : (slT P t).isSome = true := by
  unfold binM at h
  split at h
  · cases h
  · split at h
    · rename_i e; exact e
    · cases h
theorem xbin_ebin {P : Program} {op : BinOp} {t : TypeId} {x y r : Value} (h : xbin op (binM P t) x y = some r) : ebin P op t x y = some r := by
  unfold xbin at h
  split at h
  all_goals first
    | (simp only [ebin]; exact h)
    | (split at h
       · rename_i e; exact (if_pos (binM_1 e)).trans h
       · cases h)
    | (split at h
       · rename_i e; exact (if_pos (binM_2 e)).trans h
       · cases h)
    | cases h

/-- What an operation that only computes comes to. -/
def xpure (x : XO) (vs : List Value) : Option Value :=
  match x, vs with
  | .mov, [v] => some v
  | .pick, [.bool b, u, v] => some (if b then u else v)
  | .bin op m, [u, v] => xbin op m u v
  | .un op, [v] => eun op v
  | .conv k, [.int _ n] => some (.int k (k.wrap n))
  | .ext ix, [.tuple cs] => cs.toList[ix]?
  | .fld off, [.pointer (some a)] => if a.spot = none then some (.pointer (some ⟨a.block, a.off + off, none⟩)) else none
  | .ixA len sz, [.pointer (some a), .int _ n] => if a.spot = none ∧ 0 ≤ n ∧ n < len then some (.pointer (some ⟨a.block, a.off + n.toNat * sz, none⟩)) else none
  | .ixS sz, [.slice (some a) l _, .int _ n] => if a.spot = none ∧ 0 ≤ n ∧ n < l then some (.pointer (some ⟨a.block, a.off + n.toNat * sz, none⟩)) else none
  | .slA n sz lo hi, .pointer (some a) :: vs => match bnds lo hi vs with
    | some (l, h) => if a.spot = none ∧ 0 ≤ l.getD 0 ∧ l.getD 0 ≤ h.getD n ∧ h.getD n ≤ n then
          some (.slice (some (if n = (l.getD 0).toNat then a else ⟨a.block, a.off + (l.getD 0).toNat * sz, none⟩)) ((h.getD n).toNat - (l.getD 0).toNat) (n - (l.getD 0).toNat)) else none
    | none => none
  | .slS _ lo hi, .slice none 0 0 :: vs => match bnds lo hi vs with
    | some (l, h) => if l.getD 0 = 0 ∧ h.getD 0 = 0 then some (.slice none 0 0) else none
    | none => none
  | .slS sz lo hi, .slice (some a) n c :: vs => match bnds lo hi vs with
    | some (l, h) => if a.spot = none ∧ 0 ≤ l.getD 0 ∧ l.getD 0 ≤ h.getD n ∧ h.getD n ≤ c then
          (if l.getD 0 = 0 then some (.slice (some a) (h.getD n).toNat c)
           else if l.getD 0 < c then some (.slice (some ⟨a.block, a.off + (l.getD 0).toNat * sz, none⟩) ((h.getD n).toNat - (l.getD 0).toNat) (c - (l.getD 0).toNat))
           else some (.slice (some ⟨a.block, a.off, some 0⟩) 0 0)) else none
    | none => none
  | .fn g nf nc, vs => if vs.length = nf + nc then some (.func (.func g) (vs.take nf).toArray (vs.drop nf).toArray) else none
  | .lenA n, [_] => some (.int .i64 n)
  | .lenS, [.slice _ n _] => some (.int .i64 n)
  | .lenT, [.string s] => some (.int .i64 s.size)
  | .min2, [.int k a, .int k' b] => if k = k' then some (.int k (if b < a then b else a)) else none
  | .max2, [.int k a, .int k' b] => if k = k' then some (.int k (if a < b then b else a)) else none
  | .bld init pl, vs => (xfill init pl vs).map fun l => .agg l.toArray
  | .prt sz off, [.agg cs] => xpart sz cs.toList off
  | .ixV len es sz, [.agg cs, .int _ n] => if 0 ≤ n ∧ n < len then xpart sz cs.toList (n.toNat * es) else none
  | _, _ => none

/-- What is loaded. -/
def xload (sz : Option Nat) (H : AH) (vs : List Value) : Option Value :=
  match vs with
  | [.pointer (some a)] => match H[a.block]?, a.spot with
    | some (.cells c _ _ _), none => xpart sz c a.off
    | _, _ => none
  | _ => none

/-- New memory. -/
def xnew (x : XO) (vs : List Value) : Option (List Value × TypeId × (Nat → Value)) :=
  match x, vs with
  | .new c e, [] => some (c, e, mkPtr)
  | .box e, [v] => some (cellsL v, e, mkPtr)
  | .make z sz bytes e, [.int _ l, .int _ c] => if 0 ≤ l ∧ l ≤ c ∧ (bytes : Int) * c ≤ 281474976710656 ∧ c ≤ 9223372036854775807 then some (madeL z (c.toNat * sz), e, mkSl l.toNat c.toNat) else none
  | .bsl init len pl e, vs => match xfill init pl vs with
    | some l => some (l, e, mkSl len len)
    | none => none
  | _, _ => none

/-- What acts on the heap. -/
def xact (x : XO) (H : AH) (vs : List Value) : Option (Value × AH) :=
  match x, vs with
  | .st sz, [.pointer (some a), v] => match H[a.block]?, a.spot with
    | some (.cells c e o false), none => if (cellsL v).length = sz ∧ (cellsL v).all one ∧ a.off + sz ≤ c.length then some (undef, H.set a.block (.cells (putL c a.off (cellsL v)) e o false)) else none
    | _, _ => none
  | .app e sz bytes, [s, u] => match erow H u (slen u * sz) with
    | some new => if (slen s + slen u) * bytes ≤ 140737488355328 ∧ slen s + slen u ≤ 9223372036854775807 ∧ new.all one then
        (match s with
        | .slice none 0 0 => if slen u = 0 then some (.slice none 0 0, H) else some (.slice (some ⟨H.length, 0, none⟩) (slen u) (slen u), H ++ [.cells new e (some sz) false])
        | .slice (some a) l c =>
          (match H[a.block]?, a.spot with
          | some (.cells cc e' opn ro), none =>
            if l + slen u ≤ c then
              if slen u = 0 then some (.slice (some a) l c, H)
              else if ro = false ∧ a.off + l * sz + new.length ≤ cc.length then some (.slice (some a) (l + slen u) c, H.set a.block (.cells (putL cc (a.off + l * sz) new) e' opn false)) else none
            else if opn = none then
              if a.off + l * sz ≤ cc.length then some (.slice (some ⟨H.length, 0, none⟩) (l + slen u) (l + slen u), H ++ [.cells ((cc.drop a.off).take (l * sz) ++ new) e (some sz) false]) else none
            else if ro = false ∧ opn = some sz ∧ l = c ∧ a.off = 0 ∧ l * sz = cc.length ∧ e' = e then
              some (.slice (some ⟨H.length, 0, none⟩) (l + slen u) (l + slen u), H.set a.block .dead ++ [.cells (cc ++ new) e (some sz) false]) else none
          | _, _ => none)
        | _ => none) else none
    | none => none
  | _, _ => none

end Go.Sim
