/- Part of the proof: SimL, SimM, SimN, SimO, SimP, SimQ, SimR, SimS, SimT. -/
import Derived.Test.YtgcoidbhikfdkaaSSimGToSimK
import Derived.Test.YtgcoidbhikfdkaaSSimF2
set_option linter.all false
namespace Go.Sim
open Go
inductive XO where
  | mov
  | pick
  | bin (op : BinOp) (m : Nat)
  | un (op : UnOp)
  | conv (k : IntKind)
  | ext (ix : Nat)
  | ld (sz : Option Nat)
  | new (c : List Value) (e : TypeId)
  | box (e : TypeId)
  | st (sz : Nat)
  | fld (off : Nat)
  | ixA (len sz : Nat)
  | ixS (sz : Nat)
  | slA (len sz : Nat) (lo hi : Bool)
  | slS (sz : Nat) (lo hi : Bool)
  | make (z : Value) (sz bytes : Nat) (e : TypeId)
  | bsl (init : List Value) (len : Nat) (pl : List (Nat × Nat)) (e : TypeId)
  | fn (g : FuncId) (nf nc : Nat)
  | lenA (n : Nat)
  | lenS
  | lenT
  | min2
  | max2
  | app (e : TypeId) (sz bytes : Nat)
  | bld (init : List Value) (pl : List (Nat × Nat))
  | prt (sz : Option Nat) (off : Nat)
  | ixV (len es : Nat) (sz : Option Nat)
  | call
  | nilc
  | bad
  | cpy (sz : Nat)
  | apz (z : List Value) (sz bytes : Nat) (e : TypeId)
  | capN
  deriving Inhabited
def cellsL : Value → List Value
  | .agg cs => cs.toList
  | v => [v]
theorem cellsL_eq (v : Value) : cellsL v = v.cells.toList := by cases v <;> rfl
def putL (c : List Value) (off : Nat) : List Value → List Value
  | [v] => c.set off v
  | vs => splice c off vs
theorem putL_eq {c : List Value} {off : Nat} {vs : List Value} (h : off + vs.length ≤ c.length) : putL c off vs = splice c off vs := by
  unfold putL
  split
  · rename_i v
    simp at h
    unfold splice
    rw [List.set_eq_take_append_cons_drop, if_pos (by omega)]
    simp
  · rfl
def xfill (c : List Value) : List (Nat × Nat) → List Value → Option (List Value)
  | (off, n) :: pl, v :: vs => if (cellsL v).length = n ∧ off + n ≤ c.length then xfill (putL c off (cellsL v)) pl vs else none
  | [], [] => some c
  | _, _ => none
theorem fold_splice (off : Nat) : ∀ (l : List Value) (n : Nat) (a : Array Value), off + n + l.length ≤ a.size →
    ((l.zipIdx n).foldl (fun cs (x : Value × Nat) => cs.setIfInBounds (off + x.2) x.1) a).toList = splice a.toList (off + n) l
  | [], n, a, _ => by simp [splice]
  | x :: l, n, a, h => by
    simp only [List.zipIdx_cons, List.foldl_cons]
    simp at h
    rw [fold_splice off l (n + 1) _ (by simp; omega)]
    refine List.ext_getElem? fun k => ?_
    rw [splice_get _ _ _ _ (by simp; omega), splice_get _ _ _ _ (by simp; omega)]
    simp only [Array.toList_setIfInBounds, List.length_cons, List.getElem?_set]
    by_cases hk : off + n = k
    · subst hk
      have : off + n < a.size := by omega
      simp [this]
      intro h; omega
    · rw [if_neg hk]
      by_cases h1 : off + (n + 1) ≤ k ∧ k < off + (n + 1) + l.length
      · rw [if_pos h1, if_pos (by omega), show k - (off + n) = (k - (off + (n + 1))) + 1 by omega, List.getElem?_cons_succ]
      · rw [if_neg h1, if_neg (by omega)]
theorem xfill_fill {place : Nat → Option (Nat × Nat)} : ∀ (ps : List Nat) (vs : List Value) (pl : List (Nat × Nat)) (a : Array Value) (r : List Value), ps.mapM place = some pl → xfill a.toList pl vs = some r →
    Instr.fill place a (ps.zip vs) = some r.toArray
  | [], vs, pl, a, r, hp, h => by
    simp at hp
    subst hp
    cases vs with
    | nil => simp [xfill] at h; subst h; simp [Instr.fill]
    | cons v vs => simp [xfill] at h
  | p :: ps, [], pl, a, r, hp, h => by
    simp only [List.mapM_cons, Option.bind_eq_bind, Option.bind_eq_some_iff] at hp
    obtain ⟨x, h1, y, h2, h3⟩ := hp
    cases h3
    simp [xfill] at h
  | p :: ps, v :: vs, pl, a, r, hp, h => by
    simp only [List.mapM_cons, Option.bind_eq_bind, Option.bind_eq_some_iff] at hp
    obtain ⟨x, h1, y, h2, h3⟩ := hp
    cases h3
    obtain ⟨off, n⟩ := x
    simp only [xfill, cellsL_eq, Array.length_toList] at h
    split at h
    · rename_i hc
      simp only [List.zip_cons_cons, Instr.fill, h1]
      rw [if_neg (by simp; omega)]
      refine xfill_fill ps vs y _ r h2 ?_
      rw [← Array.foldl_toList, Array.toList_zipIdx, fold_splice _ _ _ _ (by simp; omega), Nat.add_zero]
      rw [putL_eq (by simp; omega)] at h
      exact h
    · cases h
def xbin (op : BinOp) (m : Nat) (x y : Value) : Option Value :=
  match op, x, y with
  | .shl, .int k a, .int _ b => if 0 ≤ b then some (.int k (k.wrap (a * 2 ^ (min b.toNat k.bits)))) else none
  | .shr, .int k a, .int _ b => if 0 ≤ b then some (.int k (a.fdiv (2 ^ (min b.toNat k.bits)))) else none
  | .add, .int k a, .int k' b => if k = k' then some (.int k (k.wrap (a + b))) else none
  | .sub, .int k a, .int k' b => if k = k' then some (.int k (k.wrap (a - b))) else none
  | .mul, .int k a, .int k' b => if k = k' then some (.int k (k.wrap (a * b))) else none
  | .quo, .int k a, .int k' b => if k = k' ∧ b ≠ 0 then some (.int k (k.wrap (a.tdiv b))) else none
  | .rem, .int k a, .int k' b => if k = k' ∧ b ≠ 0 then some (.int k (a.tmod b)) else none
  | .and, .int k a, .int k' b => if k = k' then some (.int k (k.wrap (BitVec.ofInt k.bits a &&& BitVec.ofInt k.bits b).toNat)) else none
  | .or, .int k a, .int k' b => if k = k' then some (.int k (k.wrap (BitVec.ofInt k.bits a ||| BitVec.ofInt k.bits b).toNat)) else none
  | .xor, .int k a, .int k' b => if k = k' then some (.int k (k.wrap (BitVec.ofInt k.bits a ^^^ BitVec.ofInt k.bits b).toNat)) else none
  | .andNot, .int k a, .int k' b => if k = k' then some (.int k (k.wrap (BitVec.ofInt k.bits a &&& ~~~ BitVec.ofInt k.bits b).toNat)) else none
  | .eql, .int k a, .int k' b => if k = k' then some (.bool (a == b)) else none
  | .neq, .int k a, .int k' b => if k = k' then some (.bool (a != b)) else none
  | .lss, .int k a, .int k' b => if k = k' then some (.bool (decide (a < b))) else none
  | .leq, .int k a, .int k' b => if k = k' then some (.bool (decide (a ≤ b))) else none
  | .gtr, .int k a, .int k' b => if k = k' then some (.bool (decide (a > b))) else none
  | .geq, .int k a, .int k' b => if k = k' then some (.bool (decide (a ≥ b))) else none
  | .eql, .bool a, .bool b => if m = 1 then some (.bool (a == b)) else none
  | .neq, .bool a, .bool b => if m = 1 then some (.bool (!(a == b))) else none
  | .eql, .slice a _ _, .slice none _ _ => if m = 2 then some (.bool a.isNone) else none
  | .neq, .slice a _ _, .slice none _ _ => if m = 2 then some (.bool (!a.isNone)) else none
  | _, _, _ => none
def isBoolT (P : Program) (t : TypeId) : Bool := P.underlying t matches some .bool
def binM (P : Program) (t : TypeId) : Nat := if isBoolT P t then 1 else if (slT P t).isSome then 2 else 0
theorem binM_1 {P : Program} {t : TypeId} (h : binM P t = 1) : (P.underlying t matches some .bool) = true := by
  unfold binM at h
  split at h
  · rename_i e; exact e
  · split at h <;> cases h
theorem binM_2 {P : Program} {t : TypeId} (h : binM P t = 2) : (slT P t).isSome = true := by
  unfold binM at h
  split at h
  · cases h
  · split at h
    · rename_i e; exact e
    · cases h
theorem xbin_ebin {P : Program} {op : BinOp} {t : TypeId} {x y r : Value} (h : xbin op (binM P t) x y = some r) : ebin P op t x y = some r := by
  unfold xbin at h
  split at h
  all_goals first
    | (simp only [ebin]; exact h)
    | (split at h
       · rename_i e; exact (if_pos (binM_1 e)).trans h
       · cases h)
    | (split at h
       · rename_i e; exact (if_pos (binM_2 e)).trans h
       · cases h)
    | cases h
def xpure (x : XO) (vs : List Value) : Option Value :=
  match x, vs with
  | .mov, [v] => some v
  | .pick, [.bool b, u, v] => some (if b then u else v)
  | .bin op m, [u, v] => xbin op m u v
  | .un op, [v] => eun op v
  | .conv k, [.int _ n] => some (.int k (k.wrap n))
  | .ext ix, [.tuple cs] => cs.toList[ix]?
  | .fld off, [.pointer (some a)] => if a.spot = none then some (.pointer (some ⟨a.block, a.off + off, none⟩)) else none
  | .ixA len sz, [.pointer (some a), .int _ n] => if a.spot = none ∧ 0 ≤ n ∧ n < len then some (.pointer (some ⟨a.block, a.off + n.toNat * sz, none⟩)) else none
  | .ixS sz, [.slice (some a) l _, .int _ n] => if a.spot = none ∧ 0 ≤ n ∧ n < l then some (.pointer (some ⟨a.block, a.off + n.toNat * sz, none⟩)) else none
  | .slA n sz lo hi, .pointer (some a) :: vs => match bnds lo hi vs with
    | some (l, h) => if a.spot = none ∧ 0 ≤ l.getD 0 ∧ l.getD 0 ≤ h.getD n ∧ h.getD n ≤ n then
          some (.slice (some (if n = (l.getD 0).toNat then a else ⟨a.block, a.off + (l.getD 0).toNat * sz, none⟩)) ((h.getD n).toNat - (l.getD 0).toNat) (n - (l.getD 0).toNat)) else none
    | none => none
  | .slS _ lo hi, .slice none 0 0 :: vs => match bnds lo hi vs with
    | some (l, h) => if l.getD 0 = 0 ∧ h.getD 0 = 0 then some (.slice none 0 0) else none
    | none => none
  | .slS sz lo hi, .slice (some a) n c :: vs => match bnds lo hi vs with
    | some (l, h) => if a.spot = none ∧ 0 ≤ l.getD 0 ∧ l.getD 0 ≤ h.getD n ∧ h.getD n ≤ c then
          (if l.getD 0 = 0 then some (.slice (some a) (h.getD n).toNat c)
           else if l.getD 0 < c then some (.slice (some ⟨a.block, a.off + (l.getD 0).toNat * sz, none⟩) ((h.getD n).toNat - (l.getD 0).toNat) (c - (l.getD 0).toNat))
           else some (.slice (some ⟨a.block, a.off, some 0⟩) 0 0)) else none
    | none => none
  | .fn g nf nc, vs => if vs.length = nf + nc then some (.func (.func g) (vs.take nf).toArray (vs.drop nf).toArray) else none
  | .lenA n, [_] => some (.int .i64 n)
  | .lenS, [.slice _ n _] => some (.int .i64 n)
  | .lenT, [.string s] => some (.int .i64 s.size)
  | .min2, [.int k a, .int k' b] => if k = k' then some (.int k (if b < a then b else a)) else none
  | .max2, [.int k a, .int k' b] => if k = k' then some (.int k (if a < b then b else a)) else none
  | .bld init pl, vs => (xfill init pl vs).map fun l => .agg l.toArray
  | .prt sz off, [.agg cs] => xpart sz cs.toList off
  | .ixV len es sz, [.agg cs, .int _ n] => if 0 ≤ n ∧ n < len then xpart sz cs.toList (n.toNat * es) else none
  | .nilc, [.pointer (some a)] => some (.pointer (some a))
  | .capN, [.slice none 0 0] => some (.int .i64 0)
  | _, _ => none
def xload (sz : Option Nat) (H : AH) (vs : List Value) : Option Value :=
  match vs with
  | [.pointer (some a)] => match H[a.block]?, a.spot with
    | some (.cells c _ _ _), none => xpart sz c a.off
    | _, _ => none
  | _ => none
def xnew (x : XO) (vs : List Value) : Option (List Value × TypeId × (Nat → Value)) :=
  match x, vs with
  | .new c e, [] => some (c, e, mkPtr)
  | .box e, [v] => some (cellsL v, e, mkPtr)
  | .make z sz bytes e, [.int _ l, .int _ c] => if 0 ≤ l ∧ l ≤ c ∧ (bytes : Int) * c ≤ 281474976710656 ∧ c ≤ 9223372036854775807 then some (madeL z (c.toNat * sz), e, mkSl l.toNat c.toNat) else none
  | .bsl init len pl e, vs => match xfill init pl vs with
    | some l => some (l, e, mkSl len len)
    | none => none
  | _, _ => none
def xact (x : XO) (H : AH) (vs : List Value) : Option (Value × AH) :=
  match x, vs with
  | .st sz, [.pointer (some a), v] => match H[a.block]?, a.spot with
    | some (.cells c e o false), none => if (cellsL v).length = sz ∧ (cellsL v).all one ∧ a.off + sz ≤ c.length then some (undef, H.set a.block (.cells (putL c a.off (cellsL v)) e o false)) else none
    | _, _ => none
  | .app e sz bytes, [s, u] => match erow H u (slen u * sz) with
    | some new => if (slen s + slen u) * bytes ≤ 140737488355328 ∧ slen s + slen u ≤ 9223372036854775807 ∧ new.all one then
        (match s with
        | .slice none 0 0 => if slen u = 0 then some (.slice none 0 0, H) else some (.slice (some ⟨H.length, 0, none⟩) (slen u) (slen u), H ++ [.cells new e (some sz) false])
        | .slice (some a) l c =>
          (match H[a.block]?, a.spot with
          | some (.cells cc e' opn ro), none =>
            if l + slen u ≤ c then
              if slen u = 0 then some (.slice (some a) l c, H)
              else if ro = false ∧ a.off + l * sz + new.length ≤ cc.length then some (.slice (some a) (l + slen u) c, H.set a.block (.cells (putL cc (a.off + l * sz) new) e' opn false)) else none
            else if opn = none then
              if a.off + l * sz ≤ cc.length then some (.slice (some ⟨H.length, 0, none⟩) (l + slen u) (l + slen u), H ++ [.cells ((cc.drop a.off).take (l * sz) ++ new) e (some sz) false]) else none
            else if ro = false ∧ opn = some sz ∧ l = c ∧ a.off = 0 ∧ l * sz = cc.length ∧ e' = e then
              some (.slice (some ⟨H.length, 0, none⟩) (l + slen u) (l + slen u), H.set a.block .dead ++ [.cells (cc ++ new) e (some sz) false]) else none
          | _, _ => none)
        | _ => none) else none
    | none => none
  | .cpy sz, [.slice (some a) l _, u] => match H[a.block]?, a.spot with
    | some (.cells cc e opn false), none => match erow H u (Nat.min (slen u) l * sz) with
      | some new => if new.all one ∧ a.off + new.length ≤ cc.length then some (.int .i64 (Nat.min (slen u) l : Nat), H.set a.block (.cells (splice cc a.off new) e opn false)) else none
      | none => none
    | _, _ => none
  | .apz z sz bytes e, [.slice none 0 0, .int .i64 n] => if 0 < n ∧ n * bytes ≤ 140737488355328 ∧ n ≤ 9223372036854775807 then some (.slice (some ⟨H.length, 0, none⟩) n.toNat n.toNat, H ++ [.cells (Builtin.zeroCells z.toArray n.toNat).toList e (some sz) false]) else none
  | _, _ => none
end Go.Sim

namespace Go.Sim
open Go
def cop0 (P : Program) (o : Oper) : Option XO :=
  match o.op with
  | .move _ => some .mov
  | .assign _ => some .mov
  | .pick _ _ _ => some .pick
  | .binOp op t _ _ _ => some (.bin op (binM P t))
  | .unOp op _ _ => some (.un op)
  | .convert s d _ => if (P.underlying s).isSome then (ikT P d).map .conv else none
  | .extract _ ix => some (.ext ix)
  | .load t _ => (partT P t).map .ld
  | .alloc e => match zeroT P e with
    | some z => if ground z then some (.new (cellsL z) e) else none
    | none => none
  | .box e _ => some (.box e)
  | .store t _ _ => (szT P t).map .st
  | .fieldAddr s _ f => (fldT P s f).map fun p => .fld p.1
  | .indexAddr t _ _ => match arrT P t with
    | some (n, e) => (szT P e).map fun sz => .ixA n sz
    | none => match slT P t with
      | some e => (szT P e).map fun sz => .ixS sz
      | none => none
  | .slice t _ lo hi none => match arrT P t with
    | some (n, e) => (szT P e).map fun sz => .slA n sz lo.isSome hi.isSome
    | none => match slT P t with
      | some e => (szT P e).map fun sz => .slS sz lo.isSome hi.isSome
      | none => none
  | .makeSlice t _ _ => match slT P t with
    | some e => match P.info? e with
      | some ti => match ti.zero with
        | some z => if z.cells.all scal ∧ 0 < z.cells.size then some (.make z ti.size ti.bytes e) else none
        | none => none
      | none => none
    | none => none
  | .buildSlice t len parts => match slT P t with
    | some e => match szT P e, zeroT P e with
      | some sz, some z => if len * sz ≤ 16777216 ∧ z.cells.all scal ∧ 0 < z.cells.size then some (.bsl (if len * sz = 0 then #[] else madeCells z.cells (len * sz)).toList len (parts.toList.map fun p => (p.1 * sz, sz)) e) else none
      | _, _ => none
    | none => none
  | .makeFunc (.func g) first cap => some (.fn g first.size cap.size)
  | .build t parts => match zeroT P t with
    | some z => if z.cells.all scal then
        match P.underlying t with
        | some (.struct fs) => match fs.toList.mapM (fun f => (szT P f.type).map fun n => (f.offset, n)) with
          | some pl => ((parts.toList.map (·.1)).mapM fun i => pl.toArray[i]?).map (.bld z.cells.toList)
          | none => none
        | some (.array _ e) => (szT P e).map fun sz => .bld z.cells.toList (parts.toList.map fun p => (p.1 * sz, sz))
        | _ => none
      else none
    | none => none
  | .field t _ f => match P.underlying t with
    | some (.struct fs) => match fs[f]? with
      | some fd => (partT P fd.type).map fun sz => .prt sz fd.offset
      | none => none
    | _ => none
  | .index t _ _ => match arrT P t with
    | some (len, e) => match szT P e, partT P e with
      | some es, some sz => some (.ixV len es sz)
      | _, _ => none
    | none => none
  | .call c => match c.callee with
    | .value _ => some .call
    | .builtin .len => match c.args.toList, c.argTypes.toList with
      | [_], [t] => match P.underlying t with
        | some .string => some .lenT
        | some (.slice _) => some .lenS
        | some (.array n _) => some (.lenA n)
        | _ => none
      | _, _ => none
    | .builtin .min => match c.args.toList with
      | [_, _] => some .min2
      | _ => none
    | .builtin .max => match c.args.toList with
      | [_, _] => some .max2
      | _ => none
    | .builtin .append => match c.args.toList, c.argTypes.toList with
      | [_, _], [t, t'] => match slT P t, slT P t' with
        | some e, some _ => match P.info? e with
          | some ti => match ti.zero with
            | some z => if z.cells.size = ti.size ∧ 0 < ti.size then some (.app e ti.size ti.bytes) else none
            | none => none
          | none => none
        | _, _ => none
      | _, _ => none
    | _ => none
  | _ => none
theorem call_eq {c : Call} {b : Builtin} {l : List Operand} {t : List TypeId} (h1 : c.callee = .builtin b) (h2 : c.args.toList = l) (h3 : c.argTypes.toList = t) : c = { callee := .builtin b, args := l.toArray, argTypes := t.toArray } := by
  cases c
  simp_all
  constructor <;> (apply Array.ext'; simp_all)
def ccopy (P : Program) (c : Call) : Option Nat := match c.callee with
  | .builtin .copy => match c.args.toList, c.argTypes.toList with
    | [_, _], [t, _] => match slT P t with
      | some e => szT P e
      | none => none
    | _, _ => none
  | _ => none
theorem ccopy_eq {P : Program} {c : Call} {sz : Nat} (h : ccopy P c = some sz) : ∃ x y t t' e, c = { callee := .builtin .copy, args := #[x, y], argTypes := #[t, t'] } ∧ slT P t = some e ∧ szT P e = some sz := by
  unfold ccopy at h
  split at h
  · rename_i hc
    split at h
    · rename_i x y t t' ha ht
      split at h
      · rename_i e he
        exact ⟨x, y, t, t', e, call_eq hc ha ht, he, h⟩
      · cases h
    · cases h
  · cases h
def cgrow (P : Program) (c : Call) : Option (List Value × Nat × Nat × TypeId) := match c.callee with
  | .builtin .append => match c.args.toList, c.argTypes.toList with
    | [_, _], [t, t'] => match P.underlying t, P.underlying t' with
      | some (.slice e), some (.int _) => match P.info? e with
        | some ti => match ti.zero with
          | some z => if z.cells.all scal = true ∧ z.cells.size = ti.size ∧ 0 < ti.size then some (z.cells.toList, ti.size, ti.bytes, e) else none
          | none => none
        | none => none
      | _, _ => none
    | _, _ => none
  | _ => none
theorem cgrow_eq {P : Program} {c : Call} {zl : List Value} {sz b : Nat} {e : TypeId} (h : cgrow P c = some (zl, sz, b, e)) : ∃ x y t t' k ti z, c = { callee := .builtin .append, args := #[x, y], argTypes := #[t, t'] } ∧ P.underlying t = some (.slice e) ∧ P.underlying t' = some (.int k) ∧ P.info? e = some ti ∧ ti.zero = some z ∧
    z.cells.all scal = true ∧ z.cells.size = ti.size ∧ 0 < ti.size ∧ zl = z.cells.toList ∧ sz = ti.size ∧ b = ti.bytes := by
  unfold cgrow at h
  split at h
  · rename_i hc
    split at h
    · rename_i x y t t' ha ht
      split at h
      · rename_i e' k h1 h2
        split at h
        · rename_i ti hti
          split at h
          · rename_i z hz
            split at h
            · rename_i hcond
              cases h
              exact ⟨x, y, t, t', k, ti, z, call_eq hc ha ht, h1, h2, hti, hz, hcond.1, hcond.2.1, hcond.2.2, rfl, rfl, rfl⟩
            · cases h
          · cases h
        · cases h
      · cases h
    · cases h
  · cases h
def ccap (P : Program) (c : Call) : Bool := match c.callee with
  | .builtin .cap => match c.args.toList, c.argTypes.toList with
    | [_], [t] => match P.underlying t with
      | some (.slice _) => true
      | _ => false
    | _, _ => false
  | _ => false
theorem ccap_eq {P : Program} {c : Call} (h : ccap P c = true) : ∃ x t e, c = { callee := .builtin .cap, args := #[x], argTypes := #[t] } ∧ P.underlying t = some (.slice e) := by
  unfold ccap at h
  split at h
  · rename_i hc
    split at h
    · rename_i x t ha ht
      split at h
      · rename_i e he; exact ⟨x, t, e, call_eq hc ha ht, he⟩
      · cases h
    · cases h
  · cases h
def cop (P : Program) (o : Oper) : Option XO :=
  match cop0 P o with
  | some x => some x
  | none => match o.op with
    | .nilCheck _ => some .nilc
    | .defer _ => none
    | .call c => match ccopy P c with
      | some sz => some (.cpy sz)
      | none => match cgrow P c with
        | some (z, sz, b, e) => some (.apz z sz b e)
        | none => if ccap P c = true then some .capN else some .bad
    | _ => some .bad
theorem cop_cases {P : Program} {o : Oper} {x : XO} (h : cop P o = some x) : cop0 P o = some x ∨ (x = .nilc ∧ ∃ a, o.op = .nilCheck a) ∨ (x = .bad ∧ ∀ c, o.op ≠ .defer c) ∨ (∃ sz c, x = .cpy sz ∧ o.op = .call c ∧ ccopy P c = some sz) ∨
    (∃ z sz b e c, x = .apz z sz b e ∧ o.op = .call c ∧ cgrow P c = some (z, sz, b, e)) ∨ (∃ c, x = .capN ∧ o.op = .call c ∧ ccap P c = true) := by
  unfold cop at h
  split at h
  · rename_i y hy; cases h; exact .inl hy
  · split at h
    · rename_i a ha; cases h; exact .inr (.inl ⟨rfl, a, ha⟩)
    · cases h
    · rename_i c hc
      split at h
      · rename_i sz hsz; cases h; exact .inr (.inr (.inr (.inl ⟨sz, c, rfl, hc, hsz⟩)))
      · split at h
        · rename_i z sz b e hg; cases h; exact .inr (.inr (.inr (.inr (.inl ⟨z, sz, b, e, c, rfl, hc, hg⟩))))
        · split at h
          · rename_i hcap; cases h; exact .inr (.inr (.inr (.inr (.inr ⟨c, rfl, hc, hcap⟩))))
          · cases h; exact .inr (.inr (.inl ⟨rfl, fun c' hc' => by rw [hc] at hc'; cases hc'⟩))
    · rename_i hd _; cases h; exact .inr (.inr (.inl ⟨rfl, hd⟩))
theorem cop_nd {P : Program} {o : Oper} {x : XO} (h : cop P o = some x) : ∀ c, o.op ≠ .defer c := by
  intro c hc
  rcases cop_cases h with h | ⟨_, a, ha⟩ | ⟨_, hd⟩ | ⟨_, _, _, ha, _⟩ | ⟨_, _, _, _, _, _, ha, _⟩ | ⟨_, _, ha, _⟩
  · simp [cop0, hc] at h
  · rw [hc] at ha; cases ha
  · exact hd c hc
  · rw [hc] at ha; cases ha
  · rw [hc] at ha; cases ha
  · rw [hc] at ha; cases ha
theorem map_mul_place (sz : Nat) : ∀ (l : List Nat), l.mapM (fun i => some (i * sz, sz)) = some (l.map fun i => (i * sz, sz))
  | [] => rfl
  | a :: l => by simp [List.mapM_cons, map_mul_place sz l]
section
variable {vs : List Value} {v : Value}
theorem xp_mov  (h : xpure (.mov) vs = some v) : vs = [v] := by
  rcases vs with _ | ⟨u, _ | ⟨u2, us⟩⟩ <;> first | (exfalso; simp [xpure] at h; done) | skip
  simp [xpure] at h; rw [h]
theorem xp_pick  (h : xpure (.pick) vs = some v) : ∃ b x y, vs = [.bool b, x, y] ∧ v = if b then x else y := by
  rcases vs with _ | ⟨u, _ | ⟨u2, _ | ⟨u3, _ | ⟨u4, us⟩⟩⟩⟩ <;> first | (exfalso; simp [xpure] at h; done) | skip
  cases u <;> first | (exfalso; simp [xpure] at h; done) | skip
  simp only [xpure, Option.some.injEq] at h
  exact ⟨_, _, _, rfl, h.symm⟩
theorem xp_bin {op : BinOp} {m : Nat} (h : xpure (.bin op m) vs = some v) : ∃ a b, vs = [a, b] ∧ xbin op m a b = some v := by
  rcases vs with _ | ⟨u, _ | ⟨u2, _ | ⟨u3, us⟩⟩⟩ <;> first | (exfalso; simp [xpure] at h; done) | skip
  exact ⟨_, _, rfl, h⟩
theorem xp_un {op : UnOp} (h : xpure (.un op) vs = some v) : ∃ a, vs = [a] ∧ eun op a = some v := by
  rcases vs with _ | ⟨u, _ | ⟨u2, us⟩⟩ <;> first | (exfalso; simp [xpure] at h; done) | skip
  exact ⟨_, rfl, h⟩
theorem xp_conv {k : IntKind} (h : xpure (.conv k) vs = some v) : ∃ k' n, vs = [.int k' n] ∧ v = .int k (k.wrap n) := by
  rcases vs with _ | ⟨u, _ | ⟨u2, us⟩⟩ <;> first | (exfalso; simp [xpure] at h; done) | skip
  cases u <;> first | (exfalso; simp [xpure] at h; done) | skip
  simp only [xpure, Option.some.injEq] at h
  exact ⟨_, _, rfl, h.symm⟩
theorem xp_ext {ix : Nat} (h : xpure (.ext ix) vs = some v) : ∃ cs : Array Value, vs = [.tuple cs] ∧ cs[ix]? = some v := by
  rcases vs with _ | ⟨u, _ | ⟨u2, us⟩⟩ <;> first | (exfalso; simp [xpure] at h; done) | skip
  cases u <;> first | (exfalso; simp [xpure] at h; done) | skip
  exact ⟨_, rfl, by simpa [xpure] using h⟩
theorem xp_fld {off : Nat} (h : xpure (.fld off) vs = some v) : ∃ a : Addr, vs = [.pointer (some a)] ∧ v = .pointer (some ⟨a.block, a.off + off, none⟩) := by
  rcases vs with _ | ⟨u, _ | ⟨u2, us⟩⟩ <;> first | (exfalso; simp [xpure] at h; done) | skip
  cases u <;> first | (exfalso; simp [xpure] at h; done) | skip
  rename_i a; cases a <;> first | (exfalso; simp [xpure] at h; done) | skip
  simp [xpure] at h
  exact ⟨_, rfl, h.2.symm⟩
theorem xp_ixA {len sz : Nat} (h : xpure (.ixA len sz) vs = some v) : ∃ (a : Addr) (k : IntKind) (n : Int), vs = [.pointer (some a), .int k n] ∧ a.spot = none ∧ 0 ≤ n ∧ n < len ∧ v = .pointer (some ⟨a.block, a.off + n.toNat * sz, none⟩) := by
  rcases vs with _ | ⟨u, _ | ⟨u2, _ | ⟨u3, us⟩⟩⟩ <;> first | (exfalso; simp [xpure] at h; done) | skip
  cases u <;> first | (exfalso; simp [xpure] at h; done) | skip
  rename_i a; cases a <;> first | (exfalso; simp [xpure] at h; done) | skip
  cases u2 <;> first | (exfalso; simp [xpure] at h; done) | skip
  simp [xpure] at h
  exact ⟨_, _, _, rfl, h.1.1, h.1.2.1, h.1.2.2, h.2.symm⟩
theorem xp_ixS {sz : Nat} (h : xpure (.ixS sz) vs = some v) : ∃ (a : Addr) (l c : Nat) (k : IntKind) (n : Int), vs = [.slice (some a) l c, .int k n] ∧ a.spot = none ∧ 0 ≤ n ∧ n < l ∧ v = .pointer (some ⟨a.block, a.off + n.toNat * sz, none⟩) := by
  rcases vs with _ | ⟨u, _ | ⟨u2, _ | ⟨u3, us⟩⟩⟩ <;> first | (exfalso; simp [xpure] at h; done) | skip
  cases u <;> first | (exfalso; simp [xpure] at h; done) | skip
  rename_i a _ _; cases a <;> first | (exfalso; simp [xpure] at h; done) | skip
  cases u2 <;> first | (exfalso; simp [xpure] at h; done) | skip
  simp [xpure] at h
  exact ⟨_, _, _, _, _, rfl, h.1.1, h.1.2.1, h.1.2.2, h.2.symm⟩
theorem xp_lenA {n : Nat} (h : xpure (.lenA n) vs = some v) : ∃ u, vs = [u] ∧ v = .int .i64 n := by
  rcases vs with _ | ⟨u, _ | ⟨u2, us⟩⟩ <;> first | (exfalso; simp [xpure] at h; done) | skip
  simp only [xpure, Option.some.injEq] at h
  exact ⟨_, rfl, h.symm⟩
theorem xp_lenS  (h : xpure (.lenS) vs = some v) : ∃ a n c, vs = [.slice a n c] ∧ v = .int .i64 n := by
  rcases vs with _ | ⟨u, _ | ⟨u2, us⟩⟩ <;> first | (exfalso; simp [xpure] at h; done) | skip
  cases u <;> first | (exfalso; simp [xpure] at h; done) | skip
  simp only [xpure, Option.some.injEq] at h
  exact ⟨_, _, _, rfl, h.symm⟩
theorem xp_lenT  (h : xpure (.lenT) vs = some v) : ∃ s : ByteArray, vs = [.string s] ∧ v = .int .i64 s.size := by
  rcases vs with _ | ⟨u, _ | ⟨u2, us⟩⟩ <;> first | (exfalso; simp [xpure] at h; done) | skip
  cases u <;> first | (exfalso; simp [xpure] at h; done) | skip
  simp only [xpure, Option.some.injEq] at h
  exact ⟨_, rfl, h.symm⟩
theorem xp_min2  (h : xpure (.min2) vs = some v) : ∃ (k : IntKind) (a b : Int), vs = [.int k a, .int k b] ∧ v = .int k (if b < a then b else a) := by
  rcases vs with _ | ⟨u, _ | ⟨u2, _ | ⟨u3, us⟩⟩⟩ <;> first | (exfalso; simp [xpure] at h; done) | skip
  cases u <;> first | (exfalso; simp [xpure] at h; done) | skip
  cases u2 <;> first | (exfalso; simp [xpure] at h; done) | skip
  simp only [xpure] at h
  split at h
  · rename_i e; subst e; cases h; exact ⟨_, _, _, rfl, rfl⟩
  · cases h
theorem xp_max2  (h : xpure (.max2) vs = some v) : ∃ (k : IntKind) (a b : Int), vs = [.int k a, .int k b] ∧ v = .int k (if a < b then b else a) := by
  rcases vs with _ | ⟨u, _ | ⟨u2, _ | ⟨u3, us⟩⟩⟩ <;> first | (exfalso; simp [xpure] at h; done) | skip
  cases u <;> first | (exfalso; simp [xpure] at h; done) | skip
  cases u2 <;> first | (exfalso; simp [xpure] at h; done) | skip
  simp only [xpure] at h
  split at h
  · rename_i e; subst e; cases h; exact ⟨_, _, _, rfl, rfl⟩
  · cases h
theorem xp_fn {g : FuncId} {nf nc : Nat} (h : xpure (.fn g nf nc) vs = some v) : vs.length = nf + nc ∧ v = .func (.func g) (vs.take nf).toArray (vs.drop nf).toArray := by
  simp only [xpure] at h
  split at h
  · rename_i e; cases h; exact ⟨e, rfl⟩
  · cases h
theorem xp_bld {init : List Value} {pl : List (Nat × Nat)} (h : xpure (.bld init pl) vs = some v) : ∃ l, xfill init pl vs = some l ∧ v = .agg l.toArray := by
  simp only [xpure, Option.map_eq_some_iff] at h
  obtain ⟨l, h1, h2⟩ := h
  exact ⟨l, h1, h2.symm⟩
theorem xp_prt {sz : Option Nat} {off : Nat} (h : xpure (.prt sz off) vs = some v) : ∃ cs : Array Value, vs = [.agg cs] ∧ xpart sz cs.toList off = some v := by
  rcases vs with _ | ⟨u, _ | ⟨u2, us⟩⟩ <;> first | (exfalso; simp [xpure] at h; done) | skip
  cases u <;> first | (exfalso; simp [xpure] at h; done) | skip
  exact ⟨_, rfl, h⟩
theorem xp_ixV {len es : Nat} {sz : Option Nat} (h : xpure (.ixV len es sz) vs = some v) : ∃ (cs : Array Value) (k : IntKind) (n : Int), vs = [.agg cs, .int k n] ∧ 0 ≤ n ∧ n < len ∧ xpart sz cs.toList (n.toNat * es) = some v := by
  rcases vs with _ | ⟨u, _ | ⟨u2, _ | ⟨u3, us⟩⟩⟩ <;> first | (exfalso; simp [xpure] at h; done) | skip
  cases u <;> first | (exfalso; simp [xpure] at h; done) | skip
  cases u2 <;> first | (exfalso; simp [xpure] at h; done) | skip
  simp only [xpure] at h
  split at h
  · rename_i e; exact ⟨_, _, _, rfl, e.1, e.2, h⟩
  · cases h
theorem xp_ld {sz : Option Nat} : xpure (.ld sz) vs ≠ some v := by simp [xpure]
theorem xp_new {c : List Value} {e : TypeId} : xpure (.new c e) vs ≠ some v := by simp [xpure]
theorem xp_box {e : TypeId} : xpure (.box e) vs ≠ some v := by simp [xpure]
theorem xp_st {n : Nat} : xpure (.st n) vs ≠ some v := by simp [xpure]
theorem xp_make {z : Value} {a b : Nat} {e : TypeId} : xpure (.make z a b e) vs ≠ some v := by simp [xpure]
theorem xp_bsl {z : List Value} {a : Nat} {b : List (Nat × Nat)} {e : TypeId} : xpure (.bsl z a b e) vs ≠ some v := by simp [xpure]
theorem xp_app {a b : Nat} {e : TypeId} : xpure (.app e a b) vs ≠ some v := by simp [xpure]
theorem xp_call : xpure .call vs ≠ some v := by simp [xpure]
theorem xp_slA {P : Program} {t e : TypeId} {n sz : Nat} {lo hi : Bool} (ht : arrT P t = some (n, e)) (hs : szT P e = some sz) (h : xpure (.slA n sz lo hi) vs = some v) : ∃ u us l h, vs = u :: us ∧ bnds lo hi us = some (l, h) ∧ eslice P t u l h = some v := by
  rcases vs with _ | ⟨u, us⟩ <;> first | (exfalso; simp [xpure] at h; done) | skip
  cases u <;> first | (exfalso; simp [xpure] at h; done) | skip
  rename_i a; cases a <;> first | (exfalso; simp [xpure] at h; done) | skip
  simp only [xpure] at h
  split at h
  · rename_i l hh hb
    split at h
    · rename_i hc
      refine ⟨_, _, _, _, rfl, hb, ?_⟩
      simp only [eslice, ht, hc.1, hs]
      rw [if_pos hc.2]
      exact h
    · cases h
  · cases h
theorem xp_slS {P : Program} {t e : TypeId} {sz : Nat} {lo hi : Bool} (ht : slT P t = some e) (hs : szT P e = some sz) (h : xpure (.slS sz lo hi) vs = some v) : ∃ u us l h, vs = u :: us ∧ bnds lo hi us = some (l, h) ∧ eslice P t u l h = some v := by
  rcases vs with _ | ⟨u, us⟩ <;> first | (exfalso; simp [xpure] at h; done) | skip
  cases u <;> first | (exfalso; simp [xpure] at h; done) | skip
  rename_i a ln c; cases a with
  | none =>
    rcases ln with _ | ln <;> first | (exfalso; simp [xpure] at h; done) | skip
    rcases c with _ | c <;> first | (exfalso; simp [xpure] at h; done) | skip
    simp only [xpure] at h
    split at h
    · rename_i l hh hb
      split at h
      · rename_i hc
        refine ⟨_, _, _, _, rfl, hb, ?_⟩
        simp only [eslice, ht, Option.bind_some, hs, Option.isSome_some, true_and]
        rw [if_pos hc]
        exact h
      · cases h
    · cases h
  | some a =>
    simp only [xpure] at h
    split at h
    · rename_i l hh hb
      split at h
      · rename_i hc
        refine ⟨_, _, _, _, rfl, hb, ?_⟩
        simp only [eslice, ht, hc.1, hs]
        rw [if_pos hc.2]
        exact h
      · cases h
    · cases h
end
end Go.Sim

namespace Go.Sim
open Go
theorem xpure_sim0 {P : Program} {o : Oper} {x : XO} {vs : List Value} {v : Value} (h : cop0 P o = some x) (hv : xpure x vs = some v) (H : AH) : RunSim P o vs H v H := by
  cases ho : o.op
  case move a =>
    simp only [cop0, ho, Option.some.injEq] at h; subst h
    have := xp_mov hv; subst this
    exact runSim_move (.inl ho)
  case assign a =>
    simp only [cop0, ho, Option.some.injEq] at h; subst h
    have := xp_mov hv; subst this
    exact runSim_move (.inr ho)
  case pick a b c =>
    simp only [cop0, ho, Option.some.injEq] at h; subst h
    obtain ⟨_, _, _, rfl, rfl⟩ := xp_pick hv
    exact runSim_pick ho
  case binOp op t a b t' =>
    simp only [cop0, ho, Option.some.injEq] at h; subst h
    obtain ⟨_, _, rfl, h1⟩ := xp_bin hv
    exact runSim_binOp ho (xbin_ebin h1)
  case unOp op t a =>
    simp only [cop0, ho, Option.some.injEq] at h; subst h
    obtain ⟨_, rfl, h1⟩ := xp_un hv
    exact runSim_unOp ho h1
  case convert s d a =>
    simp only [cop0, ho] at h
    split at h
    · rename_i hs
      simp only [Option.map_eq_some_iff] at h
      obtain ⟨k, h1, rfl⟩ := h
      obtain ⟨_, _, rfl, rfl⟩ := xp_conv hv
      exact runSim_convert_int ho hs h1
    · cases h
  case extract a ix =>
    simp only [cop0, ho, Option.some.injEq] at h; subst h
    obtain ⟨_, rfl, h1⟩ := xp_ext hv
    exact runSim_extract ho h1
  case load t a =>
    simp only [cop0, ho, Option.map_eq_some_iff] at h
    obtain ⟨k, h1, rfl⟩ := h
    exact absurd hv xp_ld
  case alloc e =>
    simp only [cop0, ho] at h
    split at h
    · split at h
      · cases h; exact absurd hv xp_new
      · cases h
    · cases h
  case box e a =>
    simp only [cop0, ho, Option.some.injEq] at h; subst h
    exact absurd hv xp_box
  case store t a b =>
    simp only [cop0, ho, Option.map_eq_some_iff] at h
    obtain ⟨k, h1, rfl⟩ := h
    exact absurd hv xp_st
  case fieldAddr s a f =>
    simp only [cop0, ho, Option.map_eq_some_iff] at h
    obtain ⟨⟨off, ft⟩, h1, rfl⟩ := h
    obtain ⟨_, rfl, rfl⟩ := xp_fld hv
    exact runSim_fieldAddr ho h1
  case indexAddr t a b =>
    simp only [cop0, ho] at h
    split at h
    · rename_i n e ht
      simp only [Option.map_eq_some_iff] at h
      obtain ⟨sz, h1, rfl⟩ := h
      obtain ⟨ad, k, i, rfl, q1, q2, q3, rfl⟩ := xp_ixA hv
      refine runSim_indexAddr ho ?_
      simp only [eindex, ht, q1, h1]
      rw [if_pos ⟨q2, q3⟩]
    · split at h
      · rename_i e ht
        simp only [Option.map_eq_some_iff] at h
        obtain ⟨sz, h1, rfl⟩ := h
        obtain ⟨ad, l, c, k, i, rfl, q1, q2, q3, rfl⟩ := xp_ixS hv
        refine runSim_indexAddr ho ?_
        simp only [eindex, ht, q1, h1]
        rw [if_pos ⟨q2, q3⟩]
      · cases h
  case slice t a lo hi mx =>
    cases mx with
    | some m => simp [cop0, ho] at h
    | none =>
      simp only [cop0, ho] at h
      split at h
      · rename_i n e ht
        simp only [Option.map_eq_some_iff] at h
        obtain ⟨sz, h1, rfl⟩ := h
        obtain ⟨u, us, l, hh, rfl, q1, q2⟩ := xp_slA ht h1 hv
        exact runSim_slice ho q1 q2
      · split at h
        · rename_i e ht
          simp only [Option.map_eq_some_iff] at h
          obtain ⟨sz, h1, rfl⟩ := h
          obtain ⟨u, us, l, hh, rfl, q1, q2⟩ := xp_slS ht h1 hv
          exact runSim_slice ho q1 q2
        · cases h
  case makeSlice t a b =>
    simp only [cop0, ho] at h
    repeat (split at h; skip)
    all_goals first | (cases h; exact absurd hv xp_make) | cases h
  case buildSlice t len parts =>
    simp only [cop0, ho] at h
    repeat (split at h; skip)
    all_goals first | (cases h; exact absurd hv xp_bsl) | cases h
  case makeFunc f first cap =>
    cases f with
    | func g =>
      simp only [cop0, ho, Option.some.injEq] at h; subst h
      obtain ⟨q1, rfl⟩ := xp_fn hv
      have := runSim_makeFunc (H := H) (u := vs.take first.size) (v := vs.drop first.size) ho (P := P) (by simp; omega) (by simp; omega)
      rwa [List.take_append_drop] at this
    | _ => simp [cop0, ho] at h
  case build t parts =>
    simp only [cop0, ho] at h
    split at h
    · rename_i z hz
      split at h
      · rename_i hg
        split at h
        · rename_i fs hu
          split at h
          · rename_i pl hm
            simp only [Option.map_eq_some_iff] at h
            obtain ⟨ppl, h1, rfl⟩ := h
            obtain ⟨l, q1, rfl⟩ := xp_bld hv
            exact runSim_build_struct ho hz hg (.inl ⟨fs, pl, hu, hm, rfl⟩) (xfill_fill _ _ _ _ _ h1 q1)
          · cases h
        · rename_i n e hu
          simp only [Option.map_eq_some_iff] at h
          obtain ⟨sz, h1, rfl⟩ := h
          obtain ⟨l, q1, rfl⟩ := xp_bld hv
          refine runSim_build_struct ho hz hg (.inr ⟨n, e, sz, hu, h1, rfl⟩) (xfill_fill _ _ _ _ _ ?_ q1)
          rw [map_mul_place, List.map_map]
          rfl
        · cases h
      · cases h
    · cases h
  case field t a f =>
    simp only [cop0, ho] at h
    split at h
    · rename_i fs hu
      split at h
      · rename_i fd hf
        simp only [Option.map_eq_some_iff] at h
        obtain ⟨sz, h1, rfl⟩ := h
        obtain ⟨cs, rfl, q⟩ := xp_prt hv
        exact runSim_field_agg ho hu hf h1 q
      · cases h
    · cases h
  case index t a b =>
    simp only [cop0, ho] at h
    split at h
    · rename_i len e ht
      split at h
      · rename_i es sz h1 h2
        cases h
        obtain ⟨cs, k, n, rfl, q1, q2, q3⟩ := xp_ixV hv
        exact runSim_index_agg ho ht h1 h2 q1 q2 q3
      · cases h
    · cases h
  case call c =>
    simp only [cop0, ho] at h
    split at h
    · cases h; exact absurd hv xp_call
    · rename_i hc
      split at h
      · rename_i x t ha hty
        have hce := call_eq hc ha hty
        rw [hce] at ho
        split at h
        · rename_i hu
          cases h
          obtain ⟨s, rfl, rfl⟩ := xp_lenT hv
          exact runSim_len ho (by simp [elen, hu])
        · rename_i e hu
          cases h
          obtain ⟨s, n, c, rfl, rfl⟩ := xp_lenS hv
          exact runSim_len ho (by simp [elen, hu])
        · rename_i n e hu
          cases h
          obtain ⟨u, rfl, rfl⟩ := xp_lenA hv
          exact runSim_len ho (by simp [elen, hu])
        · cases h
      · cases h
    · rename_i hc
      split at h
      · rename_i x y ha
        have hce := call_eq hc ha rfl
        rw [hce] at ho
        cases h
        obtain ⟨k, a, b, rfl, rfl⟩ := xp_min2 hv
        exact runSim_min ho
      · cases h
    · rename_i hc
      split at h
      · rename_i x y ha
        have hce := call_eq hc ha rfl
        rw [hce] at ho
        cases h
        obtain ⟨k, a, b, rfl, rfl⟩ := xp_max2 hv
        exact runSim_max ho
      · cases h
    · repeat (split at h; skip)
      all_goals first | (cases h; exact absurd hv xp_app) | cases h
    · cases h
  all_goals simp [cop0, ho] at h
theorem cop_ld0 {P : Program} {o : Oper} {sz : Option Nat} (h : cop0 P o = some (.ld sz)) : ∃ t a, o.op = .load t a ∧ partT P t = some sz := by
  cases ho : o.op
  case load t a =>
    simp only [cop0, ho, Option.map_eq_some_iff] at h
    obtain ⟨k, h1, h2⟩ := h
    cases h2
    exact ⟨_, _, rfl, h1⟩
  all_goals exfalso
  all_goals simp only [cop0, ho] at h
  all_goals (repeat' split at h)
  all_goals first | contradiction | (simp at h; done)
theorem xload_sim0 {P : Program} {o : Oper} {sz : Option Nat} {vs : List Value} {v : Value} {H : AH} (h : cop0 P o = some (.ld sz)) (hv : xload sz H vs = some v) : RunSim P o vs H v H := by
  obtain ⟨t, a, ho, hp⟩ := cop_ld0 h
  rcases vs with _ | ⟨u, _ | ⟨u2, us⟩⟩
  · simp [xload] at hv
  · cases u <;> first | (exfalso; simp [xload] at hv; done) | skip
    rename_i ad
    cases ad with
    | none => simp [xload] at hv
    | some ad =>
      refine runSim_load ho ?_
      simp only [xload] at hv
      split at hv
      · rename_i c e op ro h1 h2
        simp only [eload, h1, h2]
        unfold partT at hp
        split at hp
        · cases hp
        · rename_i hn
          rw [if_neg hn]
          split at hp
          · rename_i hag
            rw [if_pos hag]
            simp only [Option.map_eq_some_iff] at hp
            obtain ⟨n, h3, rfl⟩ := hp
            simp only [h3]
            exact hv
          · rename_i hag
            cases hp
            rw [if_neg hag]
            exact hv
      · cases hv
  · simp [xload] at hv
theorem xnew_sim0 {P : Program} {o : Oper} {x : XO} {vs c : List Value} {e : TypeId} {mk : Nat → Value} (h : cop0 P o = some x) (hv : xnew x vs = some (c, e, mk)) : NewSim P o vs c e mk := by
  cases ho : o.op
  case alloc t =>
    simp only [cop0, ho] at h
    split at h
    · rename_i z hz
      split at h
      · rename_i hg
        cases h
        cases vs with
        | nil =>
          simp [xnew] at hv
          obtain ⟨rfl, rfl, rfl⟩ := hv
          rw [cellsL_eq]
          exact newSim_alloc ho hz hg
        | cons _ _ => simp [xnew] at hv
      · cases h
    · cases h
  case box t a =>
    simp only [cop0, ho, Option.some.injEq] at h; subst h
    rcases vs with _ | ⟨u, _ | ⟨u2, us⟩⟩ <;> simp [xnew] at hv
    obtain ⟨rfl, rfl, rfl⟩ := hv
    rw [cellsL_eq]
    exact newSim_box ho
  case makeSlice t a b =>
    simp only [cop0, ho] at h
    split at h
    · rename_i el hs
      split at h
      · rename_i ti hti
        split at h
        · rename_i z hz
          split at h
          · rename_i hc
            cases h
            rcases vs with _ | ⟨u, _ | ⟨u2, _ | ⟨u3, us⟩⟩⟩ <;> first | (exfalso; simp [xnew] at hv; done) | skip
            cases u <;> first | (exfalso; simp [xnew] at hv; done) | skip
            cases u2 <;> first | (exfalso; simp [xnew] at hv; done) | skip
            simp only [xnew] at hv
            split at hv
            · rename_i hb
              cases hv
              refine newSim_makeSlice ho ?_
              simp only [emake, hs, hti, hz]
              rw [if_pos ⟨hb.1, hb.2.1, hb.2.2.1, hb.2.2.2, hc.1, hc.2⟩]
            · cases hv
          · cases h
        · cases h
      · cases h
    · cases h
  case buildSlice t len parts =>
    simp only [cop0, ho] at h
    split at h
    · rename_i el hs
      split at h
      · rename_i sz z hsz hz
        split at h
        · rename_i hc
          cases h
          simp only [xnew] at hv
          split at hv
          · rename_i l hl
            cases hv
            refine newSim_buildSlice ho ?_
            simp only [ebuildSlice, hs, hsz, hz]
            rw [if_pos hc]
            have := xfill_fill (place := fun i => some (i * sz, sz)) (parts.toList.map (·.1)) vs _ _ _ (map_mul_place sz _) (by rw [List.map_map]; exact hl)
            unfold eparts
            rw [this]
          · cases hv
        · cases h
      · cases h
    · cases h
  all_goals exfalso
  all_goals simp only [cop0, ho] at h
  all_goals (repeat' split at h)
  all_goals first | contradiction | (cases h; done) | (simp only [Option.some.injEq] at h; subst h; simp [xnew] at hv; done) | (simp only [Option.map_eq_some_iff] at h; obtain ⟨_, _, rfl⟩ := h; simp [xnew] at hv; done)
theorem xact_sim0 {P : Program} {o : Oper} {x : XO} {vs : List Value} {v : Value} {H H' : AH} (h : cop0 P o = some x) (hv : xact x H vs = some (v, H')) : RunSim P o vs H v H' := by
  cases ho : o.op
  case store t a b =>
    simp only [cop0, ho, Option.map_eq_some_iff] at h
    obtain ⟨n, hn, rfl⟩ := h
    rcases vs with _ | ⟨u, _ | ⟨u2, _ | ⟨u3, us⟩⟩⟩ <;> first | (exfalso; simp [xact] at hv; done) | skip
    cases u <;> first | (exfalso; simp [xact] at hv; done) | skip
    rename_i ad
    cases ad <;> first | (exfalso; simp [xact] at hv; done) | skip
    simp only [xact] at hv
    split at hv
    · rename_i c e op h1 h2
      split at hv
      · rename_i hc
        obtain ⟨c1, c2, c3⟩ := hc
        cases hv
        refine runSim_store ho ?_
        rw [cellsL_eq] at c1 c2
        simp only [estore, h1, h2]
        have c1' : u2.cells.size = n := by simpa using c1
        rw [if_pos ⟨by rw [hn, c1'], c2, by omega⟩]
        congr 2
        rw [cellsL_eq, putL_eq (by rw [c1]; exact c3)]
      · cases hv
    · cases hv
  case call c =>
    simp only [cop0, ho] at h
    split at h
    · cases h; simp [xact] at hv
    · repeat' split at h
      all_goals first | (cases h; done) | (cases h; simp [xact] at hv; done)
    · repeat' split at h
      all_goals first | (cases h; done) | (cases h; simp [xact] at hv; done)
    · repeat' split at h
      all_goals first | (cases h; done) | (cases h; simp [xact] at hv; done)
    · rename_i hc
      split at h
      · rename_i x y t t' ha hty
        have hce := call_eq hc ha hty
        rw [hce] at ho
        split at h
        · rename_i e e2 hs hs2
          split at h
          · rename_i ti hti
            split at h
            · rename_i z hz
              split at h
              · rename_i hcz
                cases h
                rcases vs with _ | ⟨u, _ | ⟨u2, _ | ⟨u3, us⟩⟩⟩ <;> first | (exfalso; simp [xact] at hv; done) | skip
                refine runSim_append ho ?_
                simp only [xact] at hv
                simp only [eappend, hs, hs2, hti, hz]
                split at hv
                · rename_i new hnew
                  split at hv
                  · rename_i hc1
                    simp only [hnew]
                    rw [if_pos ⟨hc1.1, hc1.2.1, hcz.1, hcz.2, hc1.2.2⟩]
                    split at hv
                    · exact hv
                    · split at hv
                      · rename_i h1 h2
                        simp only [h1, h2]
                        split at hv
                        · rename_i hle
                          rw [if_pos hle]
                          split at hv
                          · rename_i h0
                            rw [if_pos h0]
                            exact hv
                          · rename_i h0
                            rw [if_neg h0]
                            split at hv
                            · rename_i hr
                              rw [if_pos hr]
                              rw [putL_eq hr.2] at hv
                              exact hv
                            · cases hv
                        · rename_i hle
                          rw [if_neg hle]
                          exact hv
                      · cases hv
                    · cases hv
                  · cases hv
                · cases hv
              · cases h
            · cases h
          · cases h
        · cases h
      · cases h
    · cases h
  all_goals exfalso
  all_goals simp only [cop0, ho] at h
  all_goals (repeat' split at h)
  all_goals first | contradiction | (cases h; done) | (simp only [Option.some.injEq] at h; subst h; simp [xact] at hv; done) | (simp only [Option.map_eq_some_iff] at h; obtain ⟨_, _, rfl⟩ := h; simp [xact] at hv; done)
theorem runSim_nilCheck {P : Program} {x : Operand} {o : Oper} (ho : o.op = .nilCheck x) {a : Addr} {H : AH} : RunSim P o [.pointer (some a)] H (.pointer (some a)) H := by
  refine RunSim.pure_ fun i vs' hv ρ hρ => ?_
  obtain ⟨u', rfl, hu⟩ := hv.one
  rw [ho] at hρ
  simp [Op.operands] at hρ
  refine ⟨u', hu, fun w => ?_⟩
  cases hu
  unfold execOp
  rw [ho]
  simp [hρ]
theorem runSim_copy {P : Program} {o : Oper} {x y : Operand} {t t' e : TypeId} {sz : Nat} (ho : o.op = .call { callee := .builtin .copy, args := #[x, y], argTypes := #[t, t'] }) (ht : slT P t = some e) (hs : szT P e = some sz)
    {a : Addr} {l c : Nat} {u : Value} {cc new : List Value} {ee : TypeId} {opn : Option Nat} {H : AH} (hH : H[a.block]? = some (.cells cc ee opn false)) (hsp : a.spot = none) (hnew : erow H u (Nat.min (slen u) l * sz) = some new) (h1 : new.all one = true) (hfit : a.off + new.length ≤ cc.length) :
    RunSim P o [.slice (some a) l c, u] H (.int .i64 (Nat.min (slen u) l : Nat)) (H.set a.block (.cells (splice cc a.off new) ee opn false)) := by
  intro i w vs' hr hvs ρ hρ
  obtain ⟨s', u', rfl, hs', hu⟩ := hvs.two
  have hρ2 : ρ x = s' ∧ ρ y = u' := by rw [ho] at hρ; simpa [Op.operands, Call.operands] using hρ
  obtain ⟨hx, hy⟩ := hρ2
  clear hρ
  have hut : P.underlying t = some (.slice e) := by
    unfold slT at ht
    split at ht
    · rename_i e' hu'; cases ht; exact hu'
    · cases ht
  cases hs' with
  | vague hsv => rw [hsp] at hsv; cases hsv
  | slice hb hspp hcc =>
    rename_i L c'
    obtain ⟨⟨p, q, r, rfl⟩, hlen⟩ := slice_shape hu (erow_slice hnew)
    obtain ⟨new', n1, n2, n3, n4⟩ := erow_sim (P := P) (size := sz) hr hu rfl hnew
    have hfw := n4 w (fun _ _ h => h)
    obtain ⟨w', b0, hst, hrel, hext⟩ := storeCells_sim (P := P) hr hb hH n1 h1 hfit
    refine ⟨i, w', _, hext, hrel, .int _ _, .inl ?_⟩
    have e0 : Array.map ρ #[x, y] = #[ρ x, ρ y] := by simp
    rw [run_builtin_exec ho, e0, hx, hy]
    have hq : q = slen u := hlen
    subst hq
    simp [builtin, Builtin.copy_, run_underlying' P hut, run_sizeOf' P hs, Builtin.lenOf, hfw, b0, hst, goInt]
theorem xpure_sim {P : Program} {o : Oper} {x : XO} {vs : List Value} {v : Value} (h : cop P o = some x) (hv : xpure x vs = some v) (H : AH) : RunSim P o vs H v H := by
  rcases cop_cases h with h | ⟨rfl, a, ha⟩ | ⟨rfl, _⟩ | ⟨sz, c, rfl, _⟩ | ⟨_, _, _, _, _, rfl, _⟩ | ⟨c, rfl, hc, hcap⟩
  · exact xpure_sim0 h hv H
  · rcases vs with _ | ⟨u, _ | ⟨u2, us⟩⟩ <;> first | (exfalso; simp [xpure] at hv; done) | skip
    cases u <;> first | (exfalso; simp [xpure] at hv; done) | skip
    rename_i ad; cases ad <;> first | (exfalso; simp [xpure] at hv; done) | skip
    simp only [xpure, Option.some.injEq] at hv
    subst hv
    exact runSim_nilCheck ha
  · simp [xpure] at hv
  · simp [xpure] at hv
  · simp [xpure] at hv
  · obtain ⟨x, t, e, rfl, ht⟩ := ccap_eq hcap
    rcases vs with _ | ⟨u, _ | ⟨u2, us⟩⟩ <;> first | (exfalso; simp [xpure] at hv; done) | skip
    simp only [xpure] at hv
    split at hv <;> first | (cases hv; done) | skip
    all_goals first | (rename_i heq1 heq2; simp only [List.cons.injEq, and_true] at heq2; subst heq2; cases hv; exact runSim_capNil hc ht) | (simp_all; done)
theorem xload_sim {P : Program} {o : Oper} {sz : Option Nat} {vs : List Value} {v : Value} {H : AH} (h : cop P o = some (.ld sz)) (hv : xload sz H vs = some v) : RunSim P o vs H v H := by
  rcases cop_cases h with h | ⟨h, _⟩ | ⟨h, _⟩ | ⟨_, _, h, _⟩ | ⟨_, _, _, _, _, h, _⟩ | ⟨_, h, _⟩
  · exact xload_sim0 h hv
  · cases h
  · cases h
  · cases h
  · cases h
  · cases h
theorem xnew_sim {P : Program} {o : Oper} {x : XO} {vs c : List Value} {e : TypeId} {mk : Nat → Value} (h : cop P o = some x) (hv : xnew x vs = some (c, e, mk)) : NewSim P o vs c e mk := by
  rcases cop_cases h with h | ⟨rfl, _⟩ | ⟨rfl, _⟩ | ⟨_, _, rfl, _⟩ | ⟨_, _, _, _, _, rfl, _⟩ | ⟨_, rfl, _⟩
  · exact xnew_sim0 h hv
  · simp [xnew] at hv
  · simp [xnew] at hv
  · simp [xnew] at hv
  · simp [xnew] at hv
  · simp [xnew] at hv
theorem xact_sim {P : Program} {o : Oper} {x : XO} {vs : List Value} {v : Value} {H H' : AH} (h : cop P o = some x) (hv : xact x H vs = some (v, H')) : RunSim P o vs H v H' := by
  rcases cop_cases h with h | ⟨rfl, _⟩ | ⟨rfl, _⟩ | ⟨sz, c, rfl, hc, hz⟩ | ⟨zl, sz, b, e, c, rfl, hc, hg⟩ | ⟨_, rfl, _⟩
  · exact xact_sim0 h hv
  · simp [xact] at hv
  · simp [xact] at hv
  · obtain ⟨x, y, t, t', e, rfl, ht, hs⟩ := ccopy_eq hz
    rcases vs with _ | ⟨u, _ | ⟨u2, _ | ⟨u3, us⟩⟩⟩ <;> first | (exfalso; simp [xact] at hv; done) | skip
    cases u <;> first | (exfalso; simp [xact] at hv; done) | skip
    rename_i ad l cp
    cases ad <;> first | (exfalso; simp [xact] at hv; done) | skip
    simp only [xact] at hv
    split at hv
    · rename_i cc ee opn hH hsp
      split at hv
      · rename_i new hnew
        split at hv
        · rename_i hc1
          cases hv
          exact runSim_copy hc ht hs hH hsp hnew hc1.1 hc1.2
        · cases hv
      · cases hv
    · cases hv
  · obtain ⟨x, y, t, t', k, ti, z, rfl, ht, ht', hi, hz, hsc, hsz, hpos, rfl, rfl, rfl⟩ := cgrow_eq hg
    unfold xact at hv
    split at hv
    · rename_i h1; cases h1
    · rename_i h1; cases h1
    · rename_i h1; cases h1
    · rename_i h1
      cases h1
      split at hv
      · rename_i hcond
        cases hv
        have := runSim_apz hc ht ht' hi hz hsc hsz hpos hcond.1 hcond.2.1 hcond.2.2 (H := H)
        simpa using this
      · cases hv
    · cases hv
  · simp [xact] at hv
end Go.Sim

namespace Go.Sim
open Go
def masksTo (ops : Array Oper) : Nat → List Nat
  | 0 => []
  | j + 1 => let m := masksTo ops j; m ++ [(edges ops j).foldl (fun acc k => acc ||| 2 ^ k ||| m.getD k 0) 0]
theorem masksTo_length (ops : Array Oper) : ∀ n, (masksTo ops n).length = n
  | 0 => rfl
  | n + 1 => by simp [masksTo, masksTo_length ops n]
theorem masksTo_getD (ops : Array Oper) {j : Nat} : ∀ {n}, j < n → (masksTo ops n).getD j 0 = (masksTo ops (j + 1)).getD j 0
  | 0, h => by omega
  | n + 1, h => by
    by_cases hj : j = n
    · subst hj; rfl
    · have hlt : j < n := by omega
      rw [← masksTo_getD ops hlt]
      simp only [masksTo, List.getD_eq_getElem?_getD]
      rw [List.getElem?_append_left (by rw [masksTo_length]; exact hlt)]
theorem testBit_fold (f : Nat → Nat) (m : Nat) : ∀ (l : List Nat) (a : Nat), (l.foldl (fun acc k => acc ||| 2 ^ k ||| f k) a).testBit m = (a.testBit m || l.any fun k => k == m || (f k).testBit m)
  | [], a => by simp
  | k :: l, a => by
    simp only [List.foldl_cons, List.any_cons]
    rw [testBit_fold f m l]
    simp only [Nat.testBit_or, Nat.testBit_two_pow]
    by_cases h : k = m
    · subst h; simp
    · have h2 : (k == m) = false := beq_eq_false_iff_ne.2 h
      simp [h, h2, Bool.or_assoc]
theorem masks_succ (ops : Array Oper) (j m : Nat) : ((masksTo ops (j + 1)).getD j 0).testBit m = (edges ops j).any fun k => k == m || ((masksTo ops j).getD k 0).testBit m := by
  simp only [masksTo, List.getD_eq_getElem?_getD]
  rw [List.getElem?_append_right (by rw [masksTo_length]; omega), masksTo_length]
  simp only [Nat.sub_self, List.getElem?_cons_zero, Option.getD_some]
  rw [testBit_fold]
  simp
theorem befF_masks {ops : Array Oper} (hlow : ∀ j, ∀ k ∈ edges ops j, k < j) (m : Nat) : ∀ (f j : Nat), j < f → befF ops f m j = ((masksTo ops (j + 1)).getD j 0).testBit m
  | 0, j, h => by omega
  | f + 1, j, h => by
    rw [masks_succ]
    simp only [befF]
    have key : ∀ k ∈ edges ops j, (k == m || befF ops f m k) = (k == m || ((masksTo ops j).getD k 0).testBit m) := by
      intro k hk
      have hkj := hlow j k hk
      rw [befF_masks hlow m f k (by omega), masksTo_getD ops hkj]
    generalize edges ops j = l at key
    induction l with
    | nil => rfl
    | cons k l ih =>
      simp only [List.any_cons]
      rw [key k (by simp), ih (fun k' hk' => key k' (by simp [hk']))]
theorem bef_masks {ops : Array Oper} (hlow : ∀ j, ∀ k ∈ edges ops j, k < j) (m j : Nat) : bef ops m j = ((masksTo ops ops.size).getD j 0).testBit m := by
  by_cases hj : j < ops.size
  · unfold bef
    rw [befF_masks hlow m _ _ hj, masksTo_getD ops hj]
  · have e : edges ops j = [] := by
      unfold edges
      rw [Array.getElem?_eq_none (by omega)]
    have e2 : (masksTo ops ops.size).getD j 0 = 0 := by
      rw [List.getD_eq_getElem?_getD, List.getElem?_eq_none (by rw [masksTo_length]; omega)]
      rfl
    rw [e2, Nat.zero_testBit]
    unfold bef
    cases ops.size <;> simp [befF, e]
def okDw (r : Nat → Nat → Bool) (ops : Array Oper) (ord : List Nat) (ch : List Nat) : Bool :=
  (ord.length == ops.size && (List.range ops.size).all (fun j => ord.contains j) && ord.all (fun j => decide (j < ops.size))) &&
  pairwiseB (fun a b => !(r b a) && a != b && (!(ch.contains a) || ch.contains b || r a b) && (!(ch.contains a) || !(ch.contains b) || r a b) && (!(edges ops a).contains b)) ord &&
  (List.range ops.size).all (fun j => !(edges ops j).contains j && (edges ops j).all (fun k => decide (k < ops.size))) &&
  (List.range ops.size).all (fun j => (List.range ops.size).all fun m => j == m || (dstOf ops j).isNone || dstOf ops j != dstOf ops m) &&
  (List.range ops.size).all (fun j => (List.range ops.size).all fun m => match dstOf ops m with
    | some t => !((looks ops j).contains t) || (m != j && (r m j || r j m))
    | none => true)
def lowE (ops : Array Oper) : Bool := (List.range ops.size).all fun j => (edges ops j).all fun k => decide (k < j)
theorem lowE_spec {ops : Array Oper} (h : lowE ops = true) : ∀ j, ∀ k ∈ edges ops j, k < j := by
  intro j k hk
  by_cases hj : j < ops.size
  · have := List.all_eq_true.1 h j (by simpa using hj)
    simpa using List.all_eq_true.1 this k hk
  · have e : edges ops j = [] := by
      unfold edges
      rw [Array.getElem?_eq_none (by omega)]
    rw [e] at hk; cases hk
def maskR (ms : List Nat) (m j : Nat) : Bool := (ms.getD j 0).testBit m
theorem okDw_masks {ops : Array Oper} {ord ch : List Nat} (hl : lowE ops = true) (h : okDw (maskR (masksTo ops ops.size)) ops ord ch = true) : okD ops ord ch = true := by
  have e : maskR (masksTo ops ops.size) = bef ops := by
    funext m j
    rw [bef_masks (lowE_spec hl)]
    rfl
  rw [e] at h
  exact h
structure XS where
  g : Option (Tmp × Bool)
  x : XO
  xs : List Operand
  dst : Option Tmp
  j : Nat
  keep : Bool
  chk : List Nat
inductive XC where
  | skip
  | exit (id : Nat)
  | ret
  | seq (a b : XC)
  | cond (c : Operand) (a b : XC)
  | block (id : Nat) (a : XC)
  | loop (a : XC)
  | reg (l : List XS)
  | range (f : Operand) (ps : Array Tmp) (xa xb : XC)
inductive XK where
  | pur | load | new | act | call
  deriving DecidableEq
def XO.kind : XO → XK
  | .ld _ => .load
  | .new _ _ | .box _ | .make _ _ _ _ | .bsl _ _ _ _ => .new
  | .st _ | .app _ _ _ | .cpy _ | .apz _ _ _ _ => .act
  | .call => .call
  | _ => .pur
def wantX (g : Option (Tmp × Bool)) (s : St) : Bool :=
  match g with
  | none => true
  | some (d, want) => match s.env d with
    | .bool b => b == want
    | _ => false
structure PL where
  j : Nat
  sz : Option Nat
  vs : List Value
  v : Value
def chkX (c : List Nat) (D : List PL) (H : AH) : Prop := ∀ p ∈ D, p.j ∈ c → xload p.sz H p.vs = some p.v
def callable (P : Program) (g : FuncId) : Bool := match P.funcs[g]? with
  | some fn => fn.body.isSome && !(fn.name == "runtime.NumGoroutine")
  | none => false
def FN (P : Program) (g : FuncId) (args : List Value) (H : AH) (R : Value → AH → Prop) : Prop := callable P g = true ∧ F P g args H R
theorem FN.mono {P : Program} {f : FuncId} {args : List Value} {H : AH} {R R' : Value → AH → Prop} (h : FN P f args H R) (hr : ∀ v H, R v H → R' v H) : FN P f args H R' := ⟨h.1, h.2.mono hr⟩
def YN (P : Program) (l : Nat) (args : List Value) (H : AH) (R : Value → AH → Prop) : Prop := ∃ v H', R v H' ∧ YSim P l args H v H'
theorem YN.mono {P : Program} {l : Nat} {args : List Value} {H : AH} {R R' : Value → AH → Prop} (h : YN P l args H R) (hr : ∀ v H, R v H → R' v H) : YN P l args H R' :=
  let ⟨v, H', r, q⟩ := h; ⟨v, H', hr _ _ r, q⟩
def callX (P : Program) (vs : List Value) (H : AH) (R : Value → AH → Prop) : Prop :=
  match vs with
  | .func (.func g) first cap :: args => FN P g (first.toList ++ args ++ cap.toList) H R
  | .func (.yield l) first cap :: args => first.size = 0 ∧ cap.size = 0 ∧ YN P l args H R
  | _ => False
def stepsX (P : Program) : List XS → List PL → St → AH → (St → AH → Prop) → Prop
  | [], _, s, H, K => K s H
  | i :: l, D, s, H, K =>
    if wantX i.g s then
      match i.x.kind with
      | .pur => ∃ v, xpure i.x (i.xs.map (ev s)) = some v ∧ stepsX P l D (s.put i.dst v) H K
      | .load => ∃ sz v, i.x = .ld sz ∧ xload sz H (i.xs.map (ev s)) = some v ∧ stepsX P l (if i.keep then ⟨i.j, sz, i.xs.map (ev s), v⟩ :: D else D) (s.put i.dst v) H K
      | .new => ∃ c e mk, xnew i.x (i.xs.map (ev s)) = some (c, e, mk) ∧ chkX i.chk D (H ++ [.cells c e none false]) ∧ stepsX P l D (s.put i.dst (mk H.length)) (H ++ [.cells c e none false]) K
      | .act => ∃ v H', xact i.x H (i.xs.map (ev s)) = some (v, H') ∧ chkX i.chk D H' ∧ stepsX P l D (s.put i.dst v) H' K
      | .call => callX P (i.xs.map (ev s)) H fun v H' => chkX i.chk D H' ∧ stepsX P l D (s.put i.dst v) H' K
    else stepsX P l D (s.put i.dst undef) H K
def cguard (ops : Array Oper) (o : Oper) : Option (Option (Tmp × Bool)) :=
  match o.guard with
  | none => some none
  | some (j, want) => match (ops[j]?).bind (·.dst) with
    | some d => some (some (d, want))
    | none => none
theorem cguard_want {ops : Array Oper} {o : Oper} {g : Option (Tmp × Bool)} (h : cguard ops o = some g) (s : St) : wantedA ops s o = wantX g s := by
  unfold cguard at h
  unfold wantedA wantX
  split at h
  · rename_i e
    cases h
    simp [e]
  · rename_i j want e
    split at h
    · rename_i d hd
      cases h
      simp only [e, hd]
      cases s.env d <;> rfl
    · cases h
def dstOk (n : Nat) (d : Option Tmp) : Bool := match d with | some t => decide (t < n) | none => true
theorem dstOk_spec {n : Nat} {o : Option Tmp} (h : dstOk n o = true) : ∀ d, o = some d → d < n := by
  intro d hd; subst hd; simpa [dstOk] using h
def cstep (P : Program) (n : Nat) (ops : Array Oper) (j : Nat) : Option XS :=
  match ops[j]? with
  | some o => match cop P o, cguard ops o with
    | some x, some g => if dstOk n o.dst && o.op.operands.toList.all okX then some ⟨g, x, o.op.operands.toList, o.dst, j, false, []⟩ else none
    | _, _ => none
  | none => none
theorem callX_op {P : Program} {o : Oper} {vs : List Value} {H : AH} {R : Value → AH → Prop} (h : cop P o = some .call) (hc : callX P vs H R) : ∃ v H', R v H' ∧ OpSim P o vs H v H' := by
  have h : cop0 P o = some .call := by
    rcases cop_cases h with h | ⟨h, _⟩ | ⟨h, _⟩ | ⟨_, _, h, _⟩ | ⟨_, _, _, _, _, h, _⟩ | ⟨_, h, _⟩
    · exact h
    · cases h
    · cases h
    · cases h
    · cases h
    · cases h
  obtain ⟨c, f, ho, hcal⟩ : ∃ c f, o.op = .call c ∧ c.callee = .value f := by
    cases ho : o.op
    case call c =>
      simp only [cop0, ho] at h
      split at h
      · rename_i f hf; exact ⟨c, f, rfl, hf⟩
      all_goals exfalso
      all_goals (repeat' split at h)
      all_goals first | contradiction | (cases h; done)
    all_goals exfalso
    all_goals simp only [cop0, ho] at h
    all_goals (repeat' split at h)
    all_goals first | contradiction | (cases h; done) | (simp only [Option.map_eq_some_iff] at h; obtain ⟨_, _, h⟩ := h; cases h; done)
  unfold callX at hc
  split at hc
  · rename_i g first cap args
    obtain ⟨hcl, v, H', hR, hs⟩ := hc
    unfold callable at hcl
    split at hcl
    · rename_i fn hg
      simp only [Bool.and_eq_true, Bool.not_eq_true'] at hcl
      exact ⟨v, H', hR, opSim_call ho hcal hg hcl.1 hcl.2 hs⟩
    · cases hcl
  · rename_i l first cap args
    obtain ⟨h1, h2, v, H', hR, hs⟩ := hc
    have e1 : first = #[] := Array.eq_empty_of_size_eq_zero h1
    have e2 : cap = #[] := Array.eq_empty_of_size_eq_zero h2
    subst e1 e2
    exact ⟨v, H', hR, hs o c f ho hcal⟩
  · exact hc.elim
theorem steps_ops {P : Program} {n : Nat} {ops : Array Oper} : ∀ (l : List Nat) (xl : List XS) (D : List PL) (s : St) (H : AH) (K : St → AH → Prop), l.mapM (cstep P n ops) = some xl → stepsX P xl D s H K → opsW P n ops l s H K
  | [], xl, D, s, H, K, hm, h => by
    simp at hm; subst hm; exact h
  | j :: l, xl, D, s, H, K, hm, h => by
    simp only [List.mapM_cons, Option.bind_eq_bind, Option.bind_eq_some_iff] at hm
    obtain ⟨i, h1, xl', h2, h3⟩ := hm
    cases h3
    unfold cstep at h1
    split at h1
    · rename_i o ho
      split at h1
      · rename_i x g hx hg
        split at h1
        · rename_i hok
          simp only [Bool.and_eq_true] at hok
          cases h1
          refine ⟨o, ho, dstOk_spec hok.1, ?_⟩
          have hw := cguard_want hg s
          unfold stepsX at h
          simp only at h
          have hnd := cop_nd hx
          cases hwx : wantX g s with
          | false =>
            rw [hwx] at h hw
            refine .inl ⟨hw, steps_ops l xl' D _ H K h2 ?_⟩
            simpa using h
          | true =>
            rw [hwx] at h hw
            rw [if_pos rfl] at h
            refine .inr ⟨hw, hok.2, ?_⟩
            split at h
            · obtain ⟨v, q1, q2⟩ := h
              exact ⟨v, H, (xpure_sim hx q1 H).op hnd, steps_ops l xl' D _ _ K h2 q2⟩
            · obtain ⟨sz, v, rfl, q1, q2⟩ := h
              exact ⟨v, H, (xload_sim hx q1).op hnd, steps_ops l xl' _ _ _ K h2 q2⟩
            · obtain ⟨c, e, mk, q1, _, q2⟩ := h
              exact ⟨_, _, (xnew_sim hx q1).run.op hnd, steps_ops l xl' D _ _ K h2 q2⟩
            · obtain ⟨v, H', q1, _, q2⟩ := h
              exact ⟨v, H', (xact_sim hx q1).op hnd, steps_ops l xl' D _ _ K h2 q2⟩
            · rename_i hk
              have hxc : x = .call := by cases x <;> simp [XO.kind] at hk; rfl
              subst hxc
              obtain ⟨v, H', ⟨_, q2⟩, q1⟩ := callX_op hx h
              exact ⟨v, H', q1, steps_ops l xl' D _ _ K h2 q2⟩
        · cases h1
      · cases h1
    · cases h1
end Go.Sim

namespace Go.Sim
open Go
def isLd (P : Program) (ops : Array Oper) (j : Nat) : Bool := match ops[j]? with
  | some o => match cop P o with
    | some x => x.kind == .load
    | none => false
  | none => false
def cdraw (P : Program) (n : Nat) (ops : Array Oper) (r : Nat → Nat → Bool) (ch : List Nat) : List Nat → List Nat → Option (List XS)
  | _, [] => some []
  | before, j :: rest =>
    match ops[j]? with
    | some o => match cop P o, cguard ops o with
      | some x, some g =>
        if dstOk n o.dst && o.op.operands.toList.all okX then
          match cdraw P n ops r ch (j :: before) rest with
          | some l =>
            if ch.contains j then
              if x.kind == .new || x.kind == .act || x.kind == .call then
                some (⟨g, x, o.op.operands.toList, o.dst, j, false, before.filter fun p => isLd P ops p && !(r p j)⟩ :: l) else none
            else if x.kind == .pur || (x.kind == .new && before.all fun c => !(ch.contains c)) then some (⟨g, x, o.op.operands.toList, o.dst, j, false, []⟩ :: l)
            else if x.kind == .load then some (⟨g, x, o.op.operands.toList, o.dst, j, rest.any fun c => ch.contains c && !(r j c), []⟩ :: l)
            else none
          | none => none
        else none
      | _, _ => none
    | none => none
theorem xload_append {sz : Option Nat} {H : AH} {vs : List Value} {v : Value} (h : xload sz H vs = some v) (Y : AH) : xload sz (H ++ Y) vs = some v := by
  unfold xload at h ⊢
  split at h
  · rename_i a
    split at h
    · rename_i c e o r h1 h2
      have hlt : a.block < H.length := (List.getElem?_eq_some_iff.1 h1).1
      simp only [List.getElem?_append_left hlt, h1, h2]
      exact h
    · cases h
  · cases h
structure DLink (P : Program) (ops : Array Oper) (r : Nat → Nat → Bool) (ch before rest : List Nat) (D : List Pend) (DL : List PL) (H : AH) : Prop where
  q : ∀ p ∈ D, p.kind = .quiet → p.j ∈ before ∧ isLd P ops p.j = true ∧ ∃ sz, cop P p.o = some (.ld sz) ∧
    ((∃ c ∈ rest, c ∈ ch ∧ r p.j c = false) → (⟨p.j, sz, p.vs, p.v⟩ : PL) ∈ DL) ∧
    ((∀ c ∈ before, c ∉ ch) → xload sz H p.vs = some p.v)
theorem DLink.other {P : Program} {ops : Array Oper} {r : Nat → Nat → Bool} {ch before rest : List Nat} {D : List Pend} {DL : List PL} {H H' : AH} {j : Nat} (h : DLink P ops r ch before (j :: rest) D DL H)
    (hH : (∀ c ∈ j :: before, c ∉ ch) → ∀ sz vs v, xload sz H vs = some v → xload sz H' vs = some v) {p0 : Pend} (hp0 : p0.kind ≠ .quiet) : DLink P ops r ch (j :: before) rest (p0 :: D) DL H' := by
  refine ⟨fun p hp hk => ?_⟩
  rcases List.mem_cons.1 hp with rfl | hp
  · exact absurd hk hp0
  · obtain ⟨h1, h2, sz, h3, h4, h5⟩ := h.q p hp hk
    exact ⟨List.mem_cons_of_mem _ h1, h2, sz, h3, fun ⟨c, hc, hcc⟩ => h4 ⟨c, List.mem_cons_of_mem _ hc, hcc⟩, fun hb => hH hb _ _ _ (h5 fun c hc => hb c (List.mem_cons_of_mem _ hc))⟩
theorem DLink.chain {P : Program} {ops : Array Oper} {r : Nat → Nat → Bool} {ch before rest : List Nat} {D : List Pend} {DL : List PL} {H H' : AH} {j : Nat} (h : DLink P ops r ch before (j :: rest) D DL H)
    (hj : j ∈ ch) : DLink P ops r ch (j :: before) rest D DL H' := by
  refine ⟨fun p hp hk => ?_⟩
  obtain ⟨h1, h2, sz, h3, h4, h5⟩ := h.q p hp hk
  exact ⟨List.mem_cons_of_mem _ h1, h2, sz, h3, fun ⟨c, hc, hcc⟩ => h4 ⟨c, List.mem_cons_of_mem _ hc, hcc⟩, fun hb => absurd hj (hb j (by simp))⟩
theorem steps_draw {P : Program} {n : Nat} {ops : Array Oper} {ch : List Nat} : ∀ (l before : List Nat) (xl : List XS) (D : List Pend) (DL : List PL) (s : St) (H : AH) (K : St → AH → Prop), cdraw P n ops (bef ops) ch before l = some xl →
    DLink P ops (bef ops) ch before l D DL H → stepsX P xl DL s H K → drawW P n ops ch l D s H K
  | [], before, xl, D, DL, s, H, K, hm, hD, h => by
    simp [cdraw] at hm; subst hm; exact h
  | j :: l, before, xl, D, DL, s, H, K, hm, hD, h => by
    unfold cdraw at hm
    split at hm
    · rename_i o ho
      split at hm
      · rename_i x g hx hg
        split at hm
        · rename_i hok
          simp only [Bool.and_eq_true] at hok
          have hnd := cop_nd hx
          have hw := cguard_want hg s
          split at hm
          · rename_i xl' hl
            refine ⟨o, ho, dstOk_spec hok.1, ?_⟩
            split at hm
            · rename_i hch
              have hjc : j ∈ ch := by simpa using hch
              split at hm
              · rename_i hk
                cases hm
                unfold stepsX at h
                simp only at h
                cases hwx : wantX g s with
                | false =>
                  rw [hwx] at h hw
                  exact .inr (.inl ⟨hw, hjc, steps_draw l _ xl' D DL _ H K hl (hD.chain hjc) (by simpa using h)⟩)
                | true =>
                  rw [hwx] at h hw
                  rw [if_pos rfl] at h
                  refine .inr (.inr ⟨hw, hok.2, .inr (.inr (.inr ⟨hjc, ?_⟩))⟩)
                  have hchk : ∀ H1, chkX (before.filter fun p => isLd P ops p && !(bef ops p j)) DL H1 → ∀ p ∈ D, p.kind = .quiet → bef ops p.j j = false → OpSim P p.o p.vs H1 p.v H1 := by
                    intro H1 hc p hp hpk hb
                    obtain ⟨q1, q2, sz, q3, q4, _⟩ := hD.q p hp hpk
                    have := hc _ (q4 ⟨j, by simp, hjc, hb⟩) (by simp [q1, q2, hb])
                    exact (xload_sim q3 this).op (cop_nd q3)
                  split at h
                  · rename_i hkk; rw [hkk] at hk; simp at hk
                  · rename_i hkk; rw [hkk] at hk; simp at hk
                  · obtain ⟨c, e, mk, q1, q0, q2⟩ := h
                    exact ⟨_, _, (xnew_sim hx q1).run.op hnd, hchk _ q0, steps_draw l _ xl' D DL _ _ K hl (hD.chain hjc) q2⟩
                  · obtain ⟨v, H', q1, q0, q2⟩ := h
                    exact ⟨v, H', (xact_sim hx q1).op hnd, hchk _ q0, steps_draw l _ xl' D DL _ _ K hl (hD.chain hjc) q2⟩
                  · rename_i hk2
                    have hxc : x = .call := by cases x <;> simp [XO.kind] at hk2; rfl
                    subst hxc
                    obtain ⟨v, H', ⟨q0, q2⟩, q1⟩ := callX_op hx h
                    exact ⟨v, H', q1, hchk _ q0, steps_draw l _ xl' D DL _ _ K hl (hD.chain hjc) q2⟩
              · cases hm
            · rename_i hch
              have hjc : j ∉ ch := by simpa using hch
              split at hm
              · rename_i hk
                cases hm
                unfold stepsX at h
                simp only at h
                cases hwx : wantX g s with
                | false =>
                  rw [hwx] at h hw
                  exact .inl ⟨hw, hjc, steps_draw l _ xl' _ DL _ H K hl (hD.other (fun _ _ _ _ h => h) (by simp)) (by simpa using h)⟩
                | true =>
                  rw [hwx] at h hw
                  rw [if_pos rfl] at h
                  refine .inr (.inr ⟨hw, hok.2, ?_⟩)
                  split at h
                  · obtain ⟨v, q1, q2⟩ := h
                    exact .inl ⟨hjc, v, fun H => (xpure_sim hx q1 H).op hnd, steps_draw l _ xl' _ DL _ H K hl (hD.other (fun _ _ _ _ h => h) (by simp)) q2⟩
                  · rename_i hkk; rw [hkk] at hk; simp at hk
                  · rename_i hkk
                    rw [hkk] at hk
                    obtain ⟨c, e, mk, q1, _, q2⟩ := h
                    have hb : ∀ c ∈ before, c ∉ ch := by simpa using hk
                    refine .inr (.inr (.inl ⟨hjc, c, e, mk, xnew_sim hx q1, fun p hp hpk => ?_, steps_draw l _ xl' _ DL _ _ K hl (hD.other (fun _ _ _ _ h => xload_append h _) (by simp)) q2⟩))
                    obtain ⟨_, _, sz, q3, _, q5⟩ := hD.q p hp hpk
                    exact (xload_sim q3 (xload_append (q5 hb) _)).op (cop_nd q3)
                  · rename_i hkk; rw [hkk] at hk; simp at hk
                  · rename_i hkk; rw [hkk] at hk; simp at hk
              · split at hm
                · rename_i hk0 hk
                  cases hm
                  unfold stepsX at h
                  simp only at h
                  cases hwx : wantX g s with
                  | false =>
                    rw [hwx] at h hw
                    exact .inl ⟨hw, hjc, steps_draw l _ xl' _ DL _ H K hl (hD.other (fun _ _ _ _ h => h) (by simp)) (by simpa using h)⟩
                  | true =>
                    rw [hwx] at h hw
                    rw [if_pos rfl] at h
                    refine .inr (.inr ⟨hw, hok.2, ?_⟩)
                    have hk' : x.kind = .load := by simpa using hk
                    rw [hk'] at h
                    obtain ⟨sz, v, rfl, q1, q2⟩ := h
                    refine .inr (.inl ⟨hjc, v, (xload_sim hx q1).op hnd, steps_draw l _ xl' _ _ _ H K hl ⟨fun p hp hpk => ?_⟩ q2⟩)
                    rcases List.mem_cons.1 hp with rfl | hp
                    · refine ⟨by simp, by simp [isLd, ho, hx, XO.kind], sz, hx, fun ⟨c, hc, hcc, hcb⟩ => ?_, fun _ => q1⟩
                      rw [if_pos (by simp only [List.any_eq_true, Bool.and_eq_true, List.contains_eq_mem, decide_eq_true_eq, Bool.not_eq_true']; exact ⟨c, hc, hcc, hcb⟩)]
                      exact List.mem_cons_self ..
                    · obtain ⟨h1, h2, sz', h3, h4, h5⟩ := hD.q p hp hpk
                      refine ⟨List.mem_cons_of_mem _ h1, h2, sz', h3, fun ⟨c, hc, hcc⟩ => ?_, fun hb => h5 fun c hc => hb c (List.mem_cons_of_mem _ hc)⟩
                      have := h4 ⟨c, List.mem_cons_of_mem _ hc, hcc⟩
                      split
                      · exact List.mem_cons_of_mem _ this
                      · exact this
                · cases hm
          · cases hm
        · cases hm
      · cases hm
    · cases hm
def effK (ks : List XK) (j : Nat) : Bool := match ks[j]? with | some .act => true | some .call => true | _ => false
def readyP (ops : Array Oper) (done : List Nat) (j : Nat) : Bool := (edges ops j).all fun k => done.contains k
def planG (ops : Array Oper) (ks : List XK) : Nat → List Nat → List Nat → List Nat
  | 0, _, _ => []
  | f + 1, done, todo => match todo.find? fun j => !(effK ks j) && readyP ops done j with
    | some j => j :: planG ops ks f (j :: done) (todo.erase j)
    | none => match todo.find? fun j => readyP ops done j with
      | some j => j :: planG ops ks f (j :: done) (todo.erase j)
      | none => []
def chG (ks : List XK) : Bool → List Nat → List Nat
  | _, [] => []
  | seen, j :: l => if effK ks j then j :: chG ks true l else if seen && (match ks[j]? with | some .new => true | _ => false) then j :: chG ks seen l else chG ks seen l
def creg (P : Program) (n : Nat) (ops : Array Oper) (draw : Bool) : Option (List XS) :=
  if draw then
    let ks := ops.toList.map fun o => match cop P o with | some x => x.kind | none => .pur
    let ord := planG ops ks ops.size [] (List.range ops.size)
    let ch := chG ks false ord
    let ms := masksTo ops ops.size
    if lowE ops && okDw (maskR ms) ops ord ch then cdraw P n ops (maskR ms) ch [] ord else none
  else (List.range ops.size).mapM (cstep P n ops)
theorem creg_sound {P : Program} (hm : P.follows .mixedOrders = true) {n : Nat} {ro : Option Nat} {id : Nat} {ops : Array Oper} {draw : Bool} {l : List XS} (h : creg P n ops draw = some l) {s : St} {H : AH} {Q : AX → St → AH → Prop}
    (hs : stepsX P l [] s H (Q .normal)) : W P n ro (.region id ops draw) s H Q := by
  unfold creg at h
  split at h
  · rename_i hd
    subst hd
    simp only at h
    split at h
    · rename_i hok
      simp only [Bool.and_eq_true] at hok
      have e : maskR (masksTo ops ops.size) = bef ops := by
        funext m j
        rw [bef_masks (lowE_spec hok.1)]
        rfl
      have hok2 := okDw_masks hok.1 hok.2
      rw [e] at h
      exact W.draw hm hok2 (steps_draw _ _ _ _ _ _ _ _ h ⟨fun p hp => by cases hp⟩ hs)
    · cases h
  · rename_i hd
    have : draw = false := by simpa using hd
    subst this
    exact W.region (steps_ops _ _ _ _ _ _ h hs)
def comp (P : Program) (n : Nat) : Code → Option XC
  | .skip => some .skip
  | .exit id => some (.exit id)
  | .ret => some .ret
  | .seq a b => match comp P n a, comp P n b with
    | some xa, some xb => some (.seq xa xb)
    | _, _ => none
  | .cond c a b => match okX c, comp P n a, comp P n b with
    | true, some xa, some xb => some (.cond c xa xb)
    | _, _, _ => none
  | .block id a => (comp P n a).map (.block id)
  | .loop a => (comp P n a).map .loop
  | .region _ ops draw => (creg P n ops draw).map .reg
  | .rangeFunc f ps assign body => match okX f, comp P n assign, comp P n body with
    | true, some xa, some xb => some (.range f ps xa xb)
    | _, _, _ => none
  | _ => none
def loopX (body : St → AH → (AX → St → AH → Prop) → Prop) (s : St) (H : AH) (Q : AX → St → AH → Prop) : Prop :=
  ∃ (I : St → AH → Prop) (μ : St → AH → Nat), I s H ∧ ∀ s H, I s H → body s H (AX.then (fun s' H' => I s' H' ∧ μ s' H' < μ s H) Q)
def X (P : Program) (n : Nat) (ro : Option Nat) : XC → St → AH → (AX → St → AH → Prop) → Prop
  | .skip, s, H, Q => Q .normal s H
  | .exit id, s, H, Q => Q (.exit id) s H
  | .ret, s, H, Q => Q .ret s H
  | .seq a b, s, H, Q => X P n ro a s H (AX.then (fun s H => X P n ro b s H Q) Q)
  | .cond c a b, s, H, Q => ∃ t, ev s c = .bool t ∧ if t then X P n ro a s H Q else X P n ro b s H Q
  | .block id a, s, H, Q => X P n ro a s H (AX.inBlock id Q)
  | .loop a, s, H, Q => loopX (X P n ro a) s H Q
  | .reg l, s, H, Q => stepsX P l [] s H (Q .normal)
  | .range f ps xa xb, s, H, Q => ∀ assign body, comp P n assign = some xa → comp P n body = some xb → W P n ro (.rangeFunc f ps assign body) s H Q
theorem comp_sound {P : Program} (hm : P.follows .mixedOrders = true) {n : Nat} {ro : Option Nat} (c : Code) : ∀ (xc : XC) (s : St) (H : AH) (Q : AX → St → AH → Prop), comp P n c = some xc → X P n ro xc s H Q → W P n ro c s H Q := by
  induction c with
  | skip => intro xc s H Q hc h; simp [comp] at hc; subst hc; exact W.skip h
  | exit id => intro xc s H Q hc h; simp [comp] at hc; subst hc; exact W.exit h
  | ret => intro xc s H Q hc h; simp [comp] at hc; subst hc; exact W.ret h
  | seq a b iha ihb =>
    intro xc s H Q hc h
    simp only [comp] at hc
    split at hc
    · rename_i xa xb ha hb
      cases hc
      refine W.seq (W.mono (iha _ _ _ _ ha h) fun x s' H' hx => ?_)
      cases x with
      | normal => exact ihb _ _ _ _ hb hx
      | exit id => exact hx
      | ret => exact hx
    · cases hc
  | cond c a b iha ihb =>
    intro xc s H Q hc h
    simp only [comp] at hc
    split at hc
    · rename_i xa xb hk ha hb
      cases hc
      obtain ⟨t, ht, h⟩ := h
      refine W.cond hk ht ?_
      cases t with
      | true => exact iha _ _ _ _ ha (by simpa using h)
      | false => exact ihb _ _ _ _ hb (by simpa using h)
    · cases hc
  | block id a ih =>
    intro xc s H Q hc h
    simp only [comp, Option.map_eq_some_iff] at hc
    obtain ⟨xa, ha, rfl⟩ := hc
    exact W.block (ih _ _ _ _ ha h)
  | loop a ih =>
    intro xc s H Q hc h
    simp only [comp, Option.map_eq_some_iff] at hc
    obtain ⟨xa, ha, rfl⟩ := hc
    obtain ⟨I, μ, h0, hr⟩ := h
    exact W.loop I μ h0 fun s H hI => ih _ _ _ _ ha (hr s H hI)
  | region id ops draw =>
    intro xc s H Q hc h
    simp only [comp, Option.map_eq_some_iff] at hc
    obtain ⟨l, ha, rfl⟩ := hc
    exact creg_sound hm ha h
  | rangeFunc f ps assign body iha ihb =>
    intro xc s H Q hc h
    simp only [comp] at hc
    split at hc
    · rename_i xa xb _ ha hb
      cases hc; exact h _ _ ha hb
    · cases hc
  | _ => intro xc s H Q hc h; simp [comp] at hc
inductive XRes where
  | tmp (t : Tmp)
  | cell (a : Tmp) (sz : Option Nat)
structure XF where
  n : Nat
  res : List XRes
  body : XC
def cres (P : Program) : ResultVar → Option XRes
  | .tmp t => some (.tmp t)
  | .cell a t => (partT P t).map (.cell a)
def compF (P : Program) (f : FuncId) : Option XF :=
  match P.funcs[f]? with
  | some fn => if fn.name == "runtime.NumGoroutine" then none else
    match fn.body with
    | some c => match comp P fn.ntmps c, fn.results.toList.mapM (cres P) with
      | some x, some r => some ⟨fn.ntmps, r, x⟩
      | _, _ => none
    | none => none
  | none => none
def xres (H : AH) (s : St) : XRes → Option Value
  | .tmp t => some (s.env t)
  | .cell a sz => xload sz H [s.env a]
def xress (H : AH) (s : St) (l : List XRes) : Option Value :=
  match l.mapM (xres H s) with
  | some [v] => some v
  | some vs => some (.tuple vs.toArray)
  | none => none
def bodyX (res : List XRes) (R : Value → AH → Prop) : AX → St → AH → Prop
  | .exit _, _, _ => False
  | _, s, H => ∃ H' v, unwA s.ds H = some H' ∧ xress H' s res = some v ∧ R v H'
theorem xres_ok {P : Program} {r : ResultVar} {x : XRes} (h : cres P r = some x) {H : AH} {s : St} {v : Value} (hv : xres H s x = some v) : resA P H s r = some v := by
  cases r with
  | tmp t => simp [cres] at h; subst h; exact hv
  | cell a t =>
    simp only [cres, Option.map_eq_some_iff] at h
    obtain ⟨sz, hp, rfl⟩ := h
    simp only [xres, xload] at hv
    split at hv
    · rename_i ad e
      simp only [List.cons.injEq, and_true] at e
      simp only [resA, e]
      split at hv
      · rename_i c el op ro h1 h2
        simp only [eload, h1, h2]
        unfold partT at hp
        split at hp
        · cases hp
        · rename_i hn
          rw [if_neg hn]
          split at hp
          · rename_i hag
            rw [if_pos hag]
            simp only [Option.map_eq_some_iff] at hp
            obtain ⟨n, h3, rfl⟩ := hp
            simp only [h3]
            exact hv
          · rename_i hag
            cases hp
            rw [if_neg hag]
            exact hv
      · cases hv
    · cases hv
theorem xress_ok {P : Program} {H : AH} {s : St} {rs : List ResultVar} {xs : List XRes} (h : rs.mapM (cres P) = some xs) {v : Value} (hv : xress H s xs = some v) : ressA P H s rs = some v := by
  have key : ∀ (rs : List ResultVar) (xs : List XRes) (vs : List Value), rs.mapM (cres P) = some xs → xs.mapM (xres H s) = some vs → rs.mapM (resA P H s) = some vs := by
    intro rs
    induction rs with
    | nil => intro xs vs h1 h2; simp at h1; subst h1; simpa using h2
    | cons r rs ih =>
      intro xs vs h1 h2
      simp only [List.mapM_cons, Option.bind_eq_bind, Option.bind_eq_some_iff] at h1
      obtain ⟨x, q1, y, q2, q3⟩ := h1
      cases q3
      simp only [List.mapM_cons, Option.bind_eq_bind, Option.bind_eq_some_iff] at h2
      obtain ⟨v, p1, w, p2, p3⟩ := h2
      cases p3
      simp only [List.mapM_cons, xres_ok q1 p1, ih _ _ q2 p2]
      rfl
  unfold xress at hv
  unfold ressA
  cases hm : xs.mapM (xres H s) with
  | none => rw [hm] at hv; cases hv
  | some vs =>
    rw [hm] at hv
    rw [key _ _ _ h hm]
    exact hv
theorem FN.of_comp {P : Program} (hm : P.follows .mixedOrders = true) {f : FuncId} {xf : XF} (hf : compF P f = some xf) {args : List Value} {H : AH} {R : Value → AH → Prop} (hn : args.length ≤ xf.n)
    (h : X P xf.n none xf.body ⟨env0 args, []⟩ H (bodyX xf.res R)) : FN P f args H R := by
  unfold compF at hf
  split at hf
  · rename_i fn hfn
    split at hf
    · cases hf
    · rename_i hname
      split at hf
      · rename_i c hb
        split at hf
        · rename_i x r hx hr
          cases hf
          refine ⟨by simp [callable, hfn, hb]; simpa using hname, F.of_body hfn hb hn (W.mono (comp_sound hm c _ _ _ _ hx h) fun x s H hq => ?_)⟩
          cases x with
          | exit id => exact hq
          | normal =>
            obtain ⟨H', v, q1, q2, q3⟩ := hq
            exact ⟨H', v, q1, xress_ok hr q2, q3⟩
          | ret =>
            obtain ⟨H', v, q1, q2, q3⟩ := hq
            exact ⟨H', v, q1, xress_ok hr q2, q3⟩
        · cases hf
      · cases hf
  · cases hf
abbrev nv (n : Nat) : Value := .int .i64 n
end Go.Sim

namespace Go.Sim
open Go
theorem ev_tmp (s : St) (t : Tmp) : ev s (.tmp t) = s.env t := _root_.id rfl
theorem ev_const (s : St) (v : Value) : ev s (.const v) = v := _root_.id rfl
theorem ev_func (s : St) (f : FuncId) : ev s (.func f) = .func (.func f) #[] #[] := _root_.id rfl
theorem put_env (s : St) (d : Tmp) (v : Value) (t : Tmp) : (s.put (some d) v).env t = if t = d then v else s.env t := _root_.id rfl
theorem put_none (s : St) (v : Value) : s.put none v = s := _root_.id rfl
theorem put_dsS (s : St) (d : Tmp) (v : Value) : (s.put (some d) v).ds = s.ds := _root_.id rfl
theorem env0_at (args : List Value) (t : Tmp) : env0 args t = args.getD t undef := _root_.id rfl
theorem env0_env (args : List Value) (ds : List Deferred) (t : Tmp) : (⟨env0 args, ds⟩ : St).env t = args.getD t undef := _root_.id rfl
section
variable {P : Program} {n : Nat} {ro : Option Nat} {s : St} {H : AH} {Q : AX → St → AH → Prop} {K : St → AH → Prop} {l : List XS} {D : List PL} {g : Option (Tmp × Bool)} {xs : List Operand} {d : Option Tmp} {j : Nat} {kp : Bool} {chk : List Nat} {a b c : Operand} {x : XO}
theorem steps_guard {t : Tmp} {w : Bool} : stepsX P (⟨some (t, w), x, xs, d, j, kp, chk⟩ :: l) D s H K = ((wantX (some (t, w)) s = true → stepsX P (⟨none, x, xs, d, j, kp, chk⟩ :: l) D s H K) ∧ (wantX (some (t, w)) s = false → stepsX P l D (s.put d undef) H K)) := by
  apply propext
  cases h : wantX (some (t, w)) s
  · constructor
    · intro q
      unfold stepsX at q
      simp only [h] at q
      exact ⟨fun h => by simp at h, fun _ => by simpa using q⟩
    · intro q
      unfold stepsX
      simp only [h]
      simpa using q.2 rfl
  · constructor
    · intro q
      unfold stepsX at q
      simp only [h] at q
      refine ⟨fun _ => ?_, fun h => by simp at h⟩
      unfold stepsX
      simp only [wantX]
      exact q
    · intro q
      have := q.1 rfl
      unfold stepsX at this ⊢
      simp only [h]
      simp only [wantX] at this
      exact this
theorem steps_guardI {t : Tmp} {w : Bool} : stepsX P (⟨some (t, w), x, xs, d, j, kp, chk⟩ :: l) D s H K = if wantX (some (t, w)) s = true then stepsX P (⟨none, x, xs, d, j, kp, chk⟩ :: l) D s H K else stepsX P l D (s.put d undef) H K := by
  rw [steps_guard]
  by_cases h : wantX (some (t, w)) s = true
  · simp [h]
  · simp [h]
def asB : Value → Bool
  | .bool b => b
  | _ => false
def asNB : Value → Bool
  | .bool b => !b
  | _ => false
theorem asB_bool {b : Bool} : asB (.bool b) = b := _root_.id rfl
theorem asNB_bool {b : Bool} : asNB (.bool b) = !b := _root_.id rfl
theorem wantX_true {t : Tmp} : wantX (some (t, true)) s = asB (s.env t) := by
  rw [show wantX (some (t, true)) s = (match s.env t with | .bool b => b == true | _ => false) from rfl]
  generalize s.env t = v
  cases v <;> simp [asB]
theorem wantX_false {t : Tmp} : wantX (some (t, false)) s = asNB (s.env t) := by
  rw [show wantX (some (t, false)) s = (match s.env t with | .bool b => b == false | _ => false) from rfl]
  generalize s.env t = v
  cases v <;> simp [asNB]
theorem steps_pur (hk : x.kind = .pur) : stepsX P (⟨none, x, xs, d, j, kp, chk⟩ :: l) D s H K = ∃ v, xpure x (xs.map (ev s)) = some v ∧ stepsX P l D (s.put d v) H K := by
  conv => lhs; unfold stepsX
  simp only [wantX, if_true, hk]
theorem steps_mov : stepsX P (⟨none, .mov, [a], d, j, kp, chk⟩ :: l) D s H K = stepsX P l D (s.put d (ev s a)) H K := by
  rw [steps_pur rfl]; simp [xpure]
theorem steps_pick : stepsX P (⟨none, .pick, [c, a, b], d, j, kp, chk⟩ :: l) D s H K = ∃ t, ev s c = .bool t ∧ stepsX P l D (s.put d (if t then ev s a else ev s b)) H K := by
  rw [steps_pur rfl]
  apply propext
  constructor
  · rintro ⟨v, h1, h2⟩
    obtain ⟨t, x, y, h3, h4⟩ := xp_pick h1
    simp at h3
    obtain ⟨e1, e2, e3⟩ := h3
    subst h4
    exact ⟨t, e1, by rw [e2, e3]; exact h2⟩
  · rintro ⟨t, h1, h2⟩
    exact ⟨_, by simp [xpure, h1], h2⟩
theorem steps_bin {op : BinOp} {m : Nat} : stepsX P (⟨none, .bin op m, [a, b], d, j, kp, chk⟩ :: l) D s H K = ∃ v, xbin op m (ev s a) (ev s b) = some v ∧ stepsX P l D (s.put d v) H K := steps_pur rfl
theorem steps_un {op : UnOp} : stepsX P (⟨none, .un op, [a], d, j, kp, chk⟩ :: l) D s H K = ∃ v, eun op (ev s a) = some v ∧ stepsX P l D (s.put d v) H K := steps_pur rfl
theorem steps_conv {k : IntKind} : stepsX P (⟨none, .conv k, [a], d, j, kp, chk⟩ :: l) D s H K = ∃ v, xpure (.conv k) [ev s a] = some v ∧ stepsX P l D (s.put d v) H K := steps_pur rfl
theorem steps_ext {ix : Nat} : stepsX P (⟨none, .ext ix, [a], d, j, kp, chk⟩ :: l) D s H K = ∃ v, xpure (.ext ix) [ev s a] = some v ∧ stepsX P l D (s.put d v) H K := steps_pur rfl
theorem steps_fld {off : Nat} : stepsX P (⟨none, .fld off, [a], d, j, kp, chk⟩ :: l) D s H K = ∃ v, xpure (.fld off) [ev s a] = some v ∧ stepsX P l D (s.put d v) H K := steps_pur rfl
theorem steps_ixA {n sz : Nat} : stepsX P (⟨none, .ixA n sz, [a, b], d, j, kp, chk⟩ :: l) D s H K = ∃ v, xpure (.ixA n sz) [ev s a, ev s b] = some v ∧ stepsX P l D (s.put d v) H K := steps_pur rfl
theorem steps_ixS {sz : Nat} : stepsX P (⟨none, .ixS sz, [a, b], d, j, kp, chk⟩ :: l) D s H K = ∃ v, xpure (.ixS sz) [ev s a, ev s b] = some v ∧ stepsX P l D (s.put d v) H K := steps_pur rfl
theorem steps_slA {n sz : Nat} {lo hi : Bool} : stepsX P (⟨none, .slA n sz lo hi, xs, d, j, kp, chk⟩ :: l) D s H K = ∃ v, xpure (.slA n sz lo hi) (xs.map (ev s)) = some v ∧ stepsX P l D (s.put d v) H K := steps_pur rfl
theorem steps_slS {sz : Nat} {lo hi : Bool} : stepsX P (⟨none, .slS sz lo hi, xs, d, j, kp, chk⟩ :: l) D s H K = ∃ v, xpure (.slS sz lo hi) (xs.map (ev s)) = some v ∧ stepsX P l D (s.put d v) H K := steps_pur rfl
theorem steps_fn {g : FuncId} {nf nc : Nat} : stepsX P (⟨none, .fn g nf nc, xs, d, j, kp, chk⟩ :: l) D s H K = ∃ v, xpure (.fn g nf nc) (xs.map (ev s)) = some v ∧ stepsX P l D (s.put d v) H K := steps_pur rfl
theorem steps_lenA {n : Nat} : stepsX P (⟨none, .lenA n, [a], d, j, kp, chk⟩ :: l) D s H K = stepsX P l D (s.put d (.int .i64 n)) H K := by rw [steps_pur rfl]; simp [xpure]
theorem steps_lenS : stepsX P (⟨none, .lenS, [a], d, j, kp, chk⟩ :: l) D s H K = ∃ v, xpure .lenS [ev s a] = some v ∧ stepsX P l D (s.put d v) H K := steps_pur rfl
theorem steps_lenT : stepsX P (⟨none, .lenT, [a], d, j, kp, chk⟩ :: l) D s H K = ∃ v, xpure .lenT [ev s a] = some v ∧ stepsX P l D (s.put d v) H K := steps_pur rfl
theorem steps_min2 : stepsX P (⟨none, .min2, [a, b], d, j, kp, chk⟩ :: l) D s H K = ∃ v, xpure .min2 [ev s a, ev s b] = some v ∧ stepsX P l D (s.put d v) H K := steps_pur rfl
theorem steps_max2 : stepsX P (⟨none, .max2, [a, b], d, j, kp, chk⟩ :: l) D s H K = ∃ v, xpure .max2 [ev s a, ev s b] = some v ∧ stepsX P l D (s.put d v) H K := steps_pur rfl
theorem steps_bld {init : List Value} {pl : List (Nat × Nat)} : stepsX P (⟨none, .bld init pl, xs, d, j, kp, chk⟩ :: l) D s H K = ∃ v, xfill init pl (xs.map (ev s)) = some v ∧ stepsX P l D (s.put d (.agg v.toArray)) H K := by
  rw [steps_pur rfl]
  apply propext
  constructor
  · rintro ⟨v, h1, h2⟩
    obtain ⟨a, h3, rfl⟩ := xp_bld h1
    exact ⟨a, h3, h2⟩
  · rintro ⟨a, h, h1⟩
    exact ⟨_, by simp [xpure, h], h1⟩
theorem steps_prt {sz : Option Nat} {off : Nat} : stepsX P (⟨none, .prt sz off, [a], d, j, kp, chk⟩ :: l) D s H K = ∃ v, xpure (.prt sz off) [ev s a] = some v ∧ stepsX P l D (s.put d v) H K := steps_pur rfl
theorem steps_ixV {len es : Nat} {sz : Option Nat} : stepsX P (⟨none, .ixV len es sz, [a, b], d, j, kp, chk⟩ :: l) D s H K = ∃ v, xpure (.ixV len es sz) [ev s a, ev s b] = some v ∧ stepsX P l D (s.put d v) H K := steps_pur rfl
theorem steps_ld {sz : Option Nat} : stepsX P (⟨none, .ld sz, [a], d, j, kp, chk⟩ :: l) D s H K = ∃ v, xload sz H [ev s a] = some v ∧ stepsX P l (if kp then ⟨j, sz, [ev s a], v⟩ :: D else D) (s.put d v) H K := by
  conv => lhs; unfold stepsX
  simp [wantX, XO.kind]
theorem steps_new_ (hk : x.kind = .new) : stepsX P (⟨none, x, xs, d, j, kp, chk⟩ :: l) D s H K = ∃ c e mk, xnew x (xs.map (ev s)) = some (c, e, mk) ∧ chkX chk D (H ++ [.cells c e none false]) ∧ stepsX P l D (s.put d (mk H.length)) (H ++ [.cells c e none false]) K := by
  conv => lhs; unfold stepsX
  simp only [wantX, if_true, hk]
theorem chkX_nil {D : List PL} {H : AH} : chkX [] D H = True := by simp [chkX]
theorem steps_new {c : List Value} {e : TypeId} : stepsX P (⟨none, .new c e, [], d, j, kp, chk⟩ :: l) D s H K = (chkX chk D (H ++ [.cells c e none false]) ∧ stepsX P l D (s.put d (.pointer (some ⟨H.length, 0, none⟩))) (H ++ [.cells c e none false]) K) := by
  rw [steps_new_ rfl]
  apply propext
  constructor
  · rintro ⟨c', e', mk, h1, h2, h3⟩
    simp only [List.map_nil, xnew, Option.some.injEq, Prod.mk.injEq] at h1
    obtain ⟨rfl, rfl, rfl⟩ := h1
    exact ⟨h2, h3⟩
  · rintro ⟨h2, h3⟩
    exact ⟨_, _, _, rfl, h2, h3⟩
theorem steps_box {e : TypeId} : stepsX P (⟨none, .box e, [a], d, j, kp, chk⟩ :: l) D s H K = (chkX chk D (H ++ [.cells (cellsL (ev s a)) e none false]) ∧ stepsX P l D (s.put d (.pointer (some ⟨H.length, 0, none⟩))) (H ++ [.cells (cellsL (ev s a)) e none false]) K) := by
  rw [steps_new_ rfl]
  apply propext
  constructor
  · rintro ⟨c', e', mk, h1, h2, h3⟩
    simp only [List.map_cons, List.map_nil, xnew, Option.some.injEq, Prod.mk.injEq] at h1
    obtain ⟨rfl, rfl, rfl⟩ := h1
    exact ⟨h2, h3⟩
  · rintro ⟨h2, h3⟩
    exact ⟨_, _, _, rfl, h2, h3⟩
theorem steps_make {z : Value} {sz bytes : Nat} {e : TypeId} : stepsX P (⟨none, .make z sz bytes e, [a, b], d, j, kp, chk⟩ :: l) D s H K = ∃ c e' mk, xnew (.make z sz bytes e) [ev s a, ev s b] = some (c, e', mk) ∧ chkX chk D (H ++ [.cells c e' none false]) ∧ stepsX P l D (s.put d (mk H.length)) (H ++ [.cells c e' none false]) K := steps_new_ rfl
theorem steps_bsl {init : List Value} {len : Nat} {pl : List (Nat × Nat)} {e : TypeId} : stepsX P (⟨none, .bsl init len pl e, xs, d, j, kp, chk⟩ :: l) D s H K = ∃ c, xfill init pl (xs.map (ev s)) = some c ∧ chkX chk D (H ++ [.cells c e none false]) ∧ stepsX P l D (s.put d (.slice (some ⟨H.length, 0, none⟩) len len)) (H ++ [.cells c e none false]) K := by
  rw [steps_new_ rfl]
  apply propext
  constructor
  · rintro ⟨c', e', mk, h1, h2, h3⟩
    simp only [xnew] at h1
    split at h1
    · rename_i c hc
      simp only [Option.some.injEq, Prod.mk.injEq] at h1
      obtain ⟨rfl, rfl, rfl⟩ := h1
      exact ⟨_, hc, h2, h3⟩
    · cases h1
  · rintro ⟨c, h1, h2, h3⟩
    exact ⟨c, e, mkSl len len, by simp only [xnew, h1], h2, h3⟩
theorem steps_act_ (hk : x.kind = .act) : stepsX P (⟨none, x, xs, d, j, kp, chk⟩ :: l) D s H K = ∃ v H', xact x H (xs.map (ev s)) = some (v, H') ∧ chkX chk D H' ∧ stepsX P l D (s.put d v) H' K := by
  conv => lhs; unfold stepsX
  simp only [wantX, if_true, hk]
theorem steps_st {sz : Nat} : stepsX P (⟨none, .st sz, [a, b], d, j, kp, chk⟩ :: l) D s H K = ∃ v H', xact (.st sz) H [ev s a, ev s b] = some (v, H') ∧ chkX chk D H' ∧ stepsX P l D (s.put d v) H' K := steps_act_ rfl
theorem steps_app {e : TypeId} {sz bytes : Nat} : stepsX P (⟨none, .app e sz bytes, [a, b], d, j, kp, chk⟩ :: l) D s H K = ∃ v H', xact (.app e sz bytes) H [ev s a, ev s b] = some (v, H') ∧ chkX chk D H' ∧ stepsX P l D (s.put d v) H' K := steps_act_ rfl
theorem steps_call {f : Operand} : stepsX P (⟨none, .call, f :: xs, d, j, kp, chk⟩ :: l) D s H K = callX P (ev s f :: xs.map (ev s)) H fun v H' => chkX chk D H' ∧ stepsX P l D (s.put d v) H' K := by
  conv => lhs; unfold stepsX
  simp only [wantX, if_true, XO.kind, List.map_cons]
theorem callX_y {l : Nat} {args : List Value} {R : Value → AH → Prop} : callX P (.func (.yield l) #[] #[] :: args) H R = YN P l args H R := by simp [callX]
theorem callX_f {g : FuncId} {args : List Value} {R : Value → AH → Prop} : callX P (.func (.func g) #[] #[] :: args) H R = FN P g args H R := by simp [callX]
end
section
variable {k : IntKind} {a b : Int} {m : Nat} {x y : Bool}
theorem xbin_add : xbin .add m (.int k a) (.int k b) = some (.int k (k.wrap (a + b))) := by simp [xbin]
theorem xbin_sub : xbin .sub m (.int k a) (.int k b) = some (.int k (k.wrap (a - b))) := by simp [xbin]
theorem xbin_mul : xbin .mul m (.int k a) (.int k b) = some (.int k (k.wrap (a * b))) := by simp [xbin]
theorem xbin_quo (h : b ≠ 0) : xbin .quo m (.int k a) (.int k b) = some (.int k (k.wrap (a.tdiv b))) := by simp [xbin, h]
theorem xbin_rem (h : b ≠ 0) : xbin .rem m (.int k a) (.int k b) = some (.int k (a.tmod b)) := by simp [xbin, h]
theorem xbin_eql : xbin .eql m (.int k a) (.int k b) = some (.bool (decide (a = b))) := by simp [xbin]; rfl
theorem xbin_neq : xbin .neq m (.int k a) (.int k b) = some (.bool (decide (a ≠ b))) := by simp [xbin]; rw [Bool.eq_iff_iff]; simp
theorem xbin_lss : xbin .lss m (.int k a) (.int k b) = some (.bool (decide (a < b))) := by simp [xbin]
theorem xbin_leq : xbin .leq m (.int k a) (.int k b) = some (.bool (decide (a ≤ b))) := by simp [xbin]
theorem xbin_gtr : xbin .gtr m (.int k a) (.int k b) = some (.bool (decide (b < a))) := by simp [xbin]
theorem xbin_geq : xbin .geq m (.int k a) (.int k b) = some (.bool (decide (b ≤ a))) := by simp [xbin]
theorem xbin_eqlB : xbin .eql 1 (.bool x) (.bool y) = some (.bool (x == y)) := by simp [xbin]
theorem xbin_neqB : xbin .neq 1 (.bool x) (.bool y) = some (.bool (!(x == y))) := by simp [xbin]
theorem eun_not : eun .not (.bool x) = some (.bool !x) := _root_.id rfl
theorem eun_neg : eun .neg (.int k a) = some (.int k (k.wrap (0 - a))) := _root_.id rfl
theorem xp_conv' {k' : IntKind} : xpure (.conv k) [.int k' a] = some (.int k (k.wrap a)) := _root_.id rfl
theorem xp_ext' {ix : Nat} {cs : List Value} : xpure (.ext ix) [.tuple cs.toArray] = cs[ix]? := _root_.id rfl
theorem xp_ext'' {ix : Nat} {cs : Array Value} : xpure (.ext ix) [.tuple cs] = cs.toList[ix]? := _root_.id rfl
theorem xp_fld' {bl off o : Nat} : xpure (.fld off) [.pointer (some ⟨bl, o, none⟩)] = some (.pointer (some ⟨bl, o + off, none⟩)) := by simp [xpure]
theorem xp_ixA' {bl o len sz : Nat} (h0 : 0 ≤ a) (h1 : a < len) : xpure (.ixA len sz) [.pointer (some ⟨bl, o, none⟩), .int k a] = some (.pointer (some ⟨bl, o + a.toNat * sz, none⟩)) := by simp [xpure, h0, h1]
theorem xp_ixS' {bl o l c sz : Nat} (h0 : 0 ≤ a) (h1 : a < l) : xpure (.ixS sz) [.slice (some ⟨bl, o, none⟩) l c, .int k a] = some (.pointer (some ⟨bl, o + a.toNat * sz, none⟩)) := by simp [xpure, h0, h1]
theorem xp_lenS' {ad : Option Addr} {l c : Nat} : xpure .lenS [.slice ad l c] = some (.int .i64 l) := _root_.id rfl
theorem xp_lenT' {t : ByteArray} : xpure .lenT [.string t] = some (.int .i64 t.size) := _root_.id rfl
theorem xp_min2' : xpure .min2 [.int k a, .int k b] = some (.int k (if b < a then b else a)) := by simp [xpure]
theorem xp_max2' : xpure .max2 [.int k a, .int k b] = some (.int k (if a < b then b else a)) := by simp [xpure]
theorem xload_at {H : AH} {sz : Option Nat} {bl o : Nat} {c : List Value} {e : TypeId} {op : Option Nat} {r : Bool} (h : H[bl]? = some (.cells c e op r)) : xload sz H [.pointer (some ⟨bl, o, none⟩)] = xpart sz c o := by simp [xload, h]
theorem xpart_none {c : List Value} {o : Nat} : xpart none c o = c[o]? := _root_.id rfl
theorem wrap64 {n : Int} (h0 : -9223372036854775808 ≤ n) (h1 : n < 9223372036854775808) : IntKind.wrap .i64 n = n := by
  simp [IntKind.wrap, IntKind.bits, IntKind.signed]
  omega
end
section
variable {α : Type} {H0 L : List α} {x : α} {k : Nat}
theorem get_new : (H0 ++ L)[H0.length + k]? = L[k]? := by rw [List.getElem?_append_right (by omega)]; congr 1; omega
theorem get_new0 : (H0 ++ L)[H0.length]? = L[0]? := by rw [List.getElem?_append_right (by omega)]; congr 1; omega
theorem set_new : (H0 ++ L).set (H0.length + k) x = H0 ++ L.set k x := by rw [List.set_append_right _ _ (by omega)]; congr 2; omega
theorem set_new0 : (H0 ++ L).set H0.length x = H0 ++ L.set 0 x := by rw [List.set_append_right _ _ (by omega)]; congr 2; omega
theorem get_old (h : H0[k]? = some x) : (H0 ++ L)[k]? = some x := by rw [List.getElem?_append_left (List.getElem?_eq_some_iff.1 h).1]; exact h
end
end Go.Sim

namespace Go.Sim
open Go
def hat (σ : Nat → Option Nat) : Inj := fun b => (σ b).map fun o => ⟨o, 0, 0, 0⟩
def cmp (σ : Nat → Option Nat) (i : Inj) : Inj := fun b => (σ b).bind i
theorem hat_some {σ : Nat → Option Nat} {b : Nat} {L : Loc} (h : hat σ b = some L) : σ b = some L.blk ∧ L.base = 0 ∧ L.esz = 0 ∧ L.ext = 0 := by
  unfold hat at h
  simp only [Option.map_eq_some_iff] at h
  obtain ⟨o, h1, rfl⟩ := h
  exact ⟨h1, rfl, rfl, rfl⟩
theorem cmp_some {σ : Nat → Option Nat} {i : Inj} {b o : Nat} {L : Loc} (h : σ b = some o) (hi : i o = some L) : cmp σ i b = some L := by simp [cmp, h, hi]
theorem FnR.cmp {σ : Nat → Option Nat} {i : Inj} {f2 f f' : Fn} (h : FnR (hat σ) f2 f) (k : FnR i f f') : FnR (cmp σ i) f2 f' := by
  cases h with
  | func g => cases k; exact .func g
  | yield e =>
    obtain ⟨q, _⟩ := hat_some e
    generalize hz : Fn.yield _ = z at k
    cases k with
    | func g => cases hz
    | yield e2 => cases hz; exact .yield (cmp_some q e2)
theorem VR.cmp {σ : Nat → Option Nat} {i : Inj} {v2 v : Value} (h : VR (hat σ) v2 v) : ∀ {v'}, VR i v v' → VR (Sim.cmp σ i) v2 v' := by
  induction h with
  | bool b => intro v' k; cases k; exact .bool b
  | int k n => intro v' k; cases k; exact .int _ _
  | float k n => intro v' k; cases k; exact .float _ _
  | string s => intro v' k; cases k; exact .string _
  | nilFunc => intro v' k; cases k; exact .nilFunc
  | nilIface => intro v' k; cases k; exact .nilIface
  | pnil => intro v' k; cases k; exact .pnil
  | mnil => intro v' k; cases k; exact .mnil
  | ptr e s =>
    intro v' k
    obtain ⟨q, q0, _, _⟩ := hat_some e
    cases k with
    | ptr e2 s2 =>
      simp only [q0, Nat.zero_add]
      exact .ptr (cmp_some q e2) s
  | snil l c => intro v' k; cases k; exact .snil _ _
  | slice e s hc =>
    intro v' k
    obtain ⟨q, q0, _, q3⟩ := hat_some e
    have hc' : _ = _ := hc.elim id (fun h => by rw [q3] at h; exact h)
    subst hc'
    cases k with
    | slice e2 s2 hc2 =>
      simp only [q0, Nat.zero_add]
      exact .slice (cmp_some q e2) s hc2
    | vague e2 => simp at e2
  | vague e =>
    intro v' k
    cases k with
    | slice e2 s2 hc2 => exact .vague e
    | vague e2 => exact .vague e
  | map e =>
    intro v' k
    obtain ⟨q, _⟩ := hat_some e
    cases k with
    | map e2 => exact .map (cmp_some q e2)
  | func hf hs1 _ hs2 _ ih1 ih2 =>
    intro v' k
    cases k with
    | func kf ks1 k1 ks2 k2 =>
      exact .func (hf.cmp kf) (hs1.trans ks1) (fun n p q => ih1 n p (hs1 ▸ p) (k1 n (hs1 ▸ p) q)) (hs2.trans ks2) (fun n p q => ih2 n p (hs2 ▸ p) (k2 n (hs2 ▸ p) q))
  | iface t _ ih => intro v' k; cases k with | iface _ k => exact .iface t (ih k)
  | agg hs _ ih => intro v' k; cases k with | agg ks k => exact .agg (hs.trans ks) (fun n p q => ih n p (hs ▸ p) (k n (hs ▸ p) q))
  | tuple hs _ ih => intro v' k; cases k with | tuple ks k => exact .tuple (hs.trans ks) (fun n p q => ih n p (hs ▸ p) (k n (hs ▸ p) q))
theorem VR.old {i : Inj} {σ : Nat → Option Nat} (hid : ∀ b L, i b = some L → σ b = some b) {v v' : Value} (h : VR i v v') : VR (hat σ) v v := by
  have hh : ∀ b L, i b = some L → hat σ b = some ⟨b, 0, 0, 0⟩ := fun b L e => by simp [hat, hid b L e]
  induction h with
  | bool b => exact .bool b
  | int k n => exact .int k n
  | float k n => exact .float k n
  | string s => exact .string s
  | nilFunc => exact .nilFunc
  | nilIface => exact .nilIface
  | pnil => exact .pnil
  | mnil => exact .mnil
  | @ptr a L e s =>
    have := VR.ptr (a := a) (hh _ _ e) s
    simp only [Nat.zero_add] at this
    rw [← s] at this
    exact this
  | snil l c => exact .snil l c
  | @slice a L l c c' e s hc =>
    have := VR.slice (a := a) (l := l) (c := c) (hh _ _ e) s (.inl rfl)
    simp only [Nat.zero_add] at this
    rw [← s] at this
    exact this
  | vague e => exact .vague e
  | map e => exact .map (hh _ _ e)
  | func hf hs1 _ hs2 _ ih1 ih2 =>
    refine .func ?_ rfl (fun n p q => ih1 n p (hs1 ▸ p)) rfl (fun n p q => ih2 n p (hs2 ▸ p))
    cases hf with
    | func g => exact .func g
    | yield e => exact .yield (hh _ _ e)
  | iface t _ ih => exact .iface t ih
  | agg hs _ ih => exact .agg rfl (fun n p q => ih n p (hs ▸ p))
  | tuple hs _ ih => exact .tuple rfl (fun n p q => ih n p (hs ▸ p))
theorem VRs.old {i : Inj} {σ : Nat → Option Nat} (hid : ∀ b L, i b = some L → σ b = some b) {v v' : List Value} (h : VRs i v v') : VRs (hat σ) v v := by
  induction h with
  | nil => exact .nil
  | cons a _ ih => exact .cons (a.old hid) ih
theorem VRs.cmp {σ : Nat → Option Nat} {i : Inj} {v2 v v' : List Value} (h : VRs (hat σ) v2 v) (k : VRs i v v') : VRs (Sim.cmp σ i) v2 v' := by
  induction h generalizing v' with
  | nil => cases k; exact .nil
  | cons a _ ih => cases k with | cons b c => exact .cons (a.cmp b) (ih c)
theorem DefR.old {i : Inj} {σ : Nat → Option Nat} (hid : ∀ b L, i b = some L → σ b = some b) {d d' : Deferred} (h : DefR i d d') : DefR (hat σ) d d := by
  have hh : ∀ b L, i b = some L → hat σ b = some ⟨b, 0, 0, 0⟩ := fun b L e => by simp [hat, hid b L e]
  cases h with
  | collected e => exact .collected (L := ⟨_, 0, 0, 0⟩) (hh _ _ e)
  | fn a b c =>
    refine .fn ?_ (b.old hid) (c.old hid)
    cases a with
    | func g => exact .func g
    | yield e => exact .yield (L := ⟨_, 0, 0, 0⟩) (hh _ _ e)
theorem DefsR.old {i : Inj} {σ : Nat → Option Nat} (hid : ∀ b L, i b = some L → σ b = some b) {d d' : List Deferred} (h : DefsR i d d') : DefsR (hat σ) d d := by
  induction h with
  | nil => exact .nil
  | cons a _ ih => exact .cons (a.old hid) ih
theorem DefR.cmp {σ : Nat → Option Nat} {i : Inj} {d2 d d' : Deferred} (h : DefR (hat σ) d2 d) (k : DefR i d d') : DefR (Sim.cmp σ i) d2 d' := by
  cases h with
  | collected e =>
    obtain ⟨q, _⟩ := hat_some e
    cases k with
    | collected e2 => exact .collected (cmp_some q e2)
  | fn a b c => cases k with | fn a' b' c' => exact .fn (a.cmp a') (b.cmp b') (c.cmp c')
theorem DefsR.cmp {σ : Nat → Option Nat} {i : Inj} {d2 d d' : List Deferred} (h : DefsR (hat σ) d2 d) (k : DefsR i d d') : DefsR (Sim.cmp σ i) d2 d' := by
  induction h generalizing d' with
  | nil => cases k; exact .nil
  | cons a _ ih => cases k with | cons b c => exact .cons (a.cmp b) (ih c)
inductive AR (σ : Nat → Option Nat) : AB → AB → Prop
  | cells {c2 c : List Value} (e : TypeId) (o : Option Nat) (r : Bool) : VRs (hat σ) c2 c → AR σ (.cells c2 e o r) (.cells c e o r)
  | loop {l2 l : ALoop} : l2.state = l.state → l2.pending = l.pending → l2.params = l.params → l2.assign = l.assign → l2.body = l.body → l2.n = l.n → (∀ t, VR (hat σ) (l2.env t) (l.env t)) → σ l2.defers = some l.defers → AR σ (.loop l2) (.loop l)
  | defs0 : AR σ (.defs none) (.defs none)
  | defs {d2 d : List Deferred} : DefsR (hat σ) d2 d → AR σ (.defs (some d2)) (.defs (some d))
  | dead : AR σ .dead .dead
theorem AR.old {i : Inj} {σ : Nat → Option Nat} (hid : ∀ b L, i b = some L → σ b = some b) {x : AB} {L : Loc} {w : World} (h : BlkR i x L w) : AR σ x x := by
  match x, h with
  | .cells c e opn ro, h =>
    obtain ⟨c', e', fr, h1, h2, _⟩ := h
    refine .cells e opn ro ?_
    refine VRs.of_get rfl (fun k p q => ?_)
    obtain ⟨v', _, hv⟩ := h2 k _ (List.getElem?_eq_getElem p)
    exact hv.old hid
  | .loop l, h =>
    obtain ⟨l', h1, h2⟩ := h
    obtain ⟨L, e, _⟩ := h2.defers
    exact .loop rfl rfl rfl rfl rfl rfl (fun t => (h2.env t).old hid) (hid _ _ e)
  | .defs none, _ => exact .defs0
  | .defs (some d), h => obtain ⟨d', _, h2⟩ := h; exact .defs (h2.old hid)
  | .dead, _ => exact .dead
theorem AR.blk {i : Inj} {σ : Nat → Option Nat} {x2 x : AB} {L : Loc} {w : World} (h : AR σ x2 x) (k : BlkR i x L w) : BlkR (Sim.cmp σ i) x2 L w := by
  cases h with
  | cells e o r hv =>
    obtain ⟨c', e', fr, h1, h2, h3, h4⟩ := k
    refine ⟨c', e', fr, h1, fun n v hn => ?_, fun hr => ?_, h4⟩
    · obtain ⟨u, hu, hvu⟩ := hv.get hn
      obtain ⟨v', q1, q2⟩ := h2 n u hu
      exact ⟨v', q1, hvu.cmp q2⟩
    · rw [hv.length]; exact h3 hr
  | loop a1 a2 a3 a4 a5 a6 a7 a8 =>
    obtain ⟨l', h1, h2⟩ := k
    refine ⟨l', h1, ⟨h2.state.trans a1.symm, h2.pending.trans a2.symm, h2.params.trans a3.symm, h2.assign.trans a4.symm, h2.body.trans a5.symm, h2.size.trans a6.symm, fun t => (a7 t).cmp (h2.env t), ?_⟩⟩
    obtain ⟨L, e, e2⟩ := h2.defers
    exact ⟨L, cmp_some a8 e, e2⟩
  | defs0 => exact k
  | defs hd => obtain ⟨d', h1, h2⟩ := k; exact ⟨d', h1, hd.cmp h2⟩
  | dead => trivial
theorem AR.owned {σ : Nat → Option Nat} {x2 x : AB} (h : AR σ x2 x) : x2.owned = x.owned := by cases h <;> rfl
theorem AR.live {σ : Nat → Option Nat} {x2 x : AB} (h : AR σ x2 x) : x2.live = x.live := by cases h <;> rfl
theorem FSim.rename {P : Program} {f : FuncId} {args : List Value} {H H' H2 : AH} {v v2 : Value} (σ : Nat → Option Nat) (h : FSim P f args H v H') (hid : ∀ b, b < H.length → σ b = some b)
    (hnew : ∀ b o, H.length ≤ b → σ b = some o → H.length ≤ o ∧ b < H2.length ∧ ∀ x, H'[o]? = some x → ∃ x2, H2[b]? = some x2 ∧ AR σ x2 x)
    (hinj : ∀ b b' o, σ b = some o → σ b' = some o → b = b') (hv : VR (hat σ) v2 v) (hlen : H.length ≤ H2.length)
    (hold : ∀ b, b < H.length → H2[b]? = H'[b]? ∧ (H'[b]? = H[b]? ∨ ∀ x, H'[b]? = some x → AR σ x x)) : FSim P f args H v2 H2 := by
  intro i w args' hr ha cs
  obtain ⟨i', w', v', fr, e, g, q1, q2, q3, q4⟩ := h i w args' hr ha cs
  have hidi : ∀ b L, i b = some L → σ b = some b := fun b L hb => hid b (hr.dom b L hb)
  -- the blocks of both sides
  have hblk : ∀ b o L, σ b = some o → i' o = some L → ∃ x x2, H'[o]? = some x ∧ H2[b]? = some x2 ∧ AR σ x2 x ∧ b < H2.length := by
    intro b o L hb ho
    have hlt := g.dom o L ho
    have hx : H'[o]? = some H'[o] := List.getElem?_eq_getElem hlt
    rcases Nat.lt_or_ge b H.length with hbl | hbl
    · have := hid b hbl
      rw [hb] at this
      cases this
      obtain ⟨p1, p2⟩ := hold b hbl
      refine ⟨_, _, hx, p1.trans hx, ?_, by omega⟩
      rcases p2 with p2 | p2
      · rcases e.fresh b L ho with hi | ⟨hi, _⟩
        · exact AR.old hidi (hr.blk b L _ hi (p2.symm.trans hx))
        · omega
      · exact p2 _ hx
    · obtain ⟨_, p2, p3⟩ := hnew b o hbl hb
      obtain ⟨x2, r1, r2⟩ := p3 _ hx
      exact ⟨_, _, hx, r1, r2, p2⟩
  have hc : ∀ b L, cmp σ i' b = some L → ∃ o, σ b = some o ∧ i' o = some L := by
    intro b L hb
    unfold cmp at hb
    cases hs : σ b with
    | none => rw [hs] at hb; cases hb
    | some o => rw [hs] at hb; exact ⟨o, rfl, hb⟩
  refine ⟨cmp σ i', w', v', fr, ⟨hr.dom, fun b L hb => cmp_some (hidi b L hb) (e.le b L hb), e.os, e.tape, e.output, e.size, hlen, fun b x' hb hx ho => ?_, e.frame, fun b hb hn => ?_, fun b L hb => ?_⟩, ⟨fun b L hb => ?_, fun b L x hb hx => ?_, fun b1 b2 L1 L2 x1 x2 f1 f2 g1 g2 o1 l2 hL => ?_⟩, hv.cmp q1, q2, q3, q4⟩
  · exact e.own b x' hb ((hold b hb).1.symm.trans hx) ho
  · exact (hold b hb).1.trans (e.aframe b hb hn)
  · obtain ⟨o, h1, h2⟩ := hc b L hb
    rcases Nat.lt_or_ge b H.length with hbl | hbl
    · have := hid b hbl
      rw [h1] at this
      cases this
      rcases e.fresh b L h2 with hi | ⟨hi, _⟩
      · exact .inl hi
      · omega
    · obtain ⟨p1, _, _⟩ := hnew b o hbl h1
      rcases e.fresh o L h2 with hi | ⟨_, hi⟩
      · have := hr.dom o L hi; omega
      · exact .inr ⟨hbl, hi⟩
  · obtain ⟨o, h1, h2⟩ := hc b L hb
    obtain ⟨_, _, _, _, _, hlt⟩ := hblk b o L h1 h2
    exact hlt
  · obtain ⟨o, h1, h2⟩ := hc b L hb
    obtain ⟨y, y2, p1, p2, p3, _⟩ := hblk b o L h1 h2
    rw [hx] at p2
    cases p2
    exact p3.blk (g.blk o L y h2 p1)
  · obtain ⟨o1', s1, t1⟩ := hc b1 L1 f1
    obtain ⟨o2', s2, t2⟩ := hc b2 L2 f2
    obtain ⟨y1, z1, p1, p2, p3, _⟩ := hblk b1 o1' L1 s1 t1
    obtain ⟨y2, z2, r1, r2, r3, _⟩ := hblk b2 o2' L2 s2 t2
    rw [g1] at p2; cases p2
    rw [g2] at r2; cases r2
    have := g.inj o1' o2' L1 L2 y1 y2 t1 t2 p1 r1 (p3.owned ▸ o1) (r3.live ▸ l2) hL
    subst this
    exact hinj _ _ _ s1 s2
theorem VR.ground_hat {v : Value} (h : ground v = true) (σ : Nat → Option Nat) : VR (hat σ) v v := VR.of_ground h _
theorem FN.gc0 {P : Program} {f : FuncId} {args : List Value} {H : AH} {R : Value → Prop} (h : FN P f args H (fun v H' => R v ∧ ground v = true ∧ ∃ J, H' = H ++ J)) : FN P f args H (fun v H' => R v ∧ H' = H) := by
  obtain ⟨hc, v, H', ⟨hR, hg, J, rfl⟩, hs⟩ := h
  refine ⟨hc, v, H, ⟨hR, rfl⟩, hs.rename (fun b => if b < H.length then some b else none) (fun b hb => by simp [hb]) (fun b o hb ho => ?_) (fun b b' o h1 h2 => ?_) (VR.ground_hat hg _) (Nat.le_refl _) (fun b hb => ?_)⟩
  · simp [Nat.not_lt.2 hb] at ho
  · split at h1 <;> split at h2 <;> simp_all
  · have : (H ++ J)[b]? = H[b]? := List.getElem?_append_left hb
    exact ⟨this.symm, .inl this⟩
theorem FN.gc1 {P : Program} {f : FuncId} {args : List Value} {H : AH} {R : Value → AB → Prop} (h : FN P f args H (fun v H' => ∃ J k v2 x, H' = H ++ J ∧ J[k]? = some x ∧ (∀ σ, (∀ b, b < H.length → σ b = some b) → σ H.length = some (H.length + k) → VR (hat σ) v2 v ∧ AR σ x x) ∧ R v2 x)) :
    FN P f args H (fun v H' => ∃ x, H' = H ++ [x] ∧ R v x) := by
  obtain ⟨hc, v, H', ⟨J, k, v2, x, rfl, hJ, hrel, hR⟩, hs⟩ := h
  generalize hσ : (fun b => if b < H.length then some b else if b = H.length then some (H.length + k) else none) = σ
  have s1 : ∀ b, b < H.length → σ b = some b := fun b hb => by rw [← hσ]; simp [hb]
  have s2 : σ H.length = some (H.length + k) := by rw [← hσ]; simp
  have s3 : ∀ b, H.length < b → σ b = none := fun b hb => by rw [← hσ]; simp only; rw [if_neg (by omega), if_neg (by omega)]
  obtain ⟨r1, r2⟩ := hrel σ s1 s2
  refine ⟨hc, v2, H ++ [x], ⟨x, rfl, hR⟩, hs.rename σ s1 (fun b o hb ho => ?_) (fun b b' o h1 h2 => ?_) r1 (by simp) (fun b hb => ?_)⟩
  · rcases Nat.lt_or_ge H.length b with hlt | hge
    · rw [s3 b hlt] at ho; cases ho
    · have : b = H.length := by omega
      subst this
      rw [s2] at ho
      cases ho
      refine ⟨by omega, by simp, fun y hy => ⟨x, by simp, ?_⟩⟩
      rw [get_new, hJ] at hy
      cases hy
      exact r2
  · have key : ∀ c, σ c = some o → (c < H.length ∧ o = c) ∨ (c = H.length ∧ o = H.length + k) := by
      intro c hc
      rcases Nat.lt_or_ge c H.length with p | p
      · rw [s1 c p] at hc; cases hc; exact .inl ⟨p, rfl⟩
      · rcases Nat.lt_or_ge H.length c with p2 | p2
        · rw [s3 c p2] at hc; cases hc
        · have : c = H.length := by omega
          subst this
          rw [s2] at hc; cases hc; exact .inr ⟨rfl, rfl⟩
    rcases key b h1 with ⟨p, q⟩ | ⟨p, q⟩ <;> rcases key b' h2 with ⟨p', q'⟩ | ⟨p', q'⟩ <;> omega
  · have e1 : (H ++ J)[b]? = H[b]? := List.getElem?_append_left hb
    have e2 : (H ++ [x])[b]? = H[b]? := List.getElem?_append_left hb
    exact ⟨e2.trans e1.symm, .inl e1⟩
end Go.Sim

namespace Go.Sim
open Go
theorem stepsX_mono {P : Program} : ∀ (l : List XS) (D : List PL) (s : St) (H : AH) (K K' : St → AH → Prop), (∀ s H, K s H → K' s H) → stepsX P l D s H K → stepsX P l D s H K'
  | [], _, s, H, K, K', hk, h => hk s H h
  | i :: l, D, s, H, K, K', hk, h => by
    unfold stepsX at h ⊢
    split at h
    · rename_i hw
      rw [if_pos hw]
      split at h
      · obtain ⟨v, h1, h2⟩ := h
        exact ⟨v, h1, stepsX_mono l _ _ _ K K' hk h2⟩
      · obtain ⟨sz, v, h0, h1, h2⟩ := h
        exact ⟨sz, v, h0, h1, stepsX_mono l _ _ _ K K' hk h2⟩
      · obtain ⟨c, e, mk, h0, h1, h2⟩ := h
        exact ⟨c, e, mk, h0, h1, stepsX_mono l _ _ _ K K' hk h2⟩
      · obtain ⟨v, H', h0, h1, h2⟩ := h
        exact ⟨v, H', h0, h1, stepsX_mono l _ _ _ K K' hk h2⟩
      · unfold callX at h ⊢
        split at h
        · exact h.mono fun v H' h => ⟨h.1, stepsX_mono l _ _ _ K K' hk h.2⟩
        · exact ⟨h.1, h.2.1, h.2.2.mono fun v H' h => ⟨h.1, stepsX_mono l _ _ _ K K' hk h.2⟩⟩
        · exact h.elim
    · rename_i hw
      rw [if_neg hw]
      exact stepsX_mono l _ _ _ K K' hk h
theorem X.mono {P : Program} {n : Nat} {ro : Option Nat} (c : XC) : ∀ {s : St} {H : AH} {Q Q' : AX → St → AH → Prop}, X P n ro c s H Q → (∀ x s H, Q x s H → Q' x s H) → X P n ro c s H Q' := by
  induction c with
  | skip => intro s H Q Q' h hq; exact hq _ _ _ h
  | exit id => intro s H Q Q' h hq; exact hq _ _ _ h
  | ret => intro s H Q Q' h hq; exact hq _ _ _ h
  | seq a b iha ihb =>
    intro s H Q Q' h hq
    refine iha h fun x s H hx => ?_
    cases x with
    | normal => exact ihb hx hq
    | exit id => exact hq _ _ _ hx
    | ret => exact hq _ _ _ hx
  | cond c a b iha ihb =>
    intro s H Q Q' h hq
    obtain ⟨t, h1, h2⟩ := h
    refine ⟨t, h1, ?_⟩
    cases t with
    | true => simp only [if_true] at h2 ⊢; exact iha h2 hq
    | false => exact ihb h2 hq
  | block id a ih =>
    intro s H Q Q' h hq
    refine ih h fun x s H hx => ?_
    cases x with
    | normal => exact hq _ _ _ hx
    | exit i =>
      simp only [AX.inBlock] at hx ⊢
      split
      · rename_i e; rw [if_pos e] at hx; exact hq _ _ _ hx
      · rename_i e; rw [if_neg e] at hx; exact hq _ _ _ hx
    | ret => exact hq _ _ _ hx
  | loop a ih =>
    intro s H Q Q' h hq
    obtain ⟨I, μ, h0, hr⟩ := h
    refine ⟨I, μ, h0, fun s H hI => ih (hr s H hI) fun x s H hx => ?_⟩
    cases x with
    | normal => exact hx
    | exit i => exact hq _ _ _ hx
    | ret => exact hq _ _ _ hx
  | reg l =>
    intro s H Q Q' h hq
    exact stepsX_mono l _ _ _ _ _ (fun s H h => hq _ _ _ h) h
  | range f ps xa xb _ _ =>
    intro s H Q Q' h hq assign body ha hb
    exact W.mono (h assign body ha hb) hq
theorem least (p : Nat → Prop) : ∀ n, p n → ∃ m, p m ∧ ∀ k, k < m → ¬ p k := by
  intro n
  induction n using Nat.strongRecOn with
  | _ n ih =>
    intro hn
    by_cases h : ∃ k, k < n ∧ p k
    · obtain ⟨k, h1, h2⟩ := h; exact ih k h1 h2
    · exact ⟨n, hn, fun k hk hp => h ⟨k, hk, hp⟩⟩
open Classical in
theorem loop_ind {P : Program} {n : Nat} {ro : Option Nat} {c : XC} {s : St} {H : AH} {Q : AX → St → AH → Prop} (I : Nat → St → AH → Prop) (m : Nat) (h0 : I m s H)
    (hr : ∀ m s H, I m s H → X P n ro c s H (AX.then (fun s' H' => ∃ m', m' < m ∧ I m' s' H') Q)) : loopX (X P n ro c) s H Q := by
  refine ⟨fun s H => ∃ m, I m s H, fun s H => if h : ∃ m, I m s H then Classical.choose (least (fun m => I m s H) (Classical.choose h) (Classical.choose_spec h)) else 0, ⟨m, h0⟩, fun s H hI => ?_⟩
  have hl := Classical.choose_spec (least (fun m => I m s H) (Classical.choose hI) (Classical.choose_spec hI))
  refine X.mono c (hr _ s H hl.1) fun x s' H' hx => ?_
  cases x with
  | normal =>
    obtain ⟨m', h1, h2⟩ := hx
    refine ⟨⟨m', h2⟩, ?_⟩
    have hI' : ∃ m, I m s' H' := ⟨m', h2⟩
    have hl' := Classical.choose_spec (least (fun m => I m s' H') (Classical.choose hI') (Classical.choose_spec hI'))
    simp only [dif_pos hI, dif_pos hI']
    refine Nat.lt_of_le_of_lt ?_ h1
    refine Nat.le_of_not_lt fun hlt => ?_
    exact hl'.2 m' hlt h2
  | exit i => exact hx
  | ret => exact hx
theorem loop_nat {P : Program} {n : Nat} {ro : Option Nat} {c : XC} {s : St} {H : AH} {Q : AX → St → AH → Prop} (N : Nat) (I : Nat → St → AH → Prop) (h0 : I 0 s H)
    (hr : ∀ k s H, k < N → I k s H → X P n ro c s H (AX.then (I (k + 1)) Q)) (hN : ∀ s H, I N s H → X P n ro c s H (AX.then (fun _ _ => False) Q)) : loopX (X P n ro c) s H Q := by
  refine loop_ind (fun m s H => ∃ k, k + m = N ∧ I k s H) N ⟨0, by omega, h0⟩ fun m s H ⟨k, hk, hI⟩ => ?_
  cases m with
  | zero =>
    have : k = N := by omega
    subst this
    refine X.mono c (hN s H hI) fun x s' H' hx => ?_
    cases x with
    | normal => exact hx.elim
    | exit i => exact hx
    | ret => exact hx
  | succ m =>
    refine X.mono c (hr k s H (by omega) hI) fun x s' H' hx => ?_
    cases x with
    | normal => exact ⟨m, by omega, k + 1, by omega, hx⟩
    | exit i => exact hx
    | ret => exact hx
theorem range_ind {P : Program} {n : Nat} {s : St} {H : AH} {Q : AX → St → AH → Prop} {f : Operand} {ps : Array Tmp} {xa xb : XC} (hf : okX f = true) {g : FuncId} {first cap : Array Value} (hev : ev s f = .func (.func g) first cap)
    (h : ∀ assign body, comp P n assign = some xa → comp P n body = some xb →
      FN P g (first.toList ++ [.func (.yield (H.length + 1)) #[] #[]] ++ cap.toList) (H ++ [.defs (some []), .loop (newLoop n s ps assign body H.length)])
        (fun _ H2 => ∃ r x, H2[H.length + 1]? = some (.loop r) ∧ r.state ≠ .busy ∧ AX.of r.pending = some x ∧
          Q x { s with ds := ⟨.collected H.length, #[]⟩ :: s.ds } (H2.set (H.length + 1) (.loop { r with state := .exhausted, pending := r.pending })))) : X P n none (.range f ps xa xb) s H Q := by
  intro assign body ha hb
  obtain ⟨hcl, hF⟩ := h assign body ha hb
  unfold callable at hcl
  split at hcl
  · rename_i fn hg
    simp only [Bool.and_eq_true, Bool.not_eq_true'] at hcl
    exact W.rangeFunc hf hev hg hcl.1 hcl.2 hF
  · cases hcl
theorem YN.intro {P : Program} (hm : P.follows .mixedOrders = true) {l : Nat} {vs : List Value} {H : AH} {R : Value → AH → Prop} {r : ALoop} {xa xb : XC} (hl : H[l]? = some (.loop r)) (ha : comp P r.n r.assign = some xa) (hb : comp P r.n r.body = some xb)
    (hps : r.params.size = vs.length) (hpn : ∀ t ∈ r.params.toList, t < r.n)
    (h : X P r.n (some l) xa ⟨parEnv r.env r.params.toList vs, []⟩ H (fun x s1 H1 => x = .normal ∧ ∃ r1, H1[l]? = some (.loop r1) ∧ r1.state = .ready ∧
      X P r.n (some l) xb s1 (H1.set l (.loop { r1 with state := .busy, pending := r1.pending })) (fun x _ H3 => ∃ r3, H3[l]? = some (.loop r3) ∧
        R (.bool x.isN) (H3.set l (.loop { r3 with state := if x.isN then .ready else .done, pending := x.jump }))))) : YN P l vs H R := by
  obtain ⟨x1, s1, H1, ⟨rfl, r1, h1, h2, h3⟩, q1⟩ := comp_sound hm (ro := some l) r.assign xa _ _ _ ha h
  obtain ⟨x2, s2, H3, ⟨r3, h4, h5⟩, q2⟩ := comp_sound hm (ro := some l) r.body xb _ _ _ hb h3
  exact ⟨_, _, h5, ysim hl hps hpn q1 h1 h2 q2 h4⟩
end Go.Sim

namespace Go.Sim
open Go
section
variable {a b m : Nat} {k : IntKind}
theorem xbin_addN (h : a + b < 9223372036854775808) : xbin .add m (nv a) (nv b) = some (nv (a + b)) := by
  rw [xbin_add, wrap64 (by omega) (by omega)]; rfl
theorem xbin_subN (h : b ≤ a) (h2 : a < 9223372036854775808) : xbin .sub m (nv a) (nv b) = some (nv (a - b)) := by
  rw [xbin_sub, wrap64 (by omega) (by omega)]; congr 2; omega
theorem xbin_mulN (h : a * b < 9223372036854775808) : xbin .mul m (nv a) (nv b) = some (nv (a * b)) := by
  have : ((a : Int) * b) = ((a * b : Nat) : Int) := by simp
  rw [xbin_mul, this, wrap64 (by omega) (by omega)]
theorem xbin_quoN (h : b ≠ 0) (h2 : a < 9223372036854775808) : xbin .quo m (nv a) (nv b) = some (nv (a / b)) := by
  have e : ((a : Int).tdiv b) = ((a / b : Nat) : Int) := _root_.id rfl
  have : a / b ≤ a := Nat.div_le_self a b
  rw [xbin_quo (by omega), e]
  generalize a / b = q at *
  rw [wrap64 (by omega) (by omega)]
theorem xbin_remN (h : b ≠ 0) : xbin .rem m (.int k a) (.int k b) = some (.int k ((a % b : Nat) : Int)) := by
  rw [xbin_rem (by omega)]
  rfl
theorem xbin_eqlN : xbin .eql m (.int k a) (.int k b) = some (.bool (decide (a = b))) := by rw [xbin_eql]; congr 2; simp [Int.ofNat_inj]
theorem xbin_neqN : xbin .neq m (.int k a) (.int k b) = some (.bool (decide (a ≠ b))) := by rw [xbin_neq]; congr 2; simp [Int.ofNat_inj]
theorem xbin_lssN : xbin .lss m (.int k a) (.int k b) = some (.bool (decide (a < b))) := by rw [xbin_lss]; congr 2; simp
theorem xbin_leqN : xbin .leq m (.int k a) (.int k b) = some (.bool (decide (a ≤ b))) := by rw [xbin_leq]; congr 2; simp
theorem xbin_gtrN : xbin .gtr m (.int k a) (.int k b) = some (.bool (decide (b < a))) := by rw [xbin_gtr]; congr 2; simp
theorem xbin_geqN : xbin .geq m (.int k a) (.int k b) = some (.bool (decide (b ≤ a))) := by rw [xbin_geq]; congr 2; simp
theorem xp_ixAN {bl o len sz : Nat} (h1 : a < len) : xpure (.ixA len sz) [.pointer (some ⟨bl, o, none⟩), .int k a] = some (.pointer (some ⟨bl, o + a * sz, none⟩)) := by
  rw [xp_ixA' (by omega) (by omega)]; rfl
theorem xp_ixSN {bl o l c sz : Nat} (h1 : a < l) : xpure (.ixS sz) [.slice (some ⟨bl, o, none⟩) l c, .int k a] = some (.pointer (some ⟨bl, o + a * sz, none⟩)) := by
  rw [xp_ixS' (by omega) (by omega)]; rfl
theorem xp_convN (h : a < 9223372036854775808) : xpure (.conv .i64) [.int k a] = some (nv a) := by rw [xp_conv', wrap64 (by omega) (by omega)]
theorem xp_min2N : xpure .min2 [nv a, nv b] = some (nv (min a b)) := by
  rw [xp_min2']; congr 2
  split <;> omega
theorem xp_max2N : xpure .max2 [nv a, nv b] = some (nv (max a b)) := by
  rw [xp_max2']; congr 2
  split <;> omega
end
def loadB (sz : Option Nat) (x : Option AB) (o : Nat) : Option Value :=
  match x with
  | some (.cells c _ _ _) => xpart sz c o
  | _ => none
def stB (sz : Nat) (H : AH) (x : Option AB) (bl o : Nat) (v : Value) : Option (Value × AH) :=
  match x with
  | some (.cells c e op false) => if (cellsL v).length = sz ∧ (cellsL v).all one ∧ o + sz ≤ c.length then some (undef, H.set bl (.cells (putL c o (cellsL v)) e op false)) else none
  | _ => none
theorem xload_ptr {sz : Option Nat} {H : AH} {bl o : Nat} : xload sz H [.pointer (some ⟨bl, o, none⟩)] = loadB sz H[bl]? o := by
  unfold xload loadB
  simp only
  split
  · rename_i h _; rw [h]
  · rename_i h
    split
    · rename_i e; exact absurd rfl (h _ _ _ _ e)
    · rfl
theorem xact_st {sz : Nat} {H : AH} {bl o : Nat} {v : Value} : xact (.st sz) H [.pointer (some ⟨bl, o, none⟩), v] = stB sz H H[bl]? bl o v := by
  unfold xact stB
  simp only
  split
  · rename_i h _; rw [h]
  · rename_i h
    split
    · rename_i e; exact absurd rfl (h _ _ _ e)
    · rfl
section
variable {H : AH} {c c' : List Value} {e : TypeId} {op : Option Nat} {r : Bool} {o n bl x : Nat} {l : List Nat}
theorem loadB_one : loadB none (some (.cells c e op r)) o = c[o]? := _root_.id rfl
theorem loadB_c0 {v : Value} : loadB none (some (.cells (v :: c) e op r)) 0 = some v := _root_.id rfl
theorem loadB_cs {v : Value} : loadB none (some (.cells (v :: c) e op r)) (o + 1) = loadB none (some (.cells c e op r)) o := _root_.id rfl
theorem loadB_c1 {v v1 : Value} : loadB none (some (.cells (v :: v1 :: c) e op r)) 1 = some v1 := _root_.id rfl
theorem loadB_c2 {v v1 v2 : Value} : loadB none (some (.cells (v :: v1 :: v2 :: c) e op r)) 2 = some v2 := _root_.id rfl
theorem loadB_c3 {v v1 v2 v3 : Value} : loadB none (some (.cells (v :: v1 :: v2 :: v3 :: c) e op r)) 3 = some v3 := _root_.id rfl
theorem cellsL_agg : cellsL (.agg c.toArray) = c := _root_.id rfl
theorem cellsL_int {k : IntKind} {i : Int} : cellsL (.int k i) = [.int k i] := _root_.id rfl
theorem cellsL_bool {b : Bool} : cellsL (.bool b) = [.bool b] := _root_.id rfl
theorem cellsL_slice {a : Option Addr} {n m : Nat} : cellsL (.slice a n m) = [.slice a n m] := _root_.id rfl
theorem loadB_nv (h : o < l.length) : loadB none (some (.cells (l.map nv) e op r)) o = some (nv (l.getD o 0)) := by
  simp [loadB, xpart, h]
theorem loadB_all (h : c.length = n) : loadB (some n) (some (.cells c e op r)) 0 = some (.agg c.toArray) := by
  subst h
  simp [loadB, xpart]
theorem stB_one {v : Value} (h1 : cellsL v = [v]) (h2 : one v = true) (h : o < c.length) : stB 1 H (some (.cells c e op false)) bl o v = some (undef, H.set bl (.cells (c.set o v) e op false)) := by
  unfold stB
  simp only [h1]
  rw [if_pos ⟨rfl, by simp [h2], by omega⟩]
  rfl
theorem stB_int {k : IntKind} {i : Int} (h : o < c.length) : stB 1 H (some (.cells c e op false)) bl o (.int k i) = some (undef, H.set bl (.cells (c.set o (.int k i)) e op false)) := stB_one rfl rfl h
theorem stB_intL {k : IntKind} {i : Int} {v : Value} (h : o < (v :: c).length) : stB 1 H (some (.cells (v :: c) e op false)) bl o (.int k i) = some (undef, H.set bl (.cells ((v :: c).set o (.int k i)) e op false)) := stB_one rfl rfl h
theorem map_set_nv : (l.map nv).set o (nv x) = (l.set o x).map nv := by rw [List.map_set]
theorem stB_nv (h : o < l.length) : stB 1 H (some (.cells (l.map nv) e op false)) bl o (nv x) = some (undef, H.set bl (.cells ((l.set o x).map nv) e op false)) := by
  rw [stB_int (by simpa using h), map_set_nv]
theorem stB_bool {b : Bool} (h : o < c.length) : stB 1 H (some (.cells c e op false)) bl o (.bool b) = some (undef, H.set bl (.cells (c.set o (.bool b)) e op false)) := stB_one rfl rfl h
theorem stB_slice {ad : Option Addr} {ln cp : Nat} (h : o < c.length) : stB 1 H (some (.cells c e op false)) bl o (.slice ad ln cp) = some (undef, H.set bl (.cells (c.set o (.slice ad ln cp)) e op false)) := stB_one rfl rfl h
theorem stB_all (h1 : c'.length = n) (h2 : c.length = n) (h3 : c'.all one = true) : stB n H (some (.cells c e op false)) bl 0 (.agg c'.toArray) = some (undef, H.set bl (.cells c' e op false)) := by
  have hc : cellsL (.agg c'.toArray) = c' := _root_.id rfl
  unfold stB
  simp only [hc]
  rw [if_pos ⟨h1, h3, by omega⟩, putL_eq (by omega)]
  unfold splice
  simp
  have : c.drop c'.length = [] := by apply List.drop_eq_nil_of_le; omega
  rw [this]; simp
theorem all_nv : ((l.map nv).all one) = true := by simp [one]
end
theorem xres_cell {H : AH} {s : St} {a : Tmp} {sz : Option Nat} : xres H s (.cell a sz) = xload sz H [s.env a] := _root_.id rfl
theorem xres_tmp {H : AH} {s : St} {a : Tmp} : xres H s (.tmp a) = some (s.env a) := _root_.id rfl
theorem xress_one {H : AH} {s : St} {r : XRes} : xress H s [r] = xres H s r := by
  unfold xress
  simp only [List.mapM_cons, List.mapM_nil, Option.pure_def, Option.bind_eq_bind, Option.bind_some]
  cases xres H s r <;> rfl
def tup2 (a b : Option Value) : Option Value := a.bind fun x => b.bind fun y => some (.tuple [x, y].toArray)
theorem tup2_some {x y : Value} : tup2 (some x) (some y) = some (.tuple [x, y].toArray) := _root_.id rfl
theorem xress_two {H : AH} {s : St} {r q : XRes} : xress H s [r, q] = tup2 (xres H s r) (xres H s q) := by
  unfold xress tup2
  simp only [List.mapM_cons, List.mapM_nil, Option.pure_def, Option.bind_eq_bind, Option.bind_some]
  cases xres H s r
  · rfl
  · cases xres H s q <;> rfl
theorem bodyX_normal {res : List XRes} {R : Value → AH → Prop} {s : St} {H : AH} : bodyX res R .normal s H = ∃ H', unwA s.ds H = some H' ∧ ∃ v, xress H' s res = some v ∧ R v H' := by
  simp only [bodyX, exists_and_left]
theorem bodyX_ret {res : List XRes} {R : Value → AH → Prop} {s : St} {H : AH} : bodyX res R .ret s H = ∃ H', unwA s.ds H = some H' ∧ ∃ v, xress H' s res = some v ∧ R v H' := by
  simp only [bodyX, exists_and_left]
theorem ex_pair {α β : Type} {a : α} {b : β} {R : α → β → Prop} : (∃ v w, some (a, b) = some (v, w) ∧ R v w) = R a b := by
  apply propext
  constructor
  · rintro ⟨v, w, h, hr⟩; cases h; exact hr
  · intro h; exact ⟨a, b, rfl, h⟩
theorem ex_trip {α β γ : Type} {a : α} {b : β} {c : γ} {R : α → β → γ → Prop} : (∃ u v w, some (a, b, c) = some (u, v, w) ∧ R u v w) = R a b c := by
  apply propext
  constructor
  · rintro ⟨u, v, w, h, hr⟩; cases h; exact hr
  · intro h; exact ⟨a, b, c, rfl, h⟩
theorem unwA_nil {H : AH} : unwA [] H = some H := _root_.id rfl
end Go.Sim
