/- The semantic simulation logic, part 13: operations, their types looked up. -/
import Derived.Test.YtaepmmdbhikjlaaSimL
namespace Go.Sim
open Go

def cop (P : Program) (o : Oper) : Option XO :=
  match o.op with
  | .move _ => some .mov
  | .assign _ => some .mov
  | .pick _ _ _ => some .pick
  | .binOp op t _ _ _ => some (.bin op (binM P t))
  | .unOp op _ _ => some (.un op)
  | .convert s d _ => if (P.underlying s).isSome then (ikT P d).map .conv else none
  | .extract _ ix => some (.ext ix)
  | .load t _ => (partT P t).map .ld
  | .alloc e => match zeroT P e with
    | some z => if ground z then some (.new (cellsL z) e) else none
    | none => none
  | .box e _ => some (.box e)
  | .store t _ _ => (szT P t).map .st
  | .fieldAddr s _ f => (fldT P s f).map fun p => .fld p.1
  | .indexAddr t _ _ => match arrT P t with
    | some (n, e) => (szT P e).map fun sz => .ixA n sz
    | none => match slT P t with
      | some e => (szT P e).map fun sz => .ixS sz
      | none => none
  | .slice t _ lo hi none => match arrT P t with
    | some (n, e) => (szT P e).map fun sz => .slA n sz lo.isSome hi.isSome
    | none => match slT P t with
      | some e => (szT P e).map fun sz => .slS sz lo.isSome hi.isSome
      | none => none
  | .makeSlice t _ _ => match slT P t with
    | some e => match P.info? e with
      | some ti => match ti.zero with
        | some z => if z.cells.all scal ∧ 0 < z.cells.size then some (.make z ti.size ti.bytes e) else none
        | none => none
      | none => none
    | none => none
  | .buildSlice t len parts => match slT P t with
    | some e => match szT P e, zeroT P e with
      | some sz, some z => if len * sz ≤ 16777216 ∧ z.cells.all scal ∧ 0 < z.cells.size then some (.bsl (if len * sz = 0 then #[] else madeCells z.cells (len * sz)).toList len (parts.toList.map fun p => (p.1 * sz, sz)) e) else none
      | _, _ => none
    | none => none
  | .makeFunc (.func g) first cap => some (.fn g first.size cap.size)
  | .build t parts => match zeroT P t with
    | some z => if z.cells.all scal then
        match P.underlying t with
        | some (.struct fs) => match fs.toList.mapM (fun f => (szT P f.type).map fun n => (f.offset, n)) with
          | some pl => ((parts.toList.map (·.1)).mapM fun i => pl.toArray[i]?).map (.bld z.cells.toList)
          | none => none
        | some (.array _ e) => (szT P e).map fun sz => .bld z.cells.toList (parts.toList.map fun p => (p.1 * sz, sz))
        | _ => none
      else none
    | none => none
  | .field t _ f => match P.underlying t with
    | some (.struct fs) => match fs[f]? with
      | some fd => (partT P fd.type).map fun sz => .prt sz fd.offset
      | none => none
    | _ => none
  | .index t _ _ => match arrT P t with
    | some (len, e) => match szT P e, partT P e with
      | some es, some sz => some (.ixV len es sz)
      | _, _ => none
    | none => none
  | .call c => match c.callee with
    | .value _ => some .call
    | .builtin .len => match c.args.toList, c.argTypes.toList with
      | [_], [t] => match P.underlying t with
        | some .string => some .lenT
        | some (.slice _) => some .lenS
        | some (.array n _) => some (.lenA n)
        | _ => none
      | _, _ => none
    | .builtin .min => match c.args.toList with
      | [_, _] => some .min2
      | _ => none
    | .builtin .max => match c.args.toList with
      | [_, _] => some .max2
      | _ => none
    | .builtin .append => match c.args.toList, c.argTypes.toList with
      | [_, _], [t, t'] => match slT P t, slT P t' with
        | some e, some _ => match P.info? e with
          | some ti => match ti.zero with
            | some z => if z.cells.size = ti.size ∧ 0 < ti.size then some (.app e ti.size ti.bytes) else none
            | none => none
          | none => none
        | _, _ => none
      | _, _ => none
    | _ => none
  | _ => none

theorem cop_nd {P : Program} {o : Oper} {x : XO} (h : cop P o = some x) : ∀ c, o.op ≠ .defer c := by
  intro c hc
  simp [cop, hc] at h

theorem map_mul_place (sz : Nat) : ∀ (l : List Nat), l.mapM (fun i => some (i * sz, sz)) = some (l.map fun i => (i * sz, sz))
  | [] => rfl
  | a :: l => by simp [List.mapM_cons, map_mul_place sz l]

theorem call_eq {c : Call} {b : Builtin} {l : List Operand} {t : List TypeId} (h1 : c.callee = .builtin b) (h2 : c.args.toList = l) (h3 : c.argTypes.toList = t) : c = { callee := .builtin b, args := l.toArray, argTypes := t.toArray } := by
  cases c
  simp_all
  constructor <;> (apply Array.ext'; simp_all)

/-! the shapes -/
section
variable {vs : List Value} {v : Value}
theorem xp_mov  (h : xpure (.mov) vs = some v) : vs = [v] := by
  rcases vs with _ | ⟨u, _ | ⟨u2, us⟩⟩ <;> first | (exfalso; simp [xpure] at h; done) | skip
  simp [xpure] at h; rw [h]
theorem xp_pick  (h : xpure (.pick) vs = some v) : ∃ b x y, vs = [.bool b, x, y] ∧ v = if b then x else y := by
  rcases vs with _ | ⟨u, _ | ⟨u2, _ | ⟨u3, _ | ⟨u4, us⟩⟩⟩⟩ <;> first | (exfalso; simp [xpure] at h; done) | skip
  cases u <;> first | (exfalso; simp [xpure] at h; done) | skip
  simp only [xpure, Option.some.injEq] at h
  exact ⟨_, _, _, rfl, h.symm⟩
theorem xp_bin {op : BinOp} {m : Nat} (h : xpure (.bin op m) vs = some v) : ∃ a b, vs = [a, b] ∧ xbin op m a b = some v := by
  rcases vs with _ | ⟨u, _ | ⟨u2, _ | ⟨u3, us⟩⟩⟩ <;> first | (exfalso; simp [xpure] at h; done) | skip
  exact ⟨_, _, rfl, h⟩
theorem xp_un {op : UnOp} (h : xpure (.un op) vs = some v) : ∃ a, vs = [a] ∧ eun op a = some v := by
  rcases vs with _ | ⟨u, _ | ⟨u2, us⟩⟩ <;> first | (exfalso; simp [xpure] at h; done) | skip
  exact ⟨_, rfl, h⟩
theorem xp_conv {k : IntKind} (h : xpure (.conv k) vs = some v) : ∃ k' n, vs = [.int k' n] ∧ v = .int k (k.wrap n) := by
  rcases vs with _ | ⟨u, _ | ⟨u2, us⟩⟩ <;> first | (exfalso; simp [xpure] at h; done) | skip
  cases u <;> first | (exfalso; simp [xpure] at h; done) | skip
  simp only [xpure, Option.some.injEq] at h
  exact ⟨_, _, rfl, h.symm⟩
theorem xp_ext {ix : Nat} (h : xpure (.ext ix) vs = some v) : ∃ cs : Array Value, vs = [.tuple cs] ∧ cs[ix]? = some v := by
  rcases vs with _ | ⟨u, _ | ⟨u2, us⟩⟩ <;> first | (exfalso; simp [xpure] at h; done) | skip
  cases u <;> first | (exfalso; simp [xpure] at h; done) | skip
  exact ⟨_, rfl, by simpa [xpure] using h⟩
theorem xp_fld {off : Nat} (h : xpure (.fld off) vs = some v) : ∃ a : Addr, vs = [.pointer (some a)] ∧ v = .pointer (some ⟨a.block, a.off + off, none⟩) := by
  rcases vs with _ | ⟨u, _ | ⟨u2, us⟩⟩ <;> first | (exfalso; simp [xpure] at h; done) | skip
  cases u <;> first | (exfalso; simp [xpure] at h; done) | skip
  rename_i a; cases a <;> first | (exfalso; simp [xpure] at h; done) | skip
  simp [xpure] at h
  exact ⟨_, rfl, h.2.symm⟩
theorem xp_ixA {len sz : Nat} (h : xpure (.ixA len sz) vs = some v) : ∃ (a : Addr) (k : IntKind) (n : Int), vs = [.pointer (some a), .int k n] ∧ a.spot = none ∧ 0 ≤ n ∧ n < len ∧ v = .pointer (some ⟨a.block, a.off + n.toNat * sz, none⟩) := by
  rcases vs with _ | ⟨u, _ | ⟨u2, _ | ⟨u3, us⟩⟩⟩ <;> first | (exfalso; simp [xpure] at h; done) | skip
  cases u <;> first | (exfalso; simp [xpure] at h; done) | skip
  rename_i a; cases a <;> first | (exfalso; simp [xpure] at h; done) | skip
  cases u2 <;> first | (exfalso; simp [xpure] at h; done) | skip
  simp [xpure] at h
  exact ⟨_, _, _, rfl, h.1.1, h.1.2.1, h.1.2.2, h.2.symm⟩
theorem xp_ixS {sz : Nat} (h : xpure (.ixS sz) vs = some v) : ∃ (a : Addr) (l c : Nat) (k : IntKind) (n : Int), vs = [.slice (some a) l c, .int k n] ∧ a.spot = none ∧ 0 ≤ n ∧ n < l ∧ v = .pointer (some ⟨a.block, a.off + n.toNat * sz, none⟩) := by
  rcases vs with _ | ⟨u, _ | ⟨u2, _ | ⟨u3, us⟩⟩⟩ <;> first | (exfalso; simp [xpure] at h; done) | skip
  cases u <;> first | (exfalso; simp [xpure] at h; done) | skip
  rename_i a _ _; cases a <;> first | (exfalso; simp [xpure] at h; done) | skip
  cases u2 <;> first | (exfalso; simp [xpure] at h; done) | skip
  simp [xpure] at h
  exact ⟨_, _, _, _, _, rfl, h.1.1, h.1.2.1, h.1.2.2, h.2.symm⟩
theorem xp_lenA {n : Nat} (h : xpure (.lenA n) vs = some v) : ∃ u, vs = [u] ∧ v = .int .i64 n := by
  rcases vs with _ | ⟨u, _ | ⟨u2, us⟩⟩ <;> first | (exfalso; simp [xpure] at h; done) | skip
  simp only [xpure, Option.some.injEq] at h
  exact ⟨_, rfl, h.symm⟩
theorem xp_lenS  (h : xpure (.lenS) vs = some v) : ∃ a n c, vs = [.slice a n c] ∧ v = .int .i64 n := by
  rcases vs with _ | ⟨u, _ | ⟨u2, us⟩⟩ <;> first | (exfalso; simp [xpure] at h; done) | skip
  cases u <;> first | (exfalso; simp [xpure] at h; done) | skip
  simp only [xpure, Option.some.injEq] at h
  exact ⟨_, _, _, rfl, h.symm⟩
theorem xp_lenT  (h : xpure (.lenT) vs = some v) : ∃ s : ByteArray, vs = [.string s] ∧ v = .int .i64 s.size := by
  rcases vs with _ | ⟨u, _ | ⟨u2, us⟩⟩ <;> first | (exfalso; simp [xpure] at h; done) | skip
  cases u <;> first | (exfalso; simp [xpure] at h; done) | skip
  simp only [xpure, Option.some.injEq] at h
  exact ⟨_, rfl, h.symm⟩
theorem xp_min2  (h : xpure (.min2) vs = some v) : ∃ (k : IntKind) (a b : Int), vs = [.int k a, .int k b] ∧ v = .int k (if b < a then b else a) := by
  rcases vs with _ | ⟨u, _ | ⟨u2, _ | ⟨u3, us⟩⟩⟩ <;> first | (exfalso; simp [xpure] at h; done) | skip
  cases u <;> first | (exfalso; simp [xpure] at h; done) | skip
  cases u2 <;> first | (exfalso; simp [xpure] at h; done) | skip
  simp only [xpure] at h
  split at h
  · rename_i e; subst e; cases h; exact ⟨_, _, _, rfl, rfl⟩
  · cases h
theorem xp_max2  (h : xpure (.max2) vs = some v) : ∃ (k : IntKind) (a b : Int), vs = [.int k a, .int k b] ∧ v = .int k (if a < b then b else a) := by
  rcases vs with _ | ⟨u, _ | ⟨u2, _ | ⟨u3, us⟩⟩⟩ <;> first | (exfalso; simp [xpure] at h; done) | skip
  cases u <;> first | (exfalso; simp [xpure] at h; done) | skip
  cases u2 <;> first | (exfalso; simp [xpure] at h; done) | skip
  simp only [xpure] at h
  split at h
  · rename_i e; subst e; cases h; exact ⟨_, _, _, rfl, rfl⟩
  · cases h
theorem xp_fn {g : FuncId} {nf nc : Nat} (h : xpure (.fn g nf nc) vs = some v) : vs.length = nf + nc ∧ v = .func (.func g) (vs.take nf).toArray (vs.drop nf).toArray := by
  simp only [xpure] at h
  split at h
  · rename_i e; cases h; exact ⟨e, rfl⟩
  · cases h
theorem xp_bld {init : List Value} {pl : List (Nat × Nat)} (h : xpure (.bld init pl) vs = some v) : ∃ l, xfill init pl vs = some l ∧ v = .agg l.toArray := by
  simp only [xpure, Option.map_eq_some_iff] at h
  obtain ⟨l, h1, h2⟩ := h
  exact ⟨l, h1, h2.symm⟩
theorem xp_prt {sz : Option Nat} {off : Nat} (h : xpure (.prt sz off) vs = some v) : ∃ cs : Array Value, vs = [.agg cs] ∧ xpart sz cs.toList off = some v := by
  rcases vs with _ | ⟨u, _ | ⟨u2, us⟩⟩ <;> first | (exfalso; simp [xpure] at h; done) | skip
  cases u <;> first | (exfalso; simp [xpure] at h; done) | skip
  exact ⟨_, rfl, h⟩
theorem xp_ixV {len es : Nat} {sz : Option Nat} (h : xpure (.ixV len es sz) vs = some v) : ∃ (cs : Array Value) (k : IntKind) (n : Int), vs = [.agg cs, .int k n] ∧ 0 ≤ n ∧ n < len ∧ xpart sz cs.toList (n.toNat * es) = some v := by
  rcases vs with _ | ⟨u, _ | ⟨u2, _ | ⟨u3, us⟩⟩⟩ <;> first | (exfalso; simp [xpure] at h; done) | skip
  cases u <;> first | (exfalso; simp [xpure] at h; done) | skip
  cases u2 <;> first | (exfalso; simp [xpure] at h; done) | skip
  simp only [xpure] at h
  split at h
  · rename_i e; exact ⟨_, _, _, rfl, e.1, e.2, h⟩
  · cases h
theorem xp_ld {sz : Option Nat} : xpure (.ld sz) vs ≠ some v := by simp [xpure]
theorem xp_new {c : List Value} {e : TypeId} : xpure (.new c e) vs ≠ some v := by simp [xpure]
theorem xp_box {e : TypeId} : xpure (.box e) vs ≠ some v := by simp [xpure]
theorem xp_st {n : Nat} : xpure (.st n) vs ≠ some v := by simp [xpure]
theorem xp_make {z : Value} {a b : Nat} {e : TypeId} : xpure (.make z a b e) vs ≠ some v := by simp [xpure]
theorem xp_bsl {z : List Value} {a : Nat} {b : List (Nat × Nat)} {e : TypeId} : xpure (.bsl z a b e) vs ≠ some v := by simp [xpure]
theorem xp_app {a b : Nat} {e : TypeId} : xpure (.app e a b) vs ≠ some v := by simp [xpure]
theorem xp_call : xpure .call vs ≠ some v := by simp [xpure]

theorem xp_slA {P : Program} {t e : TypeId} {n sz : Nat} {lo hi : Bool} (ht : arrT P t = some (n, e)) (hs : szT P e = some sz) (h : xpure (.slA n sz lo hi) vs = some v) : ∃ u us l h, vs = u :: us ∧ bnds lo hi us = some (l, h) ∧ eslice P t u l h = some v := by
  rcases vs with _ | ⟨u, us⟩ <;> first | (exfalso; simp [xpure] at h; done) | skip
  cases u <;> first | (exfalso; simp [xpure] at h; done) | skip
  rename_i a; cases a <;> first | (exfalso; simp [xpure] at h; done) | skip
  simp only [xpure] at h
  split at h
  · rename_i l hh hb
    split at h
    · rename_i hc
      refine ⟨_, _, _, _, rfl, hb, ?_⟩
      simp only [eslice, ht, hc.1, hs]
      rw [if_pos hc.2]
      exact h
    · cases h
  · cases h
theorem xp_slS {P : Program} {t e : TypeId} {sz : Nat} {lo hi : Bool} (ht : slT P t = some e) (hs : szT P e = some sz) (h : xpure (.slS sz lo hi) vs = some v) : ∃ u us l h, vs = u :: us ∧ bnds lo hi us = some (l, h) ∧ eslice P t u l h = some v := by
  rcases vs with _ | ⟨u, us⟩ <;> first | (exfalso; simp [xpure] at h; done) | skip
  cases u <;> first | (exfalso; simp [xpure] at h; done) | skip
  rename_i a ln c; cases a with
  | none =>
    rcases ln with _ | ln <;> first | (exfalso; simp [xpure] at h; done) | skip
    rcases c with _ | c <;> first | (exfalso; simp [xpure] at h; done) | skip
    simp only [xpure] at h
    split at h
    · rename_i l hh hb
      split at h
      · rename_i hc
        refine ⟨_, _, _, _, rfl, hb, ?_⟩
        simp only [eslice, ht, Option.bind_some, hs, Option.isSome_some, true_and]
        rw [if_pos hc]
        exact h
      · cases h
    · cases h
  | some a =>
    simp only [xpure] at h
    split at h
    · rename_i l hh hb
      split at h
      · rename_i hc
        refine ⟨_, _, _, _, rfl, hb, ?_⟩
        simp only [eslice, ht, hc.1, hs]
        rw [if_pos hc.2]
        exact h
      · cases h
    · cases h
end

end Go.Sim
