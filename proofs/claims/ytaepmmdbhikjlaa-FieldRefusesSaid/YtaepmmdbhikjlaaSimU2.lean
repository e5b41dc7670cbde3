/- The semantic simulation logic, part 21b: the operations that are met most, fast. -/
import Derived.Test.YtaepmmdbhikjlaaSimU
namespace Go.Sim
open Go

noncomputable def withBf {α : Type} (v : Value) : α → (Bool → α) → α :=
  Value.casesOn (motive_1 := fun _ => α → (Bool → α) → α) v (fun b _ K => K b) (fun _ _ d _ => d) (fun _ _ d _ => d) (fun _ _ _ d _ => d) (fun _ d _ => d) (fun _ d _ => d) (fun _ _ _ d _ => d) (fun _ d _ => d) (fun _ d _ => d) (fun _ _ _ d _ => d) (fun d _ => d) (fun _ _ d _ => d) (fun d _ => d) (fun _ d _ => d) (fun _ d _ => d)
noncomputable def withB {α : Type} (d : α) (v : Value) (K : Bool → α) : α := withBf v d K
theorem withB_eq {α : Type} {d : α} {v : Value} {K : Bool → α} : (∃ b, v = .bool b ∧ withB d v K = K b) ∨ withB d v K = d := by
  cases v with
  | bool b => exact .inl ⟨b, rfl, rfl⟩
  | _ => exact .inr rfl
noncomputable def withA {α : Type} (d : α) (a : Option Addr) (K : Nat → Nat → α) : α := Option.rec d (fun a => Addr.rec (fun b o s => Option.rec (K b o) (fun _ => d) s) a) a
theorem withA_eq {α : Type} {d : α} {a : Option Addr} {K : Nat → Nat → α} : (∃ b o, a = some ⟨b, o, none⟩ ∧ withA d a K = K b o) ∨ withA d a K = d := by
  cases a with
  | none => exact .inr rfl
  | some a =>
    obtain ⟨b, o, s⟩ := a
    cases s with
    | none => exact .inl ⟨b, o, rfl, rfl⟩
    | some s => exact .inr rfl
noncomputable def withPf {α : Type} (v : Value) : α → (Nat → Nat → α) → α :=
  Value.casesOn (motive_1 := fun _ => α → (Nat → Nat → α) → α) v (fun _ d _ => d) (fun _ _ d _ => d) (fun _ _ d _ => d) (fun _ _ _ d _ => d) (fun _ d _ => d) (fun a d K => withA d a K) (fun _ _ _ d _ => d) (fun _ d _ => d) (fun _ d _ => d) (fun _ _ _ d _ => d) (fun d _ => d) (fun _ _ d _ => d) (fun d _ => d) (fun _ d _ => d) (fun _ d _ => d)
noncomputable def withP {α : Type} (d : α) (v : Value) (K : Nat → Nat → α) : α := withPf v d K
theorem withP_eq {α : Type} {d : α} {v : Value} {K : Nat → Nat → α} : (∃ b o, v = .pointer (some ⟨b, o, none⟩) ∧ withP d v K = K b o) ∨ withP d v K = d := by
  cases v with
  | pointer a =>
    rcases withA_eq (d := d) (a := a) (K := K) with ⟨b, o, h, h2⟩ | h
    · exact .inl ⟨b, o, by rw [h], h2⟩
    · exact .inr h
  | _ => exact .inr rfl
noncomputable def withSf {α : Type} (v : Value) : α → (Nat → Nat → Nat → Nat → α) → α :=
  Value.casesOn (motive_1 := fun _ => α → (Nat → Nat → Nat → Nat → α) → α) v (fun _ d _ => d) (fun _ _ d _ => d) (fun _ _ d _ => d) (fun _ _ _ d _ => d) (fun _ d _ => d) (fun _ d _ => d) (fun a l c d K => withA d a fun b o => K b o l c) (fun _ d _ => d) (fun _ d _ => d) (fun _ _ _ d _ => d) (fun d _ => d) (fun _ _ d _ => d) (fun d _ => d) (fun _ d _ => d) (fun _ d _ => d)
noncomputable def withS {α : Type} (d : α) (v : Value) (K : Nat → Nat → Nat → Nat → α) : α := withSf v d K
theorem withS_eq {α : Type} {d : α} {v : Value} {K : Nat → Nat → Nat → Nat → α} : (∃ b o l c, v = .slice (some ⟨b, o, none⟩) l c ∧ withS d v K = K b o l c) ∨ withS d v K = d := by
  cases v with
  | slice a l c =>
    rcases withA_eq (d := d) (a := a) (K := fun b o => K b o l c) with ⟨b, o, h, h2⟩ | h
    · exact .inl ⟨b, o, l, c, by rw [h], h2⟩
    · exact .inr h
  | _ => exact .inr rfl

noncomputable def one1 {α : Type} (d : α) (vs : List Value) (K : Value → α) : α := List.rec d (fun a t _ => List.rec (K a) (fun _ _ _ => d) t) vs
theorem one1_eq {α : Type} {d : α} {vs : List Value} {K : Value → α} : (∃ a, vs = [a] ∧ one1 d vs K = K a) ∨ one1 d vs K = d := by
  rcases vs with _ | ⟨a, _ | ⟨b, t⟩⟩
  · exact .inr rfl
  · exact .inl ⟨a, rfl, rfl⟩
  · exact .inr rfl
noncomputable def two2 {α : Type} (d : α) (vs : List Value) (K : Value → Value → α) : α := List.rec d (fun a t _ => List.rec d (fun b t _ => List.rec (K a b) (fun _ _ _ => d) t) t) vs
theorem two2_eq {α : Type} {d : α} {vs : List Value} {K : Value → Value → α} : (∃ a b, vs = [a, b] ∧ two2 d vs K = K a b) ∨ two2 d vs K = d := by
  rcases vs with _ | ⟨a, _ | ⟨b, _ | ⟨c, t⟩⟩⟩
  · exact .inr rfl
  · exact .inr rfl
  · exact .inl ⟨a, b, rfl, rfl⟩
  · exact .inr rfl
noncomputable def three3 {α : Type} (d : α) (vs : List Value) (K : Value → Value → Value → α) : α := List.rec d (fun a t _ => List.rec d (fun b t _ => List.rec d (fun c t _ => List.rec (K a b c) (fun _ _ _ => d) t) t) t) vs
theorem three3_eq {α : Type} {d : α} {vs : List Value} {K : Value → Value → Value → α} : (∃ a b c, vs = [a, b, c] ∧ three3 d vs K = K a b c) ∨ three3 d vs K = d := by
  rcases vs with _ | ⟨a, _ | ⟨b, _ | ⟨c, _ | ⟨e, t⟩⟩⟩⟩
  · exact .inr rfl
  · exact .inr rfl
  · exact .inr rfl
  · exact .inl ⟨a, b, c, rfl, rfl⟩
  · exact .inr rfl

noncomputable def qMov (vs : List Value) : Option Value := one1 none vs some
noncomputable def qPick (d : Option Value) (vs : List Value) : Option Value := three3 d vs fun c a b => withB d c fun t => Bool.rec (some b) (some a) t
noncomputable def qBin (op : BinOp) (m : Nat) (vs : List Value) : Option Value := two2 none vs fun a b => withI (xbin op m a b) a fun i => withI (xbin op m a b) b fun j => qN op i j (xbin op m a b)
noncomputable def qFld (off : Nat) (d : Option Value) (vs : List Value) : Option Value := one1 d vs fun p => withP d p fun b o => some (.pointer (some ⟨b, Nat.add o off, none⟩))
noncomputable def qIxA (len sz : Nat) (d : Option Value) (vs : List Value) : Option Value := two2 d vs fun p i => withP d p fun b o => withI d i fun n => Bool.rec d (some (.pointer (some ⟨b, Nat.add o (Nat.mul n sz), none⟩))) (Nat.blt n len)
noncomputable def qIxS (sz : Nat) (d : Option Value) (vs : List Value) : Option Value := two2 d vs fun p i => withS d p fun b o l _ => withI d i fun n => Bool.rec d (some (.pointer (some ⟨b, Nat.add o (Nat.mul n sz), none⟩))) (Nat.blt n l)
noncomputable def qLenS (d : Option Value) (vs : List Value) : Option Value := one1 d vs fun p => withS d p fun _ _ l _ => some (.int .i64 (.ofNat l))
noncomputable def qLenA (n : Nat) (vs : List Value) : Option Value := one1 none vs fun _ => some (.int .i64 (.ofNat n))

noncomputable def qpuref (x : XO) : Option Value → List Value → Option Value :=
  XO.casesOn (motive := fun _ => Option Value → List Value → Option Value) x (fun _ vs => qMov vs) qPick (fun op m _ vs => qBin op m vs) (fun _ d _ => d) (fun _ d _ => d) (fun _ d _ => d) (fun _ _ _ => none) (fun _ _ _ _ => none) (fun _ _ _ => none) (fun _ _ _ => none)
    qFld qIxA qIxS (fun _ _ _ _ d _ => d) (fun _ _ _ d _ => d) (fun _ _ _ _ _ _ => none) (fun _ _ _ _ _ _ => none) (fun _ _ _ d _ => d)
    (fun n _ vs => qLenA n vs) qLenS (fun d _ => d) (fun d _ => d) (fun d _ => d) (fun _ _ _ _ _ => none) (fun _ _ d _ => d) (fun _ _ d _ => d) (fun _ _ _ d _ => d) (fun _ _ => none)
noncomputable def qpure (x : XO) (vs : List Value) : Option Value := qpuref x (xpure x vs) vs

theorem qpure_eq {x : XO} {vs : List Value} {v : Value} (h : qpure x vs = some v) : xpure x vs = some v := by
  cases x
  case mov =>
    change one1 none vs some = _ at h
    rcases one1_eq (d := none) (vs := vs) (K := some) with ⟨a, rfl, h2⟩ | h2
    · rw [h2] at h; exact h
    · rw [h2] at h; cases h
  case pick =>
    change three3 _ vs (fun c a b => withB (xpure .pick vs) c fun t => Bool.rec (some b) (some a) t) = _ at h
    rcases three3_eq (d := xpure .pick vs) (vs := vs) (K := fun c a b => withB (xpure .pick vs) c fun t => Bool.rec (some b) (some a) t) with ⟨c, a, b, e, h2⟩ | h2
    · rw [h2] at h
      rcases withB_eq (d := xpure .pick vs) (v := c) (K := fun t => (Bool.rec (some b) (some a) t : Option Value)) with ⟨t, e2, h3⟩ | h3
      · rw [h3] at h
        rw [e, e2]
        cases t <;> exact h
      · rw [h3] at h; exact h
    · rw [h2] at h; exact h
  case bin op m =>
    change two2 none vs (fun a b => withI (xbin op m a b) a fun i => withI (xbin op m a b) b fun j => qN op i j (xbin op m a b)) = _ at h
    rcases two2_eq (d := none) (vs := vs) (K := fun a b => withI (xbin op m a b) a fun i => withI (xbin op m a b) b fun j => qN op i j (xbin op m a b)) with ⟨a, b, e, h2⟩ | h2
    · rw [h2] at h
      rw [e]
      change xbin op m a b = _
      rcases withI_eq (d := xbin op m a b) (v := a) (K := fun i => withI (xbin op m a b) b fun j => qN op i j (xbin op m a b)) with ⟨i, e2, h3⟩ | h3
      · rw [h3] at h
        rcases withI_eq (d := xbin op m a b) (v := b) (K := fun j => qN op i j (xbin op m a b)) with ⟨j, e3, h4⟩ | h4
        · rw [h4] at h
          subst e2 e3
          exact qN_eq h
        · rw [h4] at h; exact h
      · rw [h3] at h; exact h
    · rw [h2] at h; cases h
  case fld off =>
    change one1 _ vs (fun p => withP (xpure (.fld off) vs) p fun b o => some (.pointer (some ⟨b, o + off, none⟩))) = _ at h
    rcases one1_eq (d := xpure (.fld off) vs) (vs := vs) (K := fun p => withP (xpure (.fld off) vs) p fun b o => some (.pointer (some ⟨b, o + off, none⟩))) with ⟨a, e, h2⟩ | h2
    · rw [h2] at h
      rcases withP_eq (d := xpure (.fld off) vs) (v := a) (K := fun b o => some (Value.pointer (some ⟨b, o + off, none⟩))) with ⟨b, o, e2, h3⟩ | h3
      · rw [h3] at h
        rw [e, e2, xp_fld']; exact h
      · rw [h3] at h; exact h
    · rw [h2] at h; exact h
  case ixA len sz =>
    change two2 _ vs (fun p i => withP (xpure (.ixA len sz) vs) p fun b o => withI (xpure (.ixA len sz) vs) i fun n => Bool.rec (xpure (.ixA len sz) vs) (some (.pointer (some ⟨b, o + n * sz, none⟩))) (Nat.blt n len)) = _ at h
    rcases two2_eq (d := xpure (.ixA len sz) vs) (vs := vs) (K := fun p i => withP (xpure (.ixA len sz) vs) p fun b o => withI (xpure (.ixA len sz) vs) i fun n => Bool.rec (xpure (.ixA len sz) vs) (some (.pointer (some ⟨b, o + n * sz, none⟩))) (Nat.blt n len)) with ⟨p, i, e, h2⟩ | h2
    · rw [h2] at h
      rcases withP_eq (d := xpure (.ixA len sz) vs) (v := p) (K := fun b o => withI (xpure (.ixA len sz) vs) i fun n => Bool.rec (xpure (.ixA len sz) vs) (some (.pointer (some ⟨b, o + n * sz, none⟩))) (Nat.blt n len)) with ⟨b, o, e2, h3⟩ | h3
      · rw [h3] at h
        rcases withI_eq (d := xpure (.ixA len sz) vs) (v := i) (K := fun n => (Bool.rec (xpure (.ixA len sz) vs) (some (.pointer (some ⟨b, o + n * sz, none⟩))) (Nat.blt n len) : Option Value)) with ⟨n, e3, h4⟩ | h4
        · rw [h4] at h
          cases hb : Nat.blt n len with
          | false => rw [hb] at h; exact h
          | true =>
            rw [hb] at h
            rw [e, e2, e3, xp_ixAN (by simpa using hb)]; exact h
        · rw [h4] at h; exact h
      · rw [h3] at h; exact h
    · rw [h2] at h; exact h
  case ixS sz =>
    change two2 _ vs (fun p i => withS (xpure (.ixS sz) vs) p fun b o l _ => withI (xpure (.ixS sz) vs) i fun n => Bool.rec (xpure (.ixS sz) vs) (some (.pointer (some ⟨b, o + n * sz, none⟩))) (Nat.blt n l)) = _ at h
    rcases two2_eq (d := xpure (.ixS sz) vs) (vs := vs) (K := fun p i => withS (xpure (.ixS sz) vs) p fun b o l _ => withI (xpure (.ixS sz) vs) i fun n => Bool.rec (xpure (.ixS sz) vs) (some (.pointer (some ⟨b, o + n * sz, none⟩))) (Nat.blt n l)) with ⟨p, i, e, h2⟩ | h2
    · rw [h2] at h
      rcases withS_eq (d := xpure (.ixS sz) vs) (v := p) (K := fun b o l _ => withI (xpure (.ixS sz) vs) i fun n => Bool.rec (xpure (.ixS sz) vs) (some (.pointer (some ⟨b, o + n * sz, none⟩))) (Nat.blt n l)) with ⟨b, o, l, c, e2, h3⟩ | h3
      · rw [h3] at h
        rcases withI_eq (d := xpure (.ixS sz) vs) (v := i) (K := fun n => (Bool.rec (xpure (.ixS sz) vs) (some (.pointer (some ⟨b, o + n * sz, none⟩))) (Nat.blt n l) : Option Value)) with ⟨n, e3, h4⟩ | h4
        · rw [h4] at h
          cases hb : Nat.blt n l with
          | false => rw [hb] at h; exact h
          | true =>
            rw [hb] at h
            rw [e, e2, e3, xp_ixSN (by simpa using hb)]; exact h
        · rw [h4] at h; exact h
      · rw [h3] at h; exact h
    · rw [h2] at h; exact h
  case lenA n =>
    change one1 none vs (fun _ => some (nv n)) = _ at h
    rcases one1_eq (d := none) (vs := vs) (K := fun _ => some (nv n)) with ⟨a, rfl, h2⟩ | h2
    · rw [h2] at h; exact h
    · rw [h2] at h; cases h
  case lenS =>
    change one1 _ vs (fun p => withS (xpure .lenS vs) p fun _ _ l _ => some (nv l)) = _ at h
    rcases one1_eq (d := xpure .lenS vs) (vs := vs) (K := fun p => withS (xpure .lenS vs) p fun _ _ l _ => some (nv l)) with ⟨a, e, h2⟩ | h2
    · rw [h2] at h
      rcases withS_eq (d := xpure .lenS vs) (v := a) (K := fun _ _ l _ => some (nv l)) with ⟨b, o, l, c, e2, h3⟩ | h3
      · rw [h3] at h
        rw [e, e2]; exact h
      · rw [h3] at h; exact h
    · rw [h2] at h; exact h
  all_goals first | exact h | (cases h; done)

/-! ### the heap -/
noncomputable def withC {α : Type} (d : α) (x : Option AB) (K : List Value → TypeId → Option Nat → Bool → α) : α := Option.rec d (fun x => AB.rec (fun c e o r => K c e o r) (fun _ => d) (fun _ => d) d x) x
theorem withC_eq {α : Type} {d : α} {x : Option AB} {K : List Value → TypeId → Option Nat → Bool → α} : (∃ c e o r, x = some (.cells c e o r) ∧ withC d x K = K c e o r) ∨ withC d x K = d := by
  rcases x with _ | (⟨c, e, o, r⟩ | _ | _ | _)
  · exact .inr rfl
  · exact .inl ⟨c, e, o, r, rfl, rfl⟩
  · exact .inr rfl
  · exact .inr rfl
  · exact .inr rfl

noncomputable def qload (sz : Option Nat) (H : AH) (vs : List Value) : Option Value :=
  one1 none vs fun p => withP none p fun b o => withC none (nth H b) fun c _ _ _ => Option.rec (nth c o) (fun n => xpart (some n) c o) sz
theorem qload_eq {sz : Option Nat} {H : AH} {vs : List Value} {v : Value} (h : qload sz H vs = some v) : xload sz H vs = some v := by
  unfold qload at h
  rcases one1_eq (d := none) (vs := vs) (K := fun p => withP none p fun b o => withC none (nth H b) fun c _ _ _ => Option.rec (nth c o) (fun n => xpart (some n) c o) sz) with ⟨p, e, h2⟩ | h2
  · rw [h2] at h
    rcases withP_eq (d := none) (v := p) (K := fun b o => withC none (nth H b) fun c _ _ _ => Option.rec (nth c o) (fun n => xpart (some n) c o) sz) with ⟨b, o, e2, h3⟩ | h3
    · rw [h3] at h
      rcases withC_eq (d := none) (x := nth H b) (K := fun c _ _ _ => (Option.rec (nth c o) (fun n => xpart (some n) c o) sz : Option Value)) with ⟨c, el, op, r, e3, h4⟩ | h4
      · rw [h4] at h
        rw [nth_eq] at e3
        rw [e, e2, xload_at e3]
        cases sz with
        | none => rw [xpart_none, ← nth_eq]; exact h
        | some n => exact h
      · rw [h4] at h; cases h
    · rw [h3] at h; cases h
  · rw [h2] at h; cases h

noncomputable def isOne (v : Value) : Bool := Value.casesOn (motive_1 := fun _ => Bool) v (fun _ => true) (fun _ _ => true) (fun _ _ => true) (fun _ _ _ => true) (fun _ => true) (fun _ => true) (fun _ _ _ => true) (fun _ => true) (fun _ => true) (fun _ _ _ => true) true (fun _ _ => true) true (fun _ => false) (fun _ => false)
theorem isOne_eq {v : Value} (h : isOne v = true) : cellsL v = [v] ∧ one v = true := by
  cases v with
  | agg _ => cases h
  | tuple _ => cases h
  | _ => exact ⟨rfl, rfl⟩
noncomputable def qst (sz : Nat) (H : AH) (vs : List Value) (d : Option (Value × AH)) : Option (Value × AH) :=
  two2 d vs fun p v => withP d p fun b o => withC d (nth H b) fun c e op r => Bool.rec (Bool.rec d (Bool.rec d (Option.rec d (fun _ => some (undef, setN H b (.cells (setN c o v) e op false))) (nth c o)) (isOne v)) (Nat.beq sz 1)) d r
theorem qst_eq {sz : Nat} {H : AH} {vs : List Value} {r : Value × AH} (h : qst sz H vs (xact (.st sz) H vs) = some r) : xact (.st sz) H vs = some r := by
  generalize hd : xact (.st sz) H vs = d at h
  rw [← hd]
  have hdd : ∀ {r'}, d = some r' → xact (.st sz) H vs = some r' := fun h => hd.trans h
  unfold qst at h
  rcases two2_eq (d := d) (vs := vs) (K := fun p v => withP d p fun b o => withC d (nth H b) fun c e op r => Bool.rec (Bool.rec d (Bool.rec d (Option.rec d (fun _ => some (undef, setN H b (.cells (setN c o v) e op false))) (nth c o)) (isOne v)) (Nat.beq sz 1)) d r) with ⟨p, v, e, h2⟩ | h2
  · rw [h2] at h
    rcases withP_eq (d := d) (v := p) (K := fun b o => withC d (nth H b) fun c e op r => Bool.rec (Bool.rec d (Bool.rec d (Option.rec d (fun _ => some (undef, setN H b (.cells (setN c o v) e op false))) (nth c o)) (isOne v)) (Nat.beq sz 1)) d r) with ⟨b, o, e2, h3⟩ | h3
    · rw [h3] at h
      rcases withC_eq (d := d) (x := nth H b) (K := fun c e op r => (Bool.rec (Bool.rec d (Bool.rec d (Option.rec d (fun _ => some (undef, setN H b (.cells (setN c o v) e op false))) (nth c o)) (isOne v)) (Nat.beq sz 1)) d r : Option (Value × AH))) with ⟨c, el, op, rr, e3, h4⟩ | h4
      · rw [h4] at h
        rw [nth_eq] at e3
        cases rr with
        | true => exact hdd h
        | false =>
          cases hsz : Nat.beq sz 1 with
          | false => rw [hsz] at h; exact hdd h
          | true =>
            rw [hsz] at h
            have hs1 : sz = 1 := by rw [beq_iff] at hsz; simpa using hsz
            cases ho : isOne v with
            | false => rw [ho] at h; exact hdd h
            | true =>
              rw [ho] at h
              cases hn : nth c o with
              | none => rw [hn] at h; exact hdd h
              | some u =>
                rw [hn] at h
                change some (undef, setN H b (.cells (setN c o v) el op false)) = some r at h
                rw [setN_eq, setN_eq] at h
                rw [nth_eq] at hn
                have hlt := (List.getElem?_eq_some_iff.1 hn).1
                subst hs1
                rw [e, e2, xact_st, e3, stB_one (isOne_eq ho).1 (isOne_eq ho).2 hlt]
                exact h
      · rw [h4] at h; exact hdd h
    · rw [h3] at h; exact hdd h
  · rw [h2] at h; exact hdd h

noncomputable def qactf (x : XO) : Option (Value × AH) → AH → List Value → Option (Value × AH) :=
  XO.casesOn (motive := fun _ => Option (Value × AH) → AH → List Value → Option (Value × AH)) x (fun _ _ _ => none) (fun _ _ _ => none) (fun _ _ _ _ _ => none) (fun _ _ _ _ => none) (fun _ _ _ _ => none) (fun _ _ _ _ => none) (fun _ _ _ _ => none) (fun _ _ _ _ _ => none) (fun _ _ _ _ => none) (fun sz d H vs => qst sz H vs d)
    (fun _ _ _ _ => none) (fun _ _ _ _ _ => none) (fun _ _ _ _ => none) (fun _ _ _ _ _ _ _ => none) (fun _ _ _ _ _ _ => none) (fun _ _ _ _ _ _ _ => none) (fun _ _ _ _ _ _ _ => none) (fun _ _ _ _ _ _ => none)
    (fun _ _ _ _ => none) (fun _ _ _ => none) (fun _ _ _ => none) (fun _ _ _ => none) (fun _ _ _ => none) (fun _ _ _ d _ _ => d) (fun _ _ _ _ _ => none) (fun _ _ _ _ _ => none) (fun _ _ _ _ _ _ => none) (fun _ _ _ => none)
noncomputable def qact (x : XO) (H : AH) (vs : List Value) : Option (Value × AH) := qactf x (xact x H vs) H vs
theorem qact_eq {x : XO} {H : AH} {vs : List Value} {r : Value × AH} (h : qact x H vs = some r) : xact x H vs = some r := by
  cases x
  case st sz => exact qst_eq h
  case app e sz bytes => exact h
  all_goals cases h

end Go.Sim
