/- The semantic simulation logic, part 15: code with all looked up. -/
import Derived.Test.YtaepmmdbhikjlaaSimN
namespace Go.Sim
open Go

/-! ### which operation is before which, by masks -/
def masksTo (ops : Array Oper) : Nat → List Nat
  | 0 => []
  | j + 1 => let m := masksTo ops j; m ++ [(edges ops j).foldl (fun acc k => acc ||| 2 ^ k ||| m.getD k 0) 0]
theorem masksTo_length (ops : Array Oper) : ∀ n, (masksTo ops n).length = n
  | 0 => rfl
  | n + 1 => by simp [masksTo, masksTo_length ops n]
theorem masksTo_getD (ops : Array Oper) {j : Nat} : ∀ {n}, j < n → (masksTo ops n).getD j 0 = (masksTo ops (j + 1)).getD j 0
  | 0, h => by omega
  | n + 1, h => by
    by_cases hj : j = n
    · subst hj; rfl
    · have hlt : j < n := by omega
      rw [← masksTo_getD ops hlt]
      simp only [masksTo, List.getD_eq_getElem?_getD]
      rw [List.getElem?_append_left (by rw [masksTo_length]; exact hlt)]
theorem testBit_fold (f : Nat → Nat) (m : Nat) : ∀ (l : List Nat) (a : Nat), (l.foldl (fun acc k => acc ||| 2 ^ k ||| f k) a).testBit m = (a.testBit m || l.any fun k => k == m || (f k).testBit m)
  | [], a => by simp
  | k :: l, a => by
    simp only [List.foldl_cons, List.any_cons]
    rw [testBit_fold f m l]
    simp only [Nat.testBit_or, Nat.testBit_two_pow]
    by_cases h : k = m
    · subst h; simp
    · have h2 : (k == m) = false := beq_eq_false_iff_ne.2 h
      simp [h, h2, Bool.or_assoc]
theorem masks_succ (ops : Array Oper) (j m : Nat) : ((masksTo ops (j + 1)).getD j 0).testBit m = (edges ops j).any fun k => k == m || ((masksTo ops j).getD k 0).testBit m := by
  simp only [masksTo, List.getD_eq_getElem?_getD]
  rw [List.getElem?_append_right (by rw [masksTo_length]; omega), masksTo_length]
  simp only [Nat.sub_self, List.getElem?_cons_zero, Option.getD_some]
  rw [testBit_fold]
  simp
theorem befF_masks {ops : Array Oper} (hlow : ∀ j, ∀ k ∈ edges ops j, k < j) (m : Nat) : ∀ (f j : Nat), j < f → befF ops f m j = ((masksTo ops (j + 1)).getD j 0).testBit m
  | 0, j, h => by omega
  | f + 1, j, h => by
    rw [masks_succ]
    simp only [befF]
    have key : ∀ k ∈ edges ops j, (k == m || befF ops f m k) = (k == m || ((masksTo ops j).getD k 0).testBit m) := by
      intro k hk
      have hkj := hlow j k hk
      rw [befF_masks hlow m f k (by omega), masksTo_getD ops hkj]
    generalize edges ops j = l at key
    induction l with
    | nil => rfl
    | cons k l ih =>
      simp only [List.any_cons]
      rw [key k (by simp), ih (fun k' hk' => key k' (by simp [hk']))]
theorem bef_masks {ops : Array Oper} (hlow : ∀ j, ∀ k ∈ edges ops j, k < j) (m j : Nat) : bef ops m j = ((masksTo ops ops.size).getD j 0).testBit m := by
  by_cases hj : j < ops.size
  · unfold bef
    rw [befF_masks hlow m _ _ hj, masksTo_getD ops hj]
  · have e : edges ops j = [] := by
      unfold edges
      rw [Array.getElem?_eq_none (by omega)]
    have e2 : (masksTo ops ops.size).getD j 0 = 0 := by
      rw [List.getD_eq_getElem?_getD, List.getElem?_eq_none (by rw [masksTo_length]; omega)]
      rfl
    rw [e2, Nat.zero_testBit]
    unfold bef
    cases ops.size <;> simp [befF, e]

def okDw (r : Nat → Nat → Bool) (ops : Array Oper) (ord : List Nat) (ch : List Nat) : Bool :=
  (ord.length == ops.size && (List.range ops.size).all (fun j => ord.contains j) && ord.all (fun j => decide (j < ops.size))) &&
  pairwiseB (fun a b => !(r b a) && a != b && (!(ch.contains a) || ch.contains b || r a b) && (!(ch.contains a) || !(ch.contains b) || r a b) && (!(edges ops a).contains b)) ord &&
  (List.range ops.size).all (fun j => !(edges ops j).contains j && (edges ops j).all (fun k => decide (k < ops.size))) &&
  (List.range ops.size).all (fun j => (List.range ops.size).all fun m => j == m || (dstOf ops j).isNone || dstOf ops j != dstOf ops m) &&
  (List.range ops.size).all (fun j => (List.range ops.size).all fun m => match dstOf ops m with
    | some t => !((looks ops j).contains t) || (m != j && (r m j || r j m))
    | none => true)
theorem okDw_bef (ops : Array Oper) (ord ch : List Nat) : okDw (bef ops) ops ord ch = okD ops ord ch := rfl

def lowE (ops : Array Oper) : Bool := (List.range ops.size).all fun j => (edges ops j).all fun k => decide (k < j)
theorem lowE_spec {ops : Array Oper} (h : lowE ops = true) : ∀ j, ∀ k ∈ edges ops j, k < j := by
  intro j k hk
  by_cases hj : j < ops.size
  · have := List.all_eq_true.1 h j (by simpa using hj)
    simpa using List.all_eq_true.1 this k hk
  · have e : edges ops j = [] := by
      unfold edges
      rw [Array.getElem?_eq_none (by omega)]
    rw [e] at hk; cases hk
def maskR (ms : List Nat) (m j : Nat) : Bool := (ms.getD j 0).testBit m
theorem okDw_masks {ops : Array Oper} {ord ch : List Nat} (hl : lowE ops = true) (h : okDw (maskR (masksTo ops ops.size)) ops ord ch = true) : okD ops ord ch = true := by
  have e : maskR (masksTo ops ops.size) = bef ops := by
    funext m j
    rw [bef_masks (lowE_spec hl)]
    rfl
  rw [e] at h
  exact h

/-! ### code -/
structure XS where
  g : Option (Tmp × Bool)
  x : XO
  xs : List Operand
  dst : Option Tmp
  j : Nat
  keep : Bool
  chk : List Nat

inductive XC where
  | skip
  | exit (id : Nat)
  | ret
  | seq (a b : XC)
  | cond (c : Operand) (a b : XC)
  | block (id : Nat) (a : XC)
  | loop (a : XC)
  | reg (l : List XS)
  | range (f : Operand) (ps : Array Tmp) (xa xb : XC)

inductive XK where
  | pur | load | new | act | call
  deriving DecidableEq
def XO.kind : XO → XK
  | .ld _ => .load
  | .new _ _ | .box _ | .make _ _ _ _ | .bsl _ _ _ _ => .new
  | .st _ | .app _ _ _ => .act
  | .call => .call
  | _ => .pur

def wantX (g : Option (Tmp × Bool)) (s : St) : Bool :=
  match g with
  | none => true
  | some (d, want) => match s.env d with
    | .bool b => b == want
    | _ => false

structure PL where
  j : Nat
  sz : Option Nat
  vs : List Value
  v : Value

def chkX (c : List Nat) (D : List PL) (H : AH) : Prop := ∀ p ∈ D, p.j ∈ c → xload p.sz H p.vs = some p.v

/-- What can be called. -/
def callable (P : Program) (g : FuncId) : Bool := match P.funcs[g]? with
  | some fn => fn.body.isSome && !(fn.name == "runtime.NumGoroutine")
  | none => false
def FN (P : Program) (g : FuncId) (args : List Value) (H : AH) (R : Value → AH → Prop) : Prop := callable P g = true ∧ F P g args H R
theorem FN.mono {P : Program} {f : FuncId} {args : List Value} {H : AH} {R R' : Value → AH → Prop} (h : FN P f args H R) (hr : ∀ v H, R v H → R' v H) : FN P f args H R' := ⟨h.1, h.2.mono hr⟩

/-- The body of a range over a function, called by the function. -/
def YN (P : Program) (l : Nat) (args : List Value) (H : AH) (R : Value → AH → Prop) : Prop := ∃ v H', R v H' ∧ YSim P l args H v H'
theorem YN.mono {P : Program} {l : Nat} {args : List Value} {H : AH} {R R' : Value → AH → Prop} (h : YN P l args H R) (hr : ∀ v H, R v H → R' v H) : YN P l args H R' :=
  let ⟨v, H', r, q⟩ := h; ⟨v, H', hr _ _ r, q⟩

def callX (P : Program) (vs : List Value) (H : AH) (R : Value → AH → Prop) : Prop :=
  match vs with
  | .func (.func g) first cap :: args => FN P g (first.toList ++ args ++ cap.toList) H R
  | .func (.yield l) first cap :: args => first.size = 0 ∧ cap.size = 0 ∧ YN P l args H R
  | _ => False

def stepsX (P : Program) : List XS → List PL → St → AH → (St → AH → Prop) → Prop
  | [], _, s, H, K => K s H
  | i :: l, D, s, H, K =>
    if wantX i.g s then
      match i.x.kind with
      | .pur => ∃ v, xpure i.x (i.xs.map (ev s)) = some v ∧ stepsX P l D (s.put i.dst v) H K
      | .load => ∃ sz v, i.x = .ld sz ∧ xload sz H (i.xs.map (ev s)) = some v ∧ stepsX P l (if i.keep then ⟨i.j, sz, i.xs.map (ev s), v⟩ :: D else D) (s.put i.dst v) H K
      | .new => ∃ c e mk, xnew i.x (i.xs.map (ev s)) = some (c, e, mk) ∧ chkX i.chk D (H ++ [.cells c e none false]) ∧ stepsX P l D (s.put i.dst (mk H.length)) (H ++ [.cells c e none false]) K
      | .act => ∃ v H', xact i.x H (i.xs.map (ev s)) = some (v, H') ∧ chkX i.chk D H' ∧ stepsX P l D (s.put i.dst v) H' K
      | .call => callX P (i.xs.map (ev s)) H fun v H' => chkX i.chk D H' ∧ stepsX P l D (s.put i.dst v) H' K
    else stepsX P l D (s.put i.dst undef) H K

/-! ### from the program's code -/
def cguard (ops : Array Oper) (o : Oper) : Option (Option (Tmp × Bool)) :=
  match o.guard with
  | none => some none
  | some (j, want) => match (ops[j]?).bind (·.dst) with
    | some d => some (some (d, want))
    | none => none
theorem cguard_want {ops : Array Oper} {o : Oper} {g : Option (Tmp × Bool)} (h : cguard ops o = some g) (s : St) : wantedA ops s o = wantX g s := by
  unfold cguard at h
  unfold wantedA wantX
  split at h
  · rename_i e
    cases h
    simp [e]
  · rename_i j want e
    split at h
    · rename_i d hd
      cases h
      simp only [e, hd]
      cases s.env d <;> rfl
    · cases h

def dstOk (n : Nat) (d : Option Tmp) : Bool := match d with | some t => decide (t < n) | none => true
theorem dstOk_spec {n : Nat} {o : Option Tmp} (h : dstOk n o = true) : ∀ d, o = some d → d < n := by
  intro d hd; subst hd; simpa [dstOk] using h

/-- One operation of a region in the text's order. -/
def cstep (P : Program) (n : Nat) (ops : Array Oper) (j : Nat) : Option XS :=
  match ops[j]? with
  | some o => match cop P o, cguard ops o with
    | some x, some g => if dstOk n o.dst && o.op.operands.toList.all okX then some ⟨g, x, o.op.operands.toList, o.dst, j, false, []⟩ else none
    | _, _ => none
  | none => none

theorem callX_op {P : Program} {o : Oper} {vs : List Value} {H : AH} {R : Value → AH → Prop} (h : cop P o = some .call) (hc : callX P vs H R) : ∃ v H', R v H' ∧ OpSim P o vs H v H' := by
  obtain ⟨c, f, ho, hcal⟩ : ∃ c f, o.op = .call c ∧ c.callee = .value f := by
    cases ho : o.op
    case call c =>
      simp only [cop, ho] at h
      split at h
      · rename_i f hf; exact ⟨c, f, rfl, hf⟩
      all_goals exfalso
      all_goals (repeat' split at h)
      all_goals first | contradiction | (cases h; done)
    all_goals exfalso
    all_goals simp only [cop, ho] at h
    all_goals (repeat' split at h)
    all_goals first | contradiction | (cases h; done) | (simp only [Option.map_eq_some_iff] at h; obtain ⟨_, _, h⟩ := h; cases h; done)
  unfold callX at hc
  split at hc
  · rename_i g first cap args
    obtain ⟨hcl, v, H', hR, hs⟩ := hc
    unfold callable at hcl
    split at hcl
    · rename_i fn hg
      simp only [Bool.and_eq_true, Bool.not_eq_true'] at hcl
      exact ⟨v, H', hR, opSim_call ho hcal hg hcl.1 hcl.2 hs⟩
    · cases hcl
  · rename_i l first cap args
    obtain ⟨h1, h2, v, H', hR, hs⟩ := hc
    have e1 : first = #[] := Array.eq_empty_of_size_eq_zero h1
    have e2 : cap = #[] := Array.eq_empty_of_size_eq_zero h2
    subst e1 e2
    exact ⟨v, H', hR, hs o c f ho hcal⟩
  · exact hc.elim

theorem steps_ops {P : Program} {n : Nat} {ops : Array Oper} : ∀ (l : List Nat) (xl : List XS) (D : List PL) (s : St) (H : AH) (K : St → AH → Prop), l.mapM (cstep P n ops) = some xl → stepsX P xl D s H K → opsW P n ops l s H K
  | [], xl, D, s, H, K, hm, h => by
    simp at hm; subst hm; exact h
  | j :: l, xl, D, s, H, K, hm, h => by
    simp only [List.mapM_cons, Option.bind_eq_bind, Option.bind_eq_some_iff] at hm
    obtain ⟨i, h1, xl', h2, h3⟩ := hm
    cases h3
    unfold cstep at h1
    split at h1
    · rename_i o ho
      split at h1
      · rename_i x g hx hg
        split at h1
        · rename_i hok
          simp only [Bool.and_eq_true] at hok
          cases h1
          refine ⟨o, ho, dstOk_spec hok.1, ?_⟩
          have hw := cguard_want hg s
          unfold stepsX at h
          simp only at h
          have hnd := cop_nd hx
          cases hwx : wantX g s with
          | false =>
            rw [hwx] at h hw
            refine .inl ⟨hw, steps_ops l xl' D _ H K h2 ?_⟩
            simpa using h
          | true =>
            rw [hwx] at h hw
            rw [if_pos rfl] at h
            refine .inr ⟨hw, hok.2, ?_⟩
            split at h
            · obtain ⟨v, q1, q2⟩ := h
              exact ⟨v, H, (xpure_sim hx q1 H).op hnd, steps_ops l xl' D _ _ K h2 q2⟩
            · obtain ⟨sz, v, rfl, q1, q2⟩ := h
              exact ⟨v, H, (xload_sim hx q1).op hnd, steps_ops l xl' _ _ _ K h2 q2⟩
            · obtain ⟨c, e, mk, q1, _, q2⟩ := h
              exact ⟨_, _, (xnew_sim hx q1).run.op hnd, steps_ops l xl' D _ _ K h2 q2⟩
            · obtain ⟨v, H', q1, _, q2⟩ := h
              exact ⟨v, H', (xact_sim hx q1).op hnd, steps_ops l xl' D _ _ K h2 q2⟩
            · rename_i hk
              have hxc : x = .call := by cases x <;> simp [XO.kind] at hk; rfl
              subst hxc
              obtain ⟨v, H', ⟨_, q2⟩, q1⟩ := callX_op hx h
              exact ⟨v, H', q1, steps_ops l xl' D _ _ K h2 q2⟩
        · cases h1
      · cases h1
    · cases h1

end Go.Sim
