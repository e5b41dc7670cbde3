/- The semantic simulation logic, part 21: code that is run, on values that are known. -/
import Derived.Test.YtaepmmdbhikjlaaSimT
namespace Go.Sim
open Go

/-! ### registers: a tree -/
inductive Tr where
  | nil
  | node (v : Value) (l r : Tr)

noncomputable def Tr.get (t : Tr) : Nat → Value :=
  Tr.rec (fun _ => undef) (fun v _ _ gl gr n => Bool.rec (Bool.rec (gr (Nat.sub (Nat.div n 2) 1)) (gl (Nat.div n 2)) (Nat.beq (Nat.mod n 2) 1)) v (Nat.beq n 0)) t
theorem recB {α : Type} (b : Bool) (x y : α) : (Bool.rec x y b : α) = bif b then y else x := by cases b <;> rfl
theorem Tr.get_nil (n : Nat) : Tr.get .nil n = undef := rfl
theorem Tr.get_node (v : Value) (l r : Tr) (n : Nat) : (Tr.node v l r).get n = bif Nat.beq n 0 then v else bif Nat.beq (n % 2) 1 then l.get (n / 2) else r.get (n / 2 - 1) := by
  change (Bool.rec _ _ _ : Value) = _
  rw [recB, recB]; rfl

noncomputable def Tr.setF (f : Nat) : Tr → Nat → Value → Tr :=
  Nat.rec (fun t _ _ => t) (fun _ ih t n v =>
    Tr.rec (Bool.rec (Bool.rec (.node undef .nil (ih .nil (Nat.sub (Nat.div n 2) 1) v)) (.node undef (ih .nil (Nat.div n 2) v) .nil) (Nat.beq (Nat.mod n 2) 1)) (.node v .nil .nil) (Nat.beq n 0))
      (fun u l r _ _ => Bool.rec (Bool.rec (.node u l (ih r (Nat.sub (Nat.div n 2) 1) v)) (.node u (ih l (Nat.div n 2) v) r) (Nat.beq (Nat.mod n 2) 1)) (.node v l r) (Nat.beq n 0)) t) f
theorem Tr.setF_nil (f n : Nat) (v : Value) : Tr.setF (f + 1) .nil n v = bif Nat.beq n 0 then .node v .nil .nil else bif Nat.beq (n % 2) 1 then .node undef (Tr.setF f .nil (n / 2) v) .nil else .node undef .nil (Tr.setF f .nil (n / 2 - 1) v) := by
  change (Bool.rec _ _ _ : Tr) = _
  rw [recB, recB]; rfl
theorem Tr.setF_node (f n : Nat) (v u : Value) (l r : Tr) : Tr.setF (f + 1) (.node u l r) n v = bif Nat.beq n 0 then .node v l r else bif Nat.beq (n % 2) 1 then .node u (Tr.setF f l (n / 2) v) r else .node u l (Tr.setF f r (n / 2 - 1) v) := by
  change (Bool.rec _ _ _ : Tr) = _
  rw [recB, recB]; rfl

theorem beq_iff (a b : Nat) : Nat.beq a b = decide (a = b) := by
  rw [Bool.eq_iff_iff]; simp
theorem Tr.get_set : ∀ (f : Nat) (t : Tr) (n : Nat) (v : Value) (x : Nat), n < f → (Tr.setF f t n v).get x = if x = n then v else t.get x
  | 0, _, _, _, _, h => by omega
  | f + 1, t, n, v, x, h => by
    cases t with
    | nil =>
      rw [setF_nil]
      by_cases h0 : n = 0
      · subst h0
        simp only [beq_iff, decide_true, cond_true, get_node, get_nil]
        by_cases hx : x = 0
        · subst hx; simp
        · simp [hx]
      · by_cases h1 : n % 2 = 1
        · simp only [beq_iff, h0, h1, decide_true, decide_false, cond_true, cond_false, get_node, get_nil]
          rw [get_set f _ _ _ _ (by omega)]
          by_cases hx : x = 0
          · subst hx; simp; omega
          · by_cases hx1 : x % 2 = 1
            · simp only [hx, hx1, decide_true, decide_false, cond_true, cond_false, get_nil]
              by_cases hh : x = n
              · subst hh; simp
              · rw [if_neg (by omega), if_neg hh]
            · simp only [hx, hx1, decide_false, cond_false]
              rw [if_neg (by rintro rfl; exact hx1 h1)]
        · simp only [beq_iff, h0, h1, decide_false, cond_false, get_node, get_nil]
          rw [get_set f _ _ _ _ (by omega)]
          by_cases hx : x = 0
          · subst hx; simp; omega
          · by_cases hx1 : x % 2 = 1
            · simp only [hx, hx1, decide_true, decide_false, cond_true, cond_false]
              rw [if_neg (by rintro rfl; exact h1 hx1)]
            · simp only [hx, hx1, decide_false, cond_false, get_nil]
              by_cases hh : x = n
              · subst hh; simp
              · rw [if_neg (by omega), if_neg hh]
    | node u l r =>
      rw [setF_node]
      by_cases h0 : n = 0
      · subst h0
        simp only [beq_iff, decide_true, cond_true, get_node]
        by_cases hx : x = 0
        · subst hx; simp
        · simp [hx]
      · by_cases h1 : n % 2 = 1
        · simp only [beq_iff, h0, h1, decide_true, decide_false, cond_true, cond_false, get_node]
          rw [get_set f _ _ _ _ (by omega)]
          by_cases hx : x = 0
          · subst hx; simp; omega
          · by_cases hx1 : x % 2 = 1
            · simp only [hx, hx1, decide_true, decide_false, cond_true, cond_false]
              by_cases hh : x = n
              · subst hh; simp
              · rw [if_neg (by omega), if_neg hh]
            · simp only [hx, hx1, decide_false, cond_false]
              rw [if_neg (by rintro rfl; exact hx1 h1)]
        · simp only [beq_iff, h0, h1, decide_false, cond_false, get_node]
          rw [get_set f _ _ _ _ (by omega)]
          by_cases hx : x = 0
          · subst hx; simp; omega
          · by_cases hx1 : x % 2 = 1
            · simp only [hx, hx1, decide_true, decide_false, cond_true, cond_false]
              rw [if_neg (by rintro rfl; exact h1 hx1)]
            · simp only [hx, hx1, decide_false, cond_false]
              by_cases hh : x = n
              · subst hh; simp
              · rw [if_neg (by omega), if_neg hh]

/-! ### numbers that are worked out at once -/
noncomputable def forceN {α : Type} (n : Nat) (K : Nat → α) : α := Nat.rec (K 0) (fun m _ => K (m + 1)) n
theorem forceN_eq {α : Type} (n : Nat) (K : Nat → α) : forceN n K = K n := by cases n <;> rfl
noncomputable def forceI {α : Type} (n : Int) (K : Int → α) : α := Int.rec (fun m => forceN m fun m => K (.ofNat m)) (fun m => forceN m fun m => K (.negSucc m)) n
theorem forceI_eq {α : Type} (n : Int) (K : Int → α) : forceI n K = K n := by
  cases n with
  | ofNat m => exact forceN_eq m fun m => K (.ofNat m)
  | negSucc m => exact forceN_eq m fun m => K (.negSucc m)
noncomputable def forceB {α : Type} (b : Bool) (K : Bool → α) : α := Bool.rec (K false) (K true) b
theorem forceB_eq {α : Type} (b : Bool) (K : Bool → α) : forceB b K = K b := by cases b <;> rfl
noncomputable def forceP {α : Type} (a : Addr) (K : Addr → α) : α := Addr.rec (fun b o s => Option.rec (forceN b fun b => forceN o fun o => K ⟨b, o, none⟩) (fun x => K ⟨b, o, some x⟩) s) a
theorem forceP_eq {α : Type} (a : Addr) (K : Addr → α) : forceP a K = K a := by
  obtain ⟨b, o, s⟩ := a
  cases s with
  | none =>
    change forceN b (fun b => forceN o fun o => K ⟨b, o, none⟩) = _
    simp only [forceN_eq]
  | some x => rfl
noncomputable def forceA {α : Type} (a : Option Addr) (K : Option Addr → α) : α := Option.rec (K none) (fun a => forceP a fun a => K (some a)) a
theorem forceA_eq {α : Type} (a : Option Addr) (K : Option Addr → α) : forceA a K = K a := by
  cases a with
  | none => rfl
  | some a => exact forceP_eq a fun a => K (some a)
noncomputable def forceVf {α : Type} (v : Value) : Value → (Value → α) → α :=
  Value.casesOn (motive_1 := fun _ => Value → (Value → α) → α) v (fun b _ K => forceB b fun b => K (.bool b)) (fun k n _ K => forceI n fun n => K (.int k n)) (fun _ _ v K => K v) (fun _ _ _ v K => K v) (fun _ v K => K v) (fun a _ K => forceA a fun a => K (.pointer a))
    (fun a l c _ K => forceA a fun a => forceN l fun l => forceN c fun c => K (.slice a l c)) (fun _ v K => K v) (fun _ v K => K v) (fun _ _ _ v K => K v) (fun v K => K v) (fun _ _ v K => K v) (fun v K => K v) (fun _ v K => K v) (fun _ v K => K v)
noncomputable def forceV {α : Type} (v : Value) (K : Value → α) : α := forceVf v v K
theorem forceV_eq {α : Type} (v : Value) (K : Value → α) : forceV v K = K v := by
  cases v with
  | bool b => exact forceB_eq b fun b => K (.bool b)
  | int k n => exact forceI_eq n fun n => K (.int k n)
  | pointer a => exact forceA_eq a fun a => K (.pointer a)
  | slice a l c =>
    change forceA a (fun a => forceN l fun l => forceN c fun c => K (.slice a l c)) = _
    simp only [forceA_eq, forceN_eq]
  | _ => rfl

/-! ### lists -/
noncomputable def nth {α : Type} (l : List α) (n : Nat) : Option α := Nat.rec (motive := fun _ => List α → Option α) (fun l => List.rec none (fun a _ _ => some a) l) (fun _ ih l => List.rec none (fun _ t _ => ih t) l) n l
theorem nth_eq {α : Type} (n : Nat) : ∀ (l : List α), nth l n = l[n]? := by
  induction n with
  | zero => intro l; cases l <;> rfl
  | succ n ih => intro l; cases l with
    | nil => rfl
    | cons a l => exact (ih l).trans (by simp)
noncomputable def setN {α : Type} (l : List α) (n : Nat) (v : α) : List α := Nat.rec (motive := fun _ => List α → List α) (fun l => List.rec [] (fun _ t _ => v :: t) l) (fun _ ih l => List.rec [] (fun a t _ => a :: ih t) l) n l
theorem setN_eq {α : Type} (v : α) (n : Nat) : ∀ (l : List α), setN l n v = l.set n v := by
  induction n with
  | zero => intro l; cases l <;> rfl
  | succ n ih => intro l; cases l with
    | nil => rfl
    | cons a l => exact congrArg (a :: ·) (ih l)
noncomputable def lenN {α : Type} (l : List α) : Nat := List.rec 0 (fun _ _ ih => Nat.succ ih) l
theorem lenN_eq {α : Type} (l : List α) : lenN l = l.length := by
  induction l with
  | nil => rfl
  | cons a l ih => exact congrArg Nat.succ ih

/-! ### the operations that are met most, fast -/
noncomputable def withIf {α : Type} (v : Value) : α → (Nat → α) → α :=
  Value.casesOn (motive_1 := fun _ => α → (Nat → α) → α) v (fun _ d _ => d) (fun k n => IntKind.rec (fun _ d _ => d) (fun _ d _ => d) (fun _ d _ => d) (fun n => Int.rec (fun m _ K => K m) (fun _ d _ => d) n) (fun _ d _ => d) (fun _ d _ => d) (fun _ d _ => d) (fun _ d _ => d) k n) (fun _ _ d _ => d) (fun _ _ _ d _ => d) (fun _ d _ => d) (fun _ d _ => d) (fun _ _ _ d _ => d) (fun _ d _ => d) (fun _ d _ => d) (fun _ _ _ d _ => d) (fun d _ => d) (fun _ _ d _ => d) (fun d _ => d) (fun _ d _ => d) (fun _ d _ => d)
noncomputable def withI {α : Type} (d : α) (v : Value) (K : Nat → α) : α := withIf v d K
theorem withI_eq {α : Type} {d : α} {v : Value} {K : Nat → α} : (∃ m, v = nv m ∧ withI d v K = K m) ∨ withI d v K = d := by
  cases v with
  | int k n =>
    cases k <;> first | exact .inr rfl | skip
    cases n with
    | ofNat m => exact .inl ⟨m, rfl, rfl⟩
    | negSucc m => exact .inr rfl
  | _ => exact .inr rfl

noncomputable def resN (n : Nat) (d : Option Value) : Option Value := Bool.rec d (some (.int .i64 (.ofNat n))) (Nat.blt n 9223372036854775808)
theorem resN_eq {n : Nat} {d : Option Value} : (n < 9223372036854775808 ∧ resN n d = some (nv n)) ∨ resN n d = d := by
  unfold resN
  cases h : Nat.blt n 9223372036854775808 with
  | false => exact .inr rfl
  | true => exact .inl ⟨by simpa using h, rfl⟩
noncomputable def qNf (op : BinOp) : Nat → Nat → Option Value → Option Value :=
  BinOp.rec (fun a b d => resN (Nat.add a b) d) (fun a b d => Bool.rec d (resN (Nat.sub a b) d) (Nat.ble b a)) (fun a b d => resN (Nat.mul a b) d) (fun a b d => Bool.rec (Bool.rec d (resN (Nat.div a b) d) (Nat.blt a 9223372036854775808)) d (Nat.beq b 0)) (fun a b d => Bool.rec (some (.int .i64 (.ofNat (Nat.mod a b)))) d (Nat.beq b 0))
    (fun _ _ d => d) (fun _ _ d => d) (fun _ _ d => d) (fun _ _ d => d) (fun _ _ d => d) (fun _ _ d => d)
    (fun a b _ => some (.bool (Nat.beq a b))) (fun a b _ => some (.bool (Bool.rec true false (Nat.beq a b)))) (fun a b _ => some (.bool (Nat.blt a b))) (fun a b _ => some (.bool (Nat.ble a b))) (fun a b _ => some (.bool (Nat.blt b a))) (fun a b _ => some (.bool (Nat.ble b a))) op
noncomputable def qN (op : BinOp) (a b : Nat) (d : Option Value) : Option Value := qNf op a b d
theorem blt_iff (a b : Nat) : Nat.blt a b = decide (a < b) := by rw [Bool.eq_iff_iff]; simp
theorem ble_iff (a b : Nat) : Nat.ble a b = decide (a ≤ b) := by rw [Bool.eq_iff_iff]; simp
theorem qN_eq {op : BinOp} {a b m : Nat} {v : Value} (h : qN op a b (xbin op m (nv a) (nv b)) = some v) : xbin op m (nv a) (nv b) = some v := by
  cases op
  case add =>
    change resN (a + b) _ = _ at h
    rcases resN_eq (n := a + b) (d := xbin .add m (nv a) (nv b)) with ⟨h1, h2⟩ | h2 <;> rw [h2] at h
    · rw [xbin_addN h1]; exact h
    · exact h
  case sub =>
    change (Bool.rec _ (resN (a - b) _) (Nat.ble b a) : Option Value) = _ at h
    cases hb : Nat.ble b a with
    | false => rw [hb] at h; exact h
    | true =>
      rw [hb] at h
      change resN (a - b) _ = _ at h
      have hle : b ≤ a := by simpa using hb
      rcases resN_eq (n := a - b) (d := xbin .sub m (nv a) (nv b)) with ⟨h1, h2⟩ | h2 <;> rw [h2] at h
      · have e : xbin .sub m (nv a) (nv b) = some (nv (a - b)) := by
          rw [xbin_sub, wrap64 (by omega) (by omega)]; congr 2; omega
        rw [e]; exact h
      · exact h
  case mul =>
    change resN (a * b) _ = _ at h
    rcases resN_eq (n := a * b) (d := xbin .mul m (nv a) (nv b)) with ⟨h1, h2⟩ | h2 <;> rw [h2] at h
    · rw [xbin_mulN h1]; exact h
    · exact h
  case quo =>
    change (Bool.rec (Bool.rec _ (resN (a / b) _) (Nat.blt a _)) _ (Nat.beq b 0) : Option Value) = _ at h
    cases hb : Nat.beq b 0 with
    | true => rw [hb] at h; exact h
    | false =>
      rw [hb] at h
      have hb0 : b ≠ 0 := by rw [beq_iff] at hb; simpa using hb
      change (Bool.rec _ (resN (a / b) _) (Nat.blt a _) : Option Value) = _ at h
      cases ha : Nat.blt a 9223372036854775808 with
      | false => rw [ha] at h; exact h
      | true =>
        rw [ha] at h
        change resN (a / b) _ = _ at h
        have ha0 : a < 9223372036854775808 := by simpa using ha
        rcases resN_eq (n := a / b) (d := xbin .quo m (nv a) (nv b)) with ⟨h1, h2⟩ | h2 <;> rw [h2] at h
        · rw [xbin_quoN hb0 ha0]; exact h
        · exact h
  case rem =>
    change (Bool.rec (some (nv (a % b))) _ (Nat.beq b 0) : Option Value) = _ at h
    cases hb : Nat.beq b 0 with
    | true => rw [hb] at h; exact h
    | false =>
      rw [hb] at h
      have hb0 : b ≠ 0 := by rw [beq_iff] at hb; simpa using hb
      rw [xbin_remN hb0]; exact h
  case eql =>
    change some (Value.bool (Nat.beq a b)) = _ at h
    rw [xbin_eqlN, ← beq_iff]; exact h
  case neq =>
    change some (Value.bool (Bool.rec true false (Nat.beq a b))) = _ at h
    rw [recB, beq_iff] at h
    rw [xbin_neqN, ← h]
    by_cases e : a = b <;> simp [e]
  case lss =>
    change some (Value.bool (Nat.blt a b)) = _ at h
    rw [xbin_lssN, ← blt_iff]; exact h
  case leq =>
    change some (Value.bool (Nat.ble a b)) = _ at h
    rw [xbin_leqN, ← ble_iff]; exact h
  case gtr =>
    change some (Value.bool (Nat.blt b a)) = _ at h
    rw [xbin_gtrN, ← blt_iff]; exact h
  case geq =>
    change some (Value.bool (Nat.ble b a)) = _ at h
    rw [xbin_geqN, ← ble_iff]; exact h
  all_goals exact h

end Go.Sim
