/- Part of the proof: SimU, SimU2, SimV, SimW, SimQ2, SimY, SimZ. -/
import Derived.Test.YtgcoidbhikfdkaaSSimLToSimT
set_option linter.all false
namespace Go.Sim
open Go
inductive Tr where
  | nil
  | node (v : Value) (l r : Tr)
noncomputable def Tr.get (t : Tr) : Nat → Value :=
  Tr.rec (fun _ => undef) (fun v _ _ gl gr n => Bool.rec (Bool.rec (gr (Nat.sub (Nat.div n 2) 1)) (gl (Nat.div n 2)) (Nat.beq (Nat.mod n 2) 1)) v (Nat.beq n 0)) t
theorem recB {α : Type} (b : Bool) (x y : α) : (Bool.rec x y b : α) = bif b then y else x := by cases b <;> rfl
theorem Tr.get_nil (n : Nat) : Tr.get .nil n = undef := rfl
theorem Tr.get_node (v : Value) (l r : Tr) (n : Nat) : (Tr.node v l r).get n = bif Nat.beq n 0 then v else bif Nat.beq (n % 2) 1 then l.get (n / 2) else r.get (n / 2 - 1) := by
  change (Bool.rec _ _ _ : Value) = _
  rw [recB, recB]; rfl
noncomputable def Tr.setF (f : Nat) : Tr → Nat → Value → Tr :=
  Nat.rec (fun t _ _ => t) (fun _ ih t n v =>
    Tr.rec (Bool.rec (Bool.rec (.node undef .nil (ih .nil (Nat.sub (Nat.div n 2) 1) v)) (.node undef (ih .nil (Nat.div n 2) v) .nil) (Nat.beq (Nat.mod n 2) 1)) (.node v .nil .nil) (Nat.beq n 0))
      (fun u l r _ _ => Bool.rec (Bool.rec (.node u l (ih r (Nat.sub (Nat.div n 2) 1) v)) (.node u (ih l (Nat.div n 2) v) r) (Nat.beq (Nat.mod n 2) 1)) (.node v l r) (Nat.beq n 0)) t) f
theorem Tr.setF_nil (f n : Nat) (v : Value) : Tr.setF (f + 1) .nil n v = bif Nat.beq n 0 then .node v .nil .nil else bif Nat.beq (n % 2) 1 then .node undef (Tr.setF f .nil (n / 2) v) .nil else .node undef .nil (Tr.setF f .nil (n / 2 - 1) v) := by
  change (Bool.rec _ _ _ : Tr) = _
  rw [recB, recB]; rfl
theorem Tr.setF_node (f n : Nat) (v u : Value) (l r : Tr) : Tr.setF (f + 1) (.node u l r) n v = bif Nat.beq n 0 then .node v l r else bif Nat.beq (n % 2) 1 then .node u (Tr.setF f l (n / 2) v) r else .node u l (Tr.setF f r (n / 2 - 1) v) := by
  change (Bool.rec _ _ _ : Tr) = _
  rw [recB, recB]; rfl
theorem beq_iff (a b : Nat) : Nat.beq a b = decide (a = b) := by
  rw [Bool.eq_iff_iff]; simp
theorem Tr.get_set : ∀ (f : Nat) (t : Tr) (n : Nat) (v : Value) (x : Nat), n < f → (Tr.setF f t n v).get x = if x = n then v else t.get x
  | 0, _, _, _, _, h => by omega
  | f + 1, t, n, v, x, h => by
    cases t with
    | nil =>
      rw [setF_nil]
      by_cases h0 : n = 0
      · subst h0
        simp only [beq_iff, decide_true, cond_true, get_node, get_nil]
        by_cases hx : x = 0
        · subst hx; simp
        · simp [hx]
      · by_cases h1 : n % 2 = 1
        · simp only [beq_iff, h0, h1, decide_true, decide_false, cond_true, cond_false, get_node, get_nil]
          rw [get_set f _ _ _ _ (by omega)]
          by_cases hx : x = 0
          · subst hx; simp; omega
          · by_cases hx1 : x % 2 = 1
            · simp only [hx, hx1, decide_true, decide_false, cond_true, cond_false, get_nil]
              by_cases hh : x = n
              · subst hh; simp
              · rw [if_neg (by omega), if_neg hh]
            · simp only [hx, hx1, decide_false, cond_false]
              rw [if_neg (by rintro rfl; exact hx1 h1)]
        · simp only [beq_iff, h0, h1, decide_false, cond_false, get_node, get_nil]
          rw [get_set f _ _ _ _ (by omega)]
          by_cases hx : x = 0
          · subst hx; simp; omega
          · by_cases hx1 : x % 2 = 1
            · simp only [hx, hx1, decide_true, decide_false, cond_true, cond_false]
              rw [if_neg (by rintro rfl; exact h1 hx1)]
            · simp only [hx, hx1, decide_false, cond_false, get_nil]
              by_cases hh : x = n
              · subst hh; simp
              · rw [if_neg (by omega), if_neg hh]
    | node u l r =>
      rw [setF_node]
      by_cases h0 : n = 0
      · subst h0
        simp only [beq_iff, decide_true, cond_true, get_node]
        by_cases hx : x = 0
        · subst hx; simp
        · simp [hx]
      · by_cases h1 : n % 2 = 1
        · simp only [beq_iff, h0, h1, decide_true, decide_false, cond_true, cond_false, get_node]
          rw [get_set f _ _ _ _ (by omega)]
          by_cases hx : x = 0
          · subst hx; simp; omega
          · by_cases hx1 : x % 2 = 1
            · simp only [hx, hx1, decide_true, decide_false, cond_true, cond_false]
              by_cases hh : x = n
              · subst hh; simp
              · rw [if_neg (by omega), if_neg hh]
            · simp only [hx, hx1, decide_false, cond_false]
              rw [if_neg (by rintro rfl; exact hx1 h1)]
        · simp only [beq_iff, h0, h1, decide_false, cond_false, get_node]
          rw [get_set f _ _ _ _ (by omega)]
          by_cases hx : x = 0
          · subst hx; simp; omega
          · by_cases hx1 : x % 2 = 1
            · simp only [hx, hx1, decide_true, decide_false, cond_true, cond_false]
              rw [if_neg (by rintro rfl; exact h1 hx1)]
            · simp only [hx, hx1, decide_false, cond_false]
              by_cases hh : x = n
              · subst hh; simp
              · rw [if_neg (by omega), if_neg hh]
noncomputable def forceN {α : Type} (n : Nat) (K : Nat → α) : α := Nat.rec (K 0) (fun m _ => K (m + 1)) n
theorem forceN_eq {α : Type} (n : Nat) (K : Nat → α) : forceN n K = K n := by cases n <;> rfl
noncomputable def forceI {α : Type} (n : Int) (K : Int → α) : α := Int.rec (fun m => forceN m fun m => K (.ofNat m)) (fun m => forceN m fun m => K (.negSucc m)) n
theorem forceI_eq {α : Type} (n : Int) (K : Int → α) : forceI n K = K n := by
  cases n with
  | ofNat m => exact forceN_eq m fun m => K (.ofNat m)
  | negSucc m => exact forceN_eq m fun m => K (.negSucc m)
noncomputable def forceB {α : Type} (b : Bool) (K : Bool → α) : α := Bool.rec (K false) (K true) b
theorem forceB_eq {α : Type} (b : Bool) (K : Bool → α) : forceB b K = K b := by cases b <;> rfl
noncomputable def forceP {α : Type} (a : Addr) (K : Addr → α) : α := Addr.rec (fun b o s => Option.rec (forceN b fun b => forceN o fun o => K ⟨b, o, none⟩) (fun x => K ⟨b, o, some x⟩) s) a
theorem forceP_eq {α : Type} (a : Addr) (K : Addr → α) : forceP a K = K a := by
  obtain ⟨b, o, s⟩ := a
  cases s with
  | none =>
    change forceN b (fun b => forceN o fun o => K ⟨b, o, none⟩) = _
    simp only [forceN_eq]
  | some x => rfl
noncomputable def forceA {α : Type} (a : Option Addr) (K : Option Addr → α) : α := Option.rec (K none) (fun a => forceP a fun a => K (some a)) a
theorem forceA_eq {α : Type} (a : Option Addr) (K : Option Addr → α) : forceA a K = K a := by
  cases a with
  | none => rfl
  | some a => exact forceP_eq a fun a => K (some a)
noncomputable def forceVf {α : Type} (v : Value) : Value → (Value → α) → α :=
  Value.casesOn (motive_1 := fun _ => Value → (Value → α) → α) v (fun b _ K => forceB b fun b => K (.bool b)) (fun k n _ K => forceI n fun n => K (.int k n)) (fun _ _ v K => K v) (fun _ _ _ v K => K v) (fun _ v K => K v) (fun a _ K => forceA a fun a => K (.pointer a))
    (fun a l c _ K => forceA a fun a => forceN l fun l => forceN c fun c => K (.slice a l c)) (fun _ v K => K v) (fun _ v K => K v) (fun _ _ _ v K => K v) (fun v K => K v) (fun _ _ v K => K v) (fun v K => K v) (fun _ v K => K v) (fun _ v K => K v)
noncomputable def forceV {α : Type} (v : Value) (K : Value → α) : α := forceVf v v K
theorem forceV_eq {α : Type} (v : Value) (K : Value → α) : forceV v K = K v := by
  cases v with
  | bool b => exact forceB_eq b fun b => K (.bool b)
  | int k n => exact forceI_eq n fun n => K (.int k n)
  | pointer a => exact forceA_eq a fun a => K (.pointer a)
  | slice a l c =>
    change forceA a (fun a => forceN l fun l => forceN c fun c => K (.slice a l c)) = _
    simp only [forceA_eq, forceN_eq]
  | _ => rfl
noncomputable def nth {α : Type} (l : List α) (n : Nat) : Option α := Nat.rec (motive := fun _ => List α → Option α) (fun l => List.rec none (fun a _ _ => some a) l) (fun _ ih l => List.rec none (fun _ t _ => ih t) l) n l
theorem nth_eq {α : Type} (n : Nat) : ∀ (l : List α), nth l n = l[n]? := by
  induction n with
  | zero => intro l; cases l <;> rfl
  | succ n ih => intro l; cases l with
    | nil => rfl
    | cons a l => exact (ih l).trans (by simp)
noncomputable def setN {α : Type} (l : List α) (n : Nat) (v : α) : List α := Nat.rec (motive := fun _ => List α → List α) (fun l => List.rec [] (fun _ t _ => v :: t) l) (fun _ ih l => List.rec [] (fun a t _ => a :: ih t) l) n l
theorem setN_eq {α : Type} (v : α) (n : Nat) : ∀ (l : List α), setN l n v = l.set n v := by
  induction n with
  | zero => intro l; cases l <;> rfl
  | succ n ih => intro l; cases l with
    | nil => rfl
    | cons a l => exact congrArg (a :: ·) (ih l)
noncomputable def lenN {α : Type} (l : List α) : Nat := List.rec 0 (fun _ _ ih => Nat.succ ih) l
theorem lenN_eq {α : Type} (l : List α) : lenN l = l.length := by
  induction l with
  | nil => rfl
  | cons a l ih => exact congrArg Nat.succ ih
noncomputable def withIf {α : Type} (v : Value) : α → (Nat → α) → α :=
  Value.casesOn (motive_1 := fun _ => α → (Nat → α) → α) v (fun _ d _ => d) (fun k n => IntKind.rec (fun _ d _ => d) (fun _ d _ => d) (fun _ d _ => d) (fun n => Int.rec (fun m _ K => K m) (fun _ d _ => d) n) (fun _ d _ => d) (fun _ d _ => d) (fun _ d _ => d) (fun _ d _ => d) k n) (fun _ _ d _ => d) (fun _ _ _ d _ => d) (fun _ d _ => d) (fun _ d _ => d) (fun _ _ _ d _ => d) (fun _ d _ => d) (fun _ d _ => d) (fun _ _ _ d _ => d) (fun d _ => d) (fun _ _ d _ => d) (fun d _ => d) (fun _ d _ => d) (fun _ d _ => d)
noncomputable def withI {α : Type} (d : α) (v : Value) (K : Nat → α) : α := withIf v d K
theorem withI_eq {α : Type} {d : α} {v : Value} {K : Nat → α} : (∃ m, v = nv m ∧ withI d v K = K m) ∨ withI d v K = d := by
  cases v with
  | int k n =>
    cases k <;> first | exact .inr rfl | skip
    cases n with
    | ofNat m => exact .inl ⟨m, rfl, rfl⟩
    | negSucc m => exact .inr rfl
  | _ => exact .inr rfl
noncomputable def resN (n : Nat) (d : Option Value) : Option Value := Bool.rec d (some (.int .i64 (.ofNat n))) (Nat.blt n 9223372036854775808)
theorem resN_eq {n : Nat} {d : Option Value} : (n < 9223372036854775808 ∧ resN n d = some (nv n)) ∨ resN n d = d := by
  unfold resN
  cases h : Nat.blt n 9223372036854775808 with
  | false => exact .inr rfl
  | true => exact .inl ⟨by simpa using h, rfl⟩
noncomputable def qNf (op : BinOp) : Nat → Nat → Option Value → Option Value :=
  BinOp.rec (fun a b d => resN (Nat.add a b) d) (fun a b d => Bool.rec d (resN (Nat.sub a b) d) (Nat.ble b a)) (fun a b d => resN (Nat.mul a b) d) (fun a b d => Bool.rec (Bool.rec d (resN (Nat.div a b) d) (Nat.blt a 9223372036854775808)) d (Nat.beq b 0)) (fun a b d => Bool.rec (some (.int .i64 (.ofNat (Nat.mod a b)))) d (Nat.beq b 0))
    (fun _ _ d => d) (fun _ _ d => d) (fun _ _ d => d) (fun _ _ d => d) (fun _ _ d => d) (fun _ _ d => d)
    (fun a b _ => some (.bool (Nat.beq a b))) (fun a b _ => some (.bool (Bool.rec true false (Nat.beq a b)))) (fun a b _ => some (.bool (Nat.blt a b))) (fun a b _ => some (.bool (Nat.ble a b))) (fun a b _ => some (.bool (Nat.blt b a))) (fun a b _ => some (.bool (Nat.ble b a))) op
noncomputable def qN (op : BinOp) (a b : Nat) (d : Option Value) : Option Value := qNf op a b d
theorem blt_iff (a b : Nat) : Nat.blt a b = decide (a < b) := by rw [Bool.eq_iff_iff]; simp
theorem ble_iff (a b : Nat) : Nat.ble a b = decide (a ≤ b) := by rw [Bool.eq_iff_iff]; simp
theorem qN_eq {op : BinOp} {a b m : Nat} {v : Value} (h : qN op a b (xbin op m (nv a) (nv b)) = some v) : xbin op m (nv a) (nv b) = some v := by
  cases op
  case add =>
    change resN (a + b) _ = _ at h
    rcases resN_eq (n := a + b) (d := xbin .add m (nv a) (nv b)) with ⟨h1, h2⟩ | h2 <;> rw [h2] at h
    · rw [xbin_addN h1]; exact h
    · exact h
  case sub =>
    change (Bool.rec _ (resN (a - b) _) (Nat.ble b a) : Option Value) = _ at h
    cases hb : Nat.ble b a with
    | false => rw [hb] at h; exact h
    | true =>
      rw [hb] at h
      change resN (a - b) _ = _ at h
      have hle : b ≤ a := by simpa using hb
      rcases resN_eq (n := a - b) (d := xbin .sub m (nv a) (nv b)) with ⟨h1, h2⟩ | h2 <;> rw [h2] at h
      · have e : xbin .sub m (nv a) (nv b) = some (nv (a - b)) := by
          rw [xbin_sub, wrap64 (by omega) (by omega)]; congr 2; omega
        rw [e]; exact h
      · exact h
  case mul =>
    change resN (a * b) _ = _ at h
    rcases resN_eq (n := a * b) (d := xbin .mul m (nv a) (nv b)) with ⟨h1, h2⟩ | h2 <;> rw [h2] at h
    · rw [xbin_mulN h1]; exact h
    · exact h
  case quo =>
    change (Bool.rec (Bool.rec _ (resN (a / b) _) (Nat.blt a _)) _ (Nat.beq b 0) : Option Value) = _ at h
    cases hb : Nat.beq b 0 with
    | true => rw [hb] at h; exact h
    | false =>
      rw [hb] at h
      have hb0 : b ≠ 0 := by rw [beq_iff] at hb; simpa using hb
      change (Bool.rec _ (resN (a / b) _) (Nat.blt a _) : Option Value) = _ at h
      cases ha : Nat.blt a 9223372036854775808 with
      | false => rw [ha] at h; exact h
      | true =>
        rw [ha] at h
        change resN (a / b) _ = _ at h
        have ha0 : a < 9223372036854775808 := by simpa using ha
        rcases resN_eq (n := a / b) (d := xbin .quo m (nv a) (nv b)) with ⟨h1, h2⟩ | h2 <;> rw [h2] at h
        · rw [xbin_quoN hb0 ha0]; exact h
        · exact h
  case rem =>
    change (Bool.rec (some (nv (a % b))) _ (Nat.beq b 0) : Option Value) = _ at h
    cases hb : Nat.beq b 0 with
    | true => rw [hb] at h; exact h
    | false =>
      rw [hb] at h
      have hb0 : b ≠ 0 := by rw [beq_iff] at hb; simpa using hb
      rw [xbin_remN hb0]; exact h
  case eql =>
    change some (Value.bool (Nat.beq a b)) = _ at h
    rw [xbin_eqlN, ← beq_iff]; exact h
  case neq =>
    change some (Value.bool (Bool.rec true false (Nat.beq a b))) = _ at h
    rw [recB, beq_iff] at h
    rw [xbin_neqN, ← h]
    by_cases e : a = b <;> simp [e]
  case lss =>
    change some (Value.bool (Nat.blt a b)) = _ at h
    rw [xbin_lssN, ← blt_iff]; exact h
  case leq =>
    change some (Value.bool (Nat.ble a b)) = _ at h
    rw [xbin_leqN, ← ble_iff]; exact h
  case gtr =>
    change some (Value.bool (Nat.blt b a)) = _ at h
    rw [xbin_gtrN, ← blt_iff]; exact h
  case geq =>
    change some (Value.bool (Nat.ble b a)) = _ at h
    rw [xbin_geqN, ← ble_iff]; exact h
  all_goals exact h
end Go.Sim

namespace Go.Sim
open Go
noncomputable def withBf {α : Type} (v : Value) : α → (Bool → α) → α :=
  Value.casesOn (motive_1 := fun _ => α → (Bool → α) → α) v (fun b _ K => K b) (fun _ _ d _ => d) (fun _ _ d _ => d) (fun _ _ _ d _ => d) (fun _ d _ => d) (fun _ d _ => d) (fun _ _ _ d _ => d) (fun _ d _ => d) (fun _ d _ => d) (fun _ _ _ d _ => d) (fun d _ => d) (fun _ _ d _ => d) (fun d _ => d) (fun _ d _ => d) (fun _ d _ => d)
noncomputable def withB {α : Type} (d : α) (v : Value) (K : Bool → α) : α := withBf v d K
theorem withB_eq {α : Type} {d : α} {v : Value} {K : Bool → α} : (∃ b, v = .bool b ∧ withB d v K = K b) ∨ withB d v K = d := by
  cases v with
  | bool b => exact .inl ⟨b, rfl, rfl⟩
  | _ => exact .inr rfl
noncomputable def withA {α : Type} (d : α) (a : Option Addr) (K : Nat → Nat → α) : α := Option.rec d (fun a => Addr.rec (fun b o s => Option.rec (K b o) (fun _ => d) s) a) a
theorem withA_eq {α : Type} {d : α} {a : Option Addr} {K : Nat → Nat → α} : (∃ b o, a = some ⟨b, o, none⟩ ∧ withA d a K = K b o) ∨ withA d a K = d := by
  cases a with
  | none => exact .inr rfl
  | some a =>
    obtain ⟨b, o, s⟩ := a
    cases s with
    | none => exact .inl ⟨b, o, rfl, rfl⟩
    | some s => exact .inr rfl
noncomputable def withPf {α : Type} (v : Value) : α → (Nat → Nat → α) → α :=
  Value.casesOn (motive_1 := fun _ => α → (Nat → Nat → α) → α) v (fun _ d _ => d) (fun _ _ d _ => d) (fun _ _ d _ => d) (fun _ _ _ d _ => d) (fun _ d _ => d) (fun a d K => withA d a K) (fun _ _ _ d _ => d) (fun _ d _ => d) (fun _ d _ => d) (fun _ _ _ d _ => d) (fun d _ => d) (fun _ _ d _ => d) (fun d _ => d) (fun _ d _ => d) (fun _ d _ => d)
noncomputable def withP {α : Type} (d : α) (v : Value) (K : Nat → Nat → α) : α := withPf v d K
theorem withP_eq {α : Type} {d : α} {v : Value} {K : Nat → Nat → α} : (∃ b o, v = .pointer (some ⟨b, o, none⟩) ∧ withP d v K = K b o) ∨ withP d v K = d := by
  cases v with
  | pointer a =>
    rcases withA_eq (d := d) (a := a) (K := K) with ⟨b, o, h, h2⟩ | h
    · exact .inl ⟨b, o, by rw [h], h2⟩
    · exact .inr h
  | _ => exact .inr rfl
noncomputable def withSf {α : Type} (v : Value) : α → (Nat → Nat → Nat → Nat → α) → α :=
  Value.casesOn (motive_1 := fun _ => α → (Nat → Nat → Nat → Nat → α) → α) v (fun _ d _ => d) (fun _ _ d _ => d) (fun _ _ d _ => d) (fun _ _ _ d _ => d) (fun _ d _ => d) (fun _ d _ => d) (fun a l c d K => withA d a fun b o => K b o l c) (fun _ d _ => d) (fun _ d _ => d) (fun _ _ _ d _ => d) (fun d _ => d) (fun _ _ d _ => d) (fun d _ => d) (fun _ d _ => d) (fun _ d _ => d)
noncomputable def withS {α : Type} (d : α) (v : Value) (K : Nat → Nat → Nat → Nat → α) : α := withSf v d K
theorem withS_eq {α : Type} {d : α} {v : Value} {K : Nat → Nat → Nat → Nat → α} : (∃ b o l c, v = .slice (some ⟨b, o, none⟩) l c ∧ withS d v K = K b o l c) ∨ withS d v K = d := by
  cases v with
  | slice a l c =>
    rcases withA_eq (d := d) (a := a) (K := fun b o => K b o l c) with ⟨b, o, h, h2⟩ | h
    · exact .inl ⟨b, o, l, c, by rw [h], h2⟩
    · exact .inr h
  | _ => exact .inr rfl
noncomputable def one1 {α : Type} (d : α) (vs : List Value) (K : Value → α) : α := List.rec d (fun a t _ => List.rec (K a) (fun _ _ _ => d) t) vs
theorem one1_eq {α : Type} {d : α} {vs : List Value} {K : Value → α} : (∃ a, vs = [a] ∧ one1 d vs K = K a) ∨ one1 d vs K = d := by
  rcases vs with _ | ⟨a, _ | ⟨b, t⟩⟩
  · exact .inr rfl
  · exact .inl ⟨a, rfl, rfl⟩
  · exact .inr rfl
noncomputable def two2 {α : Type} (d : α) (vs : List Value) (K : Value → Value → α) : α := List.rec d (fun a t _ => List.rec d (fun b t _ => List.rec (K a b) (fun _ _ _ => d) t) t) vs
theorem two2_eq {α : Type} {d : α} {vs : List Value} {K : Value → Value → α} : (∃ a b, vs = [a, b] ∧ two2 d vs K = K a b) ∨ two2 d vs K = d := by
  rcases vs with _ | ⟨a, _ | ⟨b, _ | ⟨c, t⟩⟩⟩
  · exact .inr rfl
  · exact .inr rfl
  · exact .inl ⟨a, b, rfl, rfl⟩
  · exact .inr rfl
noncomputable def three3 {α : Type} (d : α) (vs : List Value) (K : Value → Value → Value → α) : α := List.rec d (fun a t _ => List.rec d (fun b t _ => List.rec d (fun c t _ => List.rec (K a b c) (fun _ _ _ => d) t) t) t) vs
theorem three3_eq {α : Type} {d : α} {vs : List Value} {K : Value → Value → Value → α} : (∃ a b c, vs = [a, b, c] ∧ three3 d vs K = K a b c) ∨ three3 d vs K = d := by
  rcases vs with _ | ⟨a, _ | ⟨b, _ | ⟨c, _ | ⟨e, t⟩⟩⟩⟩
  · exact .inr rfl
  · exact .inr rfl
  · exact .inr rfl
  · exact .inl ⟨a, b, c, rfl, rfl⟩
  · exact .inr rfl
noncomputable def qMov (vs : List Value) : Option Value := one1 none vs some
noncomputable def qPick (d : Option Value) (vs : List Value) : Option Value := three3 d vs fun c a b => withB d c fun t => Bool.rec (some b) (some a) t
noncomputable def qBin (op : BinOp) (m : Nat) (vs : List Value) : Option Value := two2 none vs fun a b => withI (xbin op m a b) a fun i => withI (xbin op m a b) b fun j => qN op i j (xbin op m a b)
noncomputable def qFld (off : Nat) (d : Option Value) (vs : List Value) : Option Value := one1 d vs fun p => withP d p fun b o => some (.pointer (some ⟨b, Nat.add o off, none⟩))
noncomputable def qIxA (len sz : Nat) (d : Option Value) (vs : List Value) : Option Value := two2 d vs fun p i => withP d p fun b o => withI d i fun n => Bool.rec d (some (.pointer (some ⟨b, Nat.add o (Nat.mul n sz), none⟩))) (Nat.blt n len)
noncomputable def qIxS (sz : Nat) (d : Option Value) (vs : List Value) : Option Value := two2 d vs fun p i => withS d p fun b o l _ => withI d i fun n => Bool.rec d (some (.pointer (some ⟨b, Nat.add o (Nat.mul n sz), none⟩))) (Nat.blt n l)
noncomputable def qLenS (d : Option Value) (vs : List Value) : Option Value := one1 d vs fun p => withS d p fun _ _ l _ => some (.int .i64 (.ofNat l))
noncomputable def qLenA (n : Nat) (vs : List Value) : Option Value := one1 none vs fun _ => some (.int .i64 (.ofNat n))
noncomputable def qpuref (x : XO) : Option Value → List Value → Option Value :=
  XO.casesOn (motive := fun _ => Option Value → List Value → Option Value) x (fun _ vs => qMov vs) qPick (fun op m _ vs => qBin op m vs) (fun _ d _ => d) (fun _ d _ => d) (fun _ d _ => d) (fun _ _ _ => none) (fun _ _ _ _ => none) (fun _ _ _ => none) (fun _ _ _ => none)
    qFld qIxA qIxS (fun _ _ _ _ d _ => d) (fun _ _ _ d _ => d) (fun _ _ _ _ _ _ => none) (fun _ _ _ _ _ _ => none) (fun _ _ _ d _ => d)
    (fun n _ vs => qLenA n vs) qLenS (fun d _ => d) (fun d _ => d) (fun d _ => d) (fun _ _ _ _ _ => none) (fun _ _ d _ => d) (fun _ _ d _ => d) (fun _ _ _ d _ => d) (fun _ _ => none) (fun d _ => d) (fun _ _ => none) (fun _ _ _ => none) (fun _ _ _ _ _ _ => none) (fun d _ => d)
noncomputable def qpure (x : XO) (vs : List Value) : Option Value := qpuref x (xpure x vs) vs
theorem qpure_eq {x : XO} {vs : List Value} {v : Value} (h : qpure x vs = some v) : xpure x vs = some v := by
  cases x
  case mov =>
    change one1 none vs some = _ at h
    rcases one1_eq (d := none) (vs := vs) (K := some) with ⟨a, rfl, h2⟩ | h2
    · rw [h2] at h; exact h
    · rw [h2] at h; cases h
  case pick =>
    change three3 _ vs (fun c a b => withB (xpure .pick vs) c fun t => Bool.rec (some b) (some a) t) = _ at h
    rcases three3_eq (d := xpure .pick vs) (vs := vs) (K := fun c a b => withB (xpure .pick vs) c fun t => Bool.rec (some b) (some a) t) with ⟨c, a, b, e, h2⟩ | h2
    · rw [h2] at h
      rcases withB_eq (d := xpure .pick vs) (v := c) (K := fun t => (Bool.rec (some b) (some a) t : Option Value)) with ⟨t, e2, h3⟩ | h3
      · rw [h3] at h
        rw [e, e2]
        cases t <;> exact h
      · rw [h3] at h; exact h
    · rw [h2] at h; exact h
  case bin op m =>
    change two2 none vs (fun a b => withI (xbin op m a b) a fun i => withI (xbin op m a b) b fun j => qN op i j (xbin op m a b)) = _ at h
    rcases two2_eq (d := none) (vs := vs) (K := fun a b => withI (xbin op m a b) a fun i => withI (xbin op m a b) b fun j => qN op i j (xbin op m a b)) with ⟨a, b, e, h2⟩ | h2
    · rw [h2] at h
      rw [e]
      change xbin op m a b = _
      rcases withI_eq (d := xbin op m a b) (v := a) (K := fun i => withI (xbin op m a b) b fun j => qN op i j (xbin op m a b)) with ⟨i, e2, h3⟩ | h3
      · rw [h3] at h
        rcases withI_eq (d := xbin op m a b) (v := b) (K := fun j => qN op i j (xbin op m a b)) with ⟨j, e3, h4⟩ | h4
        · rw [h4] at h
          subst e2 e3
          exact qN_eq h
        · rw [h4] at h; exact h
      · rw [h3] at h; exact h
    · rw [h2] at h; cases h
  case fld off =>
    change one1 _ vs (fun p => withP (xpure (.fld off) vs) p fun b o => some (.pointer (some ⟨b, o + off, none⟩))) = _ at h
    rcases one1_eq (d := xpure (.fld off) vs) (vs := vs) (K := fun p => withP (xpure (.fld off) vs) p fun b o => some (.pointer (some ⟨b, o + off, none⟩))) with ⟨a, e, h2⟩ | h2
    · rw [h2] at h
      rcases withP_eq (d := xpure (.fld off) vs) (v := a) (K := fun b o => some (Value.pointer (some ⟨b, o + off, none⟩))) with ⟨b, o, e2, h3⟩ | h3
      · rw [h3] at h
        rw [e, e2, xp_fld']; exact h
      · rw [h3] at h; exact h
    · rw [h2] at h; exact h
  case ixA len sz =>
    change two2 _ vs (fun p i => withP (xpure (.ixA len sz) vs) p fun b o => withI (xpure (.ixA len sz) vs) i fun n => Bool.rec (xpure (.ixA len sz) vs) (some (.pointer (some ⟨b, o + n * sz, none⟩))) (Nat.blt n len)) = _ at h
    rcases two2_eq (d := xpure (.ixA len sz) vs) (vs := vs) (K := fun p i => withP (xpure (.ixA len sz) vs) p fun b o => withI (xpure (.ixA len sz) vs) i fun n => Bool.rec (xpure (.ixA len sz) vs) (some (.pointer (some ⟨b, o + n * sz, none⟩))) (Nat.blt n len)) with ⟨p, i, e, h2⟩ | h2
    · rw [h2] at h
      rcases withP_eq (d := xpure (.ixA len sz) vs) (v := p) (K := fun b o => withI (xpure (.ixA len sz) vs) i fun n => Bool.rec (xpure (.ixA len sz) vs) (some (.pointer (some ⟨b, o + n * sz, none⟩))) (Nat.blt n len)) with ⟨b, o, e2, h3⟩ | h3
      · rw [h3] at h
        rcases withI_eq (d := xpure (.ixA len sz) vs) (v := i) (K := fun n => (Bool.rec (xpure (.ixA len sz) vs) (some (.pointer (some ⟨b, o + n * sz, none⟩))) (Nat.blt n len) : Option Value)) with ⟨n, e3, h4⟩ | h4
        · rw [h4] at h
          cases hb : Nat.blt n len with
          | false => rw [hb] at h; exact h
          | true =>
            rw [hb] at h
            rw [e, e2, e3, xp_ixAN (by simpa using hb)]; exact h
        · rw [h4] at h; exact h
      · rw [h3] at h; exact h
    · rw [h2] at h; exact h
  case ixS sz =>
    change two2 _ vs (fun p i => withS (xpure (.ixS sz) vs) p fun b o l _ => withI (xpure (.ixS sz) vs) i fun n => Bool.rec (xpure (.ixS sz) vs) (some (.pointer (some ⟨b, o + n * sz, none⟩))) (Nat.blt n l)) = _ at h
    rcases two2_eq (d := xpure (.ixS sz) vs) (vs := vs) (K := fun p i => withS (xpure (.ixS sz) vs) p fun b o l _ => withI (xpure (.ixS sz) vs) i fun n => Bool.rec (xpure (.ixS sz) vs) (some (.pointer (some ⟨b, o + n * sz, none⟩))) (Nat.blt n l)) with ⟨p, i, e, h2⟩ | h2
    · rw [h2] at h
      rcases withS_eq (d := xpure (.ixS sz) vs) (v := p) (K := fun b o l _ => withI (xpure (.ixS sz) vs) i fun n => Bool.rec (xpure (.ixS sz) vs) (some (.pointer (some ⟨b, o + n * sz, none⟩))) (Nat.blt n l)) with ⟨b, o, l, c, e2, h3⟩ | h3
      · rw [h3] at h
        rcases withI_eq (d := xpure (.ixS sz) vs) (v := i) (K := fun n => (Bool.rec (xpure (.ixS sz) vs) (some (.pointer (some ⟨b, o + n * sz, none⟩))) (Nat.blt n l) : Option Value)) with ⟨n, e3, h4⟩ | h4
        · rw [h4] at h
          cases hb : Nat.blt n l with
          | false => rw [hb] at h; exact h
          | true =>
            rw [hb] at h
            rw [e, e2, e3, xp_ixSN (by simpa using hb)]; exact h
        · rw [h4] at h; exact h
      · rw [h3] at h; exact h
    · rw [h2] at h; exact h
  case lenA n =>
    change one1 none vs (fun _ => some (nv n)) = _ at h
    rcases one1_eq (d := none) (vs := vs) (K := fun _ => some (nv n)) with ⟨a, rfl, h2⟩ | h2
    · rw [h2] at h; exact h
    · rw [h2] at h; cases h
  case lenS =>
    change one1 _ vs (fun p => withS (xpure .lenS vs) p fun _ _ l _ => some (nv l)) = _ at h
    rcases one1_eq (d := xpure .lenS vs) (vs := vs) (K := fun p => withS (xpure .lenS vs) p fun _ _ l _ => some (nv l)) with ⟨a, e, h2⟩ | h2
    · rw [h2] at h
      rcases withS_eq (d := xpure .lenS vs) (v := a) (K := fun _ _ l _ => some (nv l)) with ⟨b, o, l, c, e2, h3⟩ | h3
      · rw [h3] at h
        rw [e, e2]; exact h
      · rw [h3] at h; exact h
    · rw [h2] at h; exact h
  all_goals first | exact h | (cases h; done)
noncomputable def withC {α : Type} (d : α) (x : Option AB) (K : List Value → TypeId → Option Nat → Bool → α) : α := Option.rec d (fun x => AB.rec (fun c e o r => K c e o r) (fun _ => d) (fun _ => d) d x) x
theorem withC_eq {α : Type} {d : α} {x : Option AB} {K : List Value → TypeId → Option Nat → Bool → α} : (∃ c e o r, x = some (.cells c e o r) ∧ withC d x K = K c e o r) ∨ withC d x K = d := by
  rcases x with _ | (⟨c, e, o, r⟩ | _ | _ | _)
  · exact .inr rfl
  · exact .inl ⟨c, e, o, r, rfl, rfl⟩
  · exact .inr rfl
  · exact .inr rfl
  · exact .inr rfl
noncomputable def qload (sz : Option Nat) (H : AH) (vs : List Value) : Option Value :=
  one1 none vs fun p => withP none p fun b o => withC none (nth H b) fun c _ _ _ => Option.rec (nth c o) (fun n => xpart (some n) c o) sz
theorem qload_eq {sz : Option Nat} {H : AH} {vs : List Value} {v : Value} (h : qload sz H vs = some v) : xload sz H vs = some v := by
  unfold qload at h
  rcases one1_eq (d := none) (vs := vs) (K := fun p => withP none p fun b o => withC none (nth H b) fun c _ _ _ => Option.rec (nth c o) (fun n => xpart (some n) c o) sz) with ⟨p, e, h2⟩ | h2
  · rw [h2] at h
    rcases withP_eq (d := none) (v := p) (K := fun b o => withC none (nth H b) fun c _ _ _ => Option.rec (nth c o) (fun n => xpart (some n) c o) sz) with ⟨b, o, e2, h3⟩ | h3
    · rw [h3] at h
      rcases withC_eq (d := none) (x := nth H b) (K := fun c _ _ _ => (Option.rec (nth c o) (fun n => xpart (some n) c o) sz : Option Value)) with ⟨c, el, op, r, e3, h4⟩ | h4
      · rw [h4] at h
        rw [nth_eq] at e3
        rw [e, e2, xload_at e3]
        cases sz with
        | none => rw [xpart_none, ← nth_eq]; exact h
        | some n => exact h
      · rw [h4] at h; cases h
    · rw [h3] at h; cases h
  · rw [h2] at h; cases h
noncomputable def isOne (v : Value) : Bool := Value.casesOn (motive_1 := fun _ => Bool) v (fun _ => true) (fun _ _ => true) (fun _ _ => true) (fun _ _ _ => true) (fun _ => true) (fun _ => true) (fun _ _ _ => true) (fun _ => true) (fun _ => true) (fun _ _ _ => true) true (fun _ _ => true) true (fun _ => false) (fun _ => false)
theorem isOne_eq {v : Value} (h : isOne v = true) : cellsL v = [v] ∧ one v = true := by
  cases v with
  | agg _ => cases h
  | tuple _ => cases h
  | _ => exact ⟨rfl, rfl⟩
noncomputable def qst (sz : Nat) (H : AH) (vs : List Value) (d : Option (Value × AH)) : Option (Value × AH) :=
  two2 d vs fun p v => withP d p fun b o => withC d (nth H b) fun c e op r => Bool.rec (Bool.rec d (Bool.rec d (Option.rec d (fun _ => some (undef, setN H b (.cells (setN c o v) e op false))) (nth c o)) (isOne v)) (Nat.beq sz 1)) d r
theorem qst_eq {sz : Nat} {H : AH} {vs : List Value} {r : Value × AH} (h : qst sz H vs (xact (.st sz) H vs) = some r) : xact (.st sz) H vs = some r := by
  generalize hd : xact (.st sz) H vs = d at h
  rw [← hd]
  have hdd : ∀ {r'}, d = some r' → xact (.st sz) H vs = some r' := fun h => hd.trans h
  unfold qst at h
  rcases two2_eq (d := d) (vs := vs) (K := fun p v => withP d p fun b o => withC d (nth H b) fun c e op r => Bool.rec (Bool.rec d (Bool.rec d (Option.rec d (fun _ => some (undef, setN H b (.cells (setN c o v) e op false))) (nth c o)) (isOne v)) (Nat.beq sz 1)) d r) with ⟨p, v, e, h2⟩ | h2
  · rw [h2] at h
    rcases withP_eq (d := d) (v := p) (K := fun b o => withC d (nth H b) fun c e op r => Bool.rec (Bool.rec d (Bool.rec d (Option.rec d (fun _ => some (undef, setN H b (.cells (setN c o v) e op false))) (nth c o)) (isOne v)) (Nat.beq sz 1)) d r) with ⟨b, o, e2, h3⟩ | h3
    · rw [h3] at h
      rcases withC_eq (d := d) (x := nth H b) (K := fun c e op r => (Bool.rec (Bool.rec d (Bool.rec d (Option.rec d (fun _ => some (undef, setN H b (.cells (setN c o v) e op false))) (nth c o)) (isOne v)) (Nat.beq sz 1)) d r : Option (Value × AH))) with ⟨c, el, op, rr, e3, h4⟩ | h4
      · rw [h4] at h
        rw [nth_eq] at e3
        cases rr with
        | true => exact hdd h
        | false =>
          cases hsz : Nat.beq sz 1 with
          | false => rw [hsz] at h; exact hdd h
          | true =>
            rw [hsz] at h
            have hs1 : sz = 1 := by rw [beq_iff] at hsz; simpa using hsz
            cases ho : isOne v with
            | false => rw [ho] at h; exact hdd h
            | true =>
              rw [ho] at h
              cases hn : nth c o with
              | none => rw [hn] at h; exact hdd h
              | some u =>
                rw [hn] at h
                change some (undef, setN H b (.cells (setN c o v) el op false)) = some r at h
                rw [setN_eq, setN_eq] at h
                rw [nth_eq] at hn
                have hlt := (List.getElem?_eq_some_iff.1 hn).1
                subst hs1
                rw [e, e2, xact_st, e3, stB_one (isOne_eq ho).1 (isOne_eq ho).2 hlt]
                exact h
      · rw [h4] at h; exact hdd h
    · rw [h3] at h; exact hdd h
  · rw [h2] at h; exact hdd h
noncomputable def qactf (x : XO) : Option (Value × AH) → AH → List Value → Option (Value × AH) :=
  XO.casesOn (motive := fun _ => Option (Value × AH) → AH → List Value → Option (Value × AH)) x (fun _ _ _ => none) (fun _ _ _ => none) (fun _ _ _ _ _ => none) (fun _ _ _ _ => none) (fun _ _ _ _ => none) (fun _ _ _ _ => none) (fun _ _ _ _ => none) (fun _ _ _ _ _ => none) (fun _ _ _ _ => none) (fun sz d H vs => qst sz H vs d)
    (fun _ _ _ _ => none) (fun _ _ _ _ _ => none) (fun _ _ _ _ => none) (fun _ _ _ _ _ _ _ => none) (fun _ _ _ _ _ _ => none) (fun _ _ _ _ _ _ _ => none) (fun _ _ _ _ _ _ _ => none) (fun _ _ _ _ _ _ => none)
    (fun _ _ _ _ => none) (fun _ _ _ => none) (fun _ _ _ => none) (fun _ _ _ => none) (fun _ _ _ => none) (fun _ _ _ d _ _ => d) (fun _ _ _ _ _ => none) (fun _ _ _ _ _ => none) (fun _ _ _ _ _ _ => none) (fun _ _ _ => none) (fun _ _ _ => none) (fun _ _ _ => none) (fun _ d _ _ => d) (fun _ _ _ _ d _ _ => d) (fun _ _ _ => none)
noncomputable def qact (x : XO) (H : AH) (vs : List Value) : Option (Value × AH) := qactf x (xact x H vs) H vs
theorem qact_eq {x : XO} {H : AH} {vs : List Value} {r : Value × AH} (h : qact x H vs = some r) : xact x H vs = some r := by
  cases x
  case st sz => exact qst_eq h
  case app e sz bytes => exact h
  case cpy sz => exact h
  case apz z sz b e => exact h
  all_goals cases h
end Go.Sim

namespace Go.Sim
open Go
noncomputable def evT (t : Tr) (x : Operand) : Value := Operand.casesOn (motive := fun _ => Value) x (fun x => t.get x) (fun v => v) (fun _ => undef) (fun f => .func (.func f) #[] #[])
theorem evT_eq (t : Tr) (x : Operand) : evT t x = ev ⟨t.get, []⟩ x := by cases x <;> rfl
noncomputable def mapE (t : Tr) (l : List Operand) : List Value := List.rec [] (fun a _ ih => evT t a :: ih) l
theorem mapE_eq (t : Tr) (l : List Operand) : mapE t l = l.map (ev ⟨t.get, []⟩) := by
  induction l with
  | nil => rfl
  | cons a l ih =>
    change evT t a :: mapE t l = _
    rw [evT_eq, ih]; rfl
noncomputable def putK {α : Type} (t : Tr) (d : Option Tmp) (v : Value) (K : Tr → Option α) : Option α :=
  Option.rec (K t) (fun d => Bool.rec none (forceV v fun v => K (Tr.setF 4096 t d v)) (Nat.blt d 4096)) d
theorem putK_eq {α : Type} {t : Tr} {d : Option Tmp} {v : Value} {K : Tr → Option α} {r : α} (h : putK t d v K = some r) : ∃ t', (⟨t.get, []⟩ : St).put d v = ⟨t'.get, []⟩ ∧ K t' = some r := by
  cases d with
  | none => exact ⟨t, rfl, h⟩
  | some d =>
    change (Bool.rec none (forceV v fun v => K (Tr.setF 4096 t d v)) (Nat.blt d 4096) : Option α) = _ at h
    cases hb : Nat.blt d 4096 with
    | false => rw [hb] at h; cases h
    | true =>
      rw [hb] at h
      change forceV v (fun v => K (Tr.setF 4096 t d v)) = _ at h
      rw [forceV_eq] at h
      have hlt : d < 4096 := by simpa using hb
      refine ⟨_, ?_, h⟩
      unfold St.put
      simp only [St.mk.injEq, and_true]
      funext x
      rw [Tr.get_set _ _ _ _ _ hlt]
def eqS : Value → Value → Bool
  | .int k a, .int k' b => k == k' && a == b
  | .bool a, .bool b => a == b
  | .pointer (some ⟨a, o, none⟩), .pointer (some ⟨b, q, none⟩) => a == b && o == q
  | .slice (some ⟨a, o, none⟩) l c, .slice (some ⟨b, q, none⟩) m d => a == b && o == q && l == m && c == d
  | .slice none l c, .slice none m d => l == m && c == d
  | _, _ => false
theorem eqS_eq {a b : Value} (h : eqS a b = true) : a = b := by
  unfold eqS at h
  split at h <;> simp_all
def eqL : List Value → List Value → Bool
  | [], [] => true
  | a :: l, b :: m => eqS a b && eqL l m
  | _, _ => false
theorem eqL_eq : ∀ {a b : List Value}, eqL a b = true → a = b
  | [], [], _ => rfl
  | a :: l, b :: m, h => by
    simp only [eqL, Bool.and_eq_true] at h
    rw [eqS_eq h.1, eqL_eq h.2]
  | [], _ :: _, h => by simp [eqL] at h
  | _ :: _, [], h => by simp [eqL] at h
def eqV : Value → Value → Bool
  | .agg a, .agg b => eqL a.toList b.toList
  | a, b => eqS a b
theorem eqV_eq {a b : Value} (h : eqV a b = true) : a = b := by
  unfold eqV at h
  split at h
  · have := eqL_eq h
    congr 1
    exact Array.ext' this
  · exact eqS_eq h
def chkB (c : List Nat) (D : List PL) (H : AH) : Bool :=
  match c with
  | [] => true
  | c => D.all fun p => !(c.contains p.j) || (match xload p.sz H p.vs with | some v => eqV v p.v | none => false)
theorem chkB_ok {c : List Nat} {D : List PL} {H : AH} (h : chkB c D H = true) : chkX c D H := by
  unfold chkB at h
  split at h
  · intro p _ hj; cases hj
  · intro p hp hj
    have := List.all_eq_true.1 h p hp
    simp only [Bool.or_eq_true, Bool.not_eq_true', List.contains_eq_mem, decide_eq_false_iff_not] at this
    rcases this with h1 | h1
    · exact absurd hj h1
    · split at h1
      · rename_i v hv
        rw [hv, eqV_eq h1]
      · cases h1
def okW (lo : Nat) : List Value → Bool
  | .pointer (some a) :: _ => Nat.ble lo a.block
  | .slice (some a) _ _ :: _ => Nat.ble lo a.block
  | _ => true
def Keep (lo : Nat) (H H' : AH) : Prop := lo ≤ H'.length ∧ ∀ b, b < lo → H'[b]? = H[b]?
theorem Keep.refl {lo : Nat} {H : AH} (h : lo ≤ H.length) : Keep lo H H := ⟨h, fun _ _ => rfl⟩
theorem Keep.trans {lo : Nat} {H H' H'' : AH} (a : Keep lo H H') (b : Keep lo H' H'') : Keep lo H H'' := ⟨b.1, fun n hn => (b.2 n hn).trans (a.2 n hn)⟩
theorem Keep.app {lo : Nat} {H : AH} (h : lo ≤ H.length) (Y : AH) : Keep lo H (H ++ Y) := ⟨by simp; omega, fun b hb => List.getElem?_append_left (by omega)⟩
theorem Keep.set {lo : Nat} {H : AH} (h : lo ≤ H.length) {b : Nat} (hb : lo ≤ b) (x : AB) : Keep lo H (H.set b x) := ⟨by simpa using h, fun n hn => List.getElem?_set_ne (by omega)⟩
theorem xact_keep {lo : Nat} {x : XO} {H H' : AH} {vs : List Value} {v : Value} (hl : lo ≤ H.length) (hw : okW lo vs = true) (h : xact x H vs = some (v, H')) : Keep lo H H' := by
  unfold xact at h
  split at h
  · rename_i sz a u
    have hb : lo ≤ a.block := by simpa [okW] using hw
    split at h
    · split at h
      · cases h; exact Keep.set hl hb _
      · cases h
    · cases h
  · rename_i e sz bytes s u
    split at h
    · split at h
      · split at h
        · split at h
          · cases h; exact Keep.refl hl
          · cases h; exact Keep.app hl _
        · rename_i a l c _
          have hb : lo ≤ a.block := by simpa [okW] using hw
          split at h
          · split at h
            · split at h
              · cases h; exact Keep.refl hl
              · split at h
                · cases h; exact Keep.set hl hb _
                · cases h
            · split at h
              · split at h
                · cases h; exact Keep.app hl _
                · cases h
              · split at h
                · cases h; exact (Keep.set hl hb .dead).trans (Keep.app (by simpa using hl) _)
                · cases h
          · cases h
        · cases h
      · cases h
    · cases h
  · rename_i sz a l c u
    have hb : lo ≤ a.block := by simpa [okW] using hw
    split at h
    · split at h
      · split at h
        · cases h; exact Keep.set hl hb _
        · cases h
      · cases h
    · cases h
  · split at h
    · cases h; exact Keep.app hl _
    · cases h
  · cases h
abbrev CallT := FuncId → List Value → AH → Option (Value × AH)
noncomputable def chkK {α : Type} (c : List Nat) (D : List PL) (H : AH) (x : Option α) : Option α := List.rec x (fun a l _ => Bool.rec none x (chkB (a :: l) D H)) c
theorem chkK_eq {α : Type} {c : List Nat} {D : List PL} {H : AH} {x : Option α} {r : α} (h : chkK c D H x = some r) : chkX c D H ∧ x = some r := by
  cases c with
  | nil => exact ⟨(fun p _ hj => by cases hj), h⟩
  | cons a l =>
    change (Bool.rec none x (chkB (a :: l) D H) : Option α) = _ at h
    cases hb : chkB (a :: l) D H with
    | false => rw [hb] at h; cases h
    | true => rw [hb] at h; exact ⟨chkB_ok hb, h⟩
abbrev KT := List PL → Tr → AH → Option (Tr × AH)
noncomputable def sPur (i : XS) (ih : KT) (D : List PL) (t : Tr) (H : AH) : Option (Tr × AH) := Option.rec none (fun v => putK t i.dst v fun t' => ih D t' H) (qpure i.x (mapE t i.xs))
noncomputable def sLoad (i : XS) (ih : KT) (D : List PL) (t : Tr) (H : AH) : Option (Tr × AH) :=
  match i.x with
  | .ld sz => Option.rec none (fun v => putK t i.dst v fun t' => ih (Bool.rec D (⟨i.j, sz, mapE t i.xs, v⟩ :: D) i.keep) t' H) (qload sz H (mapE t i.xs))
  | _ => none
noncomputable def sNew (i : XS) (ih : KT) (D : List PL) (t : Tr) (H : AH) : Option (Tr × AH) :=
  match xnew i.x (mapE t i.xs) with
  | some (c, e, mk) => chkK i.chk D (H ++ [.cells c e none false]) (putK t i.dst (mk (lenN H)) fun t' => ih D t' (H ++ [.cells c e none false]))
  | none => none
noncomputable def sAct (lo : Nat) (i : XS) (ih : KT) (D : List PL) (t : Tr) (H : AH) : Option (Tr × AH) :=
  Bool.rec none (match qact i.x H (mapE t i.xs) with
    | some (v, H') => chkK i.chk D H' (putK t i.dst v fun t' => ih D t' H')
    | none => none) (okW lo (mapE t i.xs))
noncomputable def sCall (call : CallT) (i : XS) (ih : KT) (D : List PL) (t : Tr) (H : AH) : Option (Tr × AH) :=
  match mapE t i.xs with
  | .func (.func g) first cap :: args => match call g (first.toList ++ args ++ cap.toList) H with
    | some (v, H') => chkK i.chk D H' (putK t i.dst v fun t' => ih D t' H')
    | none => none
  | _ => none
noncomputable def guardQ (g : Option (Tmp × Bool)) (t : Tr) (a b : Option (Tr × AH)) : Option (Tr × AH) :=
  Option.rec a (fun p => Prod.rec (fun d want => Bool.rec b a (withB false (t.get d) fun x => x == want)) p) g
noncomputable def sKind (k : XK) : CallT → Nat → XS → KT → List PL → Tr → AH → Option (Tr × AH) :=
  XK.rec (fun _ _ => sPur) (fun _ _ => sLoad) (fun _ _ => sNew) (fun _ => sAct) (fun call _ => sCall call) k
noncomputable def runS (call : CallT) (lo : Nat) (l : List XS) : KT :=
  List.rec (fun _ t H => some (t, H)) (fun i _ ih D t H => guardQ i.g t (sKind i.x.kind call lo i ih D t H) (putK t i.dst undef fun t' => ih D t' H)) l
def CallOk (P : Program) (call : CallT) : Prop := ∀ g args H v H', call g args H = some (v, H') → FN P g args H (fun v1 H1 => v1 = v ∧ H1 = H') ∧ Keep H.length H H'
def CallOkL (P : Program) (lo : Nat) (call : CallT) : Prop := ∀ g args H v H', lo ≤ H.length → call g args H = some (v, H') → FN P g args H (fun v1 H1 => v1 = v ∧ H1 = H') ∧ Keep lo H H'
theorem CallOk.toL {P : Program} {call : CallT} (h : CallOk P call) (lo : Nat) : CallOkL P lo call := fun g args H v H' hl hc =>
  have q := h g args H v H' hc
  ⟨q.1, by have := q.2.1; omega, fun b hb => q.2.2 b (by omega)⟩
theorem recO {α β : Type} {o : Option α} {K : α → Option β} {r : β} (h : (Option.rec none K o : Option β) = some r) : ∃ a, o = some a ∧ K a = some r := by
  cases o with
  | none => cases h
  | some a => exact ⟨a, rfl, h⟩
theorem runS_ok {P : Program} {call : CallT} {lo : Nat} (hc : CallOkL P lo call) (l : List XS) : ∀ (D : List PL) (t : Tr) (H : AH) (t' : Tr) (H' : AH), lo ≤ H.length → runS call lo l D t H = some (t', H') →
    stepsX P l D ⟨t.get, []⟩ H (fun s1 H1 => s1 = ⟨t'.get, []⟩ ∧ H1 = H') ∧ Keep lo H H' := by
  induction l with
  | nil =>
    intro D t H t' H' hl h
    cases h
    exact ⟨⟨rfl, rfl⟩, Keep.refl hl⟩
  | cons i l ih =>
    intro D t H t' H' hl h
    change guardQ i.g t (sKind i.x.kind call lo i (runS call lo l) D t H) (putK t i.dst undef fun t' => runS call lo l D t' H) = _ at h
    unfold stepsX
    have hw : ∀ a b : Option (Tr × AH), guardQ i.g t a b = bif wantX i.g ⟨t.get, []⟩ then a else b := by
      intro a b
      unfold wantX
      cases i.g with
      | none => rfl
      | some g =>
        obtain ⟨d, want⟩ := g
        change (Bool.rec b a (withB false (t.get d) fun x => x == want) : Option (Tr × AH)) = _
        rw [recB]
        simp only
        rcases withB_eq (d := false) (v := t.get d) (K := fun x => x == want) with ⟨x, e1, e2⟩ | e2
        · rw [e2, e1]
        · rw [e2]
          cases hv : t.get d with
          | bool x =>
            rw [hv] at e2
            change (x == want) = false at e2
            simp only [e2]
          | _ => rfl
    rw [hw] at h
    cases hwx : wantX i.g ⟨t.get, []⟩ with
    | false =>
      rw [hwx] at h
      simp only [cond_false] at h
      obtain ⟨t1, ht, h⟩ := putK_eq h
      obtain ⟨q, k⟩ := ih D t1 H t' H' hl h
      simp only [Bool.false_eq_true, if_false]
      rw [ht]
      exact ⟨q, k⟩
    | true =>
      rw [hwx] at h
      simp only [cond_true] at h
      simp only [if_true]
      rw [← mapE_eq]
      cases hkd : i.x.kind with
      | pur =>
        rw [hkd] at h
        obtain ⟨v, hv, h⟩ := recO h
        obtain ⟨t1, ht, h⟩ := putK_eq h
        obtain ⟨q, k⟩ := ih D t1 H t' H' hl h
        refine ⟨⟨v, qpure_eq hv, ?_⟩, k⟩
        rw [ht]
        exact q
      | load =>
        rw [hkd] at h
        change sLoad i (runS call lo l) D t H = _ at h
        unfold sLoad at h
        split at h
        · rename_i sz hx
          obtain ⟨v, hv, h⟩ := recO h
          obtain ⟨t1, ht, h⟩ := putK_eq h
          obtain ⟨q, k⟩ := ih _ t1 H t' H' hl h
          refine ⟨⟨sz, v, hx, qload_eq hv, ?_⟩, k⟩
          rw [ht]
          have e : (Bool.rec D (⟨i.j, sz, mapE t i.xs, v⟩ :: D) i.keep : List PL) = if i.keep = true then ⟨i.j, sz, mapE t i.xs, v⟩ :: D else D := by cases i.keep <;> rfl
          rw [← e]
          exact q
        · cases h
      | new =>
        rw [hkd] at h
        change sNew i (runS call lo l) D t H = _ at h
        unfold sNew at h
        split at h
        · rename_i c e mk hv
          obtain ⟨hk, h⟩ := chkK_eq h
          obtain ⟨t1, ht, h⟩ := putK_eq h
          obtain ⟨q, k⟩ := ih D t1 _ t' H' (by simp; omega) h
          refine ⟨⟨c, e, mk, hv, hk, ?_⟩, (Keep.app hl _).trans k⟩
          rw [← lenN_eq, ht]
          exact q
        · cases h
      | act =>
        rw [hkd] at h
        change sAct lo i (runS call lo l) D t H = _ at h
        unfold sAct at h
        cases hok : okW lo (mapE t i.xs) with
        | false => rw [hok] at h; cases h
        | true =>
          rw [hok] at h
          simp only at h
          split at h
          · rename_i v H1 hv
            obtain ⟨hk, h⟩ := chkK_eq h
            have hv := qact_eq hv
            have kp := xact_keep hl hok hv
            obtain ⟨t1, ht, h⟩ := putK_eq h
            obtain ⟨q, k⟩ := ih D t1 _ t' H' kp.1 h
            refine ⟨⟨v, H1, hv, hk, ?_⟩, kp.trans k⟩
            rw [ht]
            exact q
          · cases h
      | call =>
        rw [hkd] at h
        change sCall call i (runS call lo l) D t H = _ at h
        unfold sCall at h
        split at h
        · rename_i g first cap args ha
          split at h
          · rename_i v H1 hv
            obtain ⟨hk, h⟩ := chkK_eq h
            obtain ⟨hF, kp⟩ := hc _ _ _ _ _ hl hv
            obtain ⟨t1, ht, h⟩ := putK_eq h
            obtain ⟨q, k⟩ := ih D t1 _ t' H' kp.1 h
            refine ⟨?_, kp.trans k⟩
            rw [ha]
            simp only [callX]
            refine hF.mono ?_
            rintro _ _ ⟨rfl, rfl⟩
            refine ⟨hk, ?_⟩
            rw [ht]
            exact q
          · cases h
        · cases h
end Go.Sim

namespace Go.Sim
open Go
abbrev RunT := Tr → AH → Option (AX × Tr × AH)
noncomputable def seqI (r : Option (AX × Tr × AH)) (f : RunT) : Option (AX × Tr × AH) := Option.rec none (fun p => Prod.rec (fun x q => AX.rec (Prod.rec f q) (fun i => some (.exit i, q)) (some (.ret, q)) x) p) r
noncomputable def iterC (f : RunT) (n : Nat) : RunT := Nat.rec (fun _ _ => none) (fun _ ih t H => seqI (f t H) ih) n
theorem iterC_zero (f : RunT) (t : Tr) (H : AH) : iterC f 0 t H = none := rfl
theorem iterC_succ (f : RunT) (n : Nat) (t : Tr) (H : AH) : iterC f (n + 1) t H = match f t H with
    | some (.normal, t', H') => iterC f n t' H'
    | r => r := by
  change seqI (f t H) (iterC f n) = _
  rcases f t H with _ | ⟨x, t', H'⟩
  · rfl
  · cases x <;> rfl
noncomputable def seqR (r : Option (AX × Tr × AH)) (f : RunT) : Option (AX × Tr × AH) := Option.rec none (fun p => Prod.rec (fun x q => AX.rec (Prod.rec f q) (fun i => some (.exit i, q)) (some (.ret, q)) x) p) r
noncomputable def blockR (id : Nat) (r : Option (AX × Tr × AH)) : Option (AX × Tr × AH) := Option.rec none (fun p => Prod.rec (fun x q => AX.rec (some (.normal, q)) (fun i => Bool.rec (some (.exit i, q)) (some (.normal, q)) (Nat.beq i id)) (some (.ret, q)) x) p) r
noncomputable def condR (v : Value) (a b : Option (AX × Tr × AH)) : Option (AX × Tr × AH) := withB none v fun x => Bool.rec b a x
noncomputable def regR (r : Option (Tr × AH)) : Option (AX × Tr × AH) := Option.rec none (fun q => some (.normal, q)) r
noncomputable def runC (call : CallT) (lo L : Nat) (c : XC) : RunT :=
  XC.rec (motive := fun _ => RunT) (fun t H => some (.normal, t, H)) (fun id t H => some (.exit id, t, H)) (fun t H => some (.ret, t, H))
    (fun _ _ fa fb t H => seqR (fa t H) fb)
    (fun c _ _ fa fb t H => condR (evT t c) (fa t H) (fb t H))
    (fun id _ fa t H => blockR id (fa t H))
    (fun _ fa => iterC fa L)
    (fun l t H => regR (runS call lo l [] t H))
    (fun _ _ _ _ _ _ _ _ => none) c
theorem seqR_eq (r : Option (AX × Tr × AH)) (f : RunT) : seqR r f = match r with
    | some (.normal, t', H') => f t' H'
    | r => r := by
  rcases r with _ | ⟨x, t', H'⟩
  · rfl
  · cases x <;> rfl
theorem blockR_eq (id : Nat) (r : Option (AX × Tr × AH)) : blockR id r = match r with
    | some (.exit i, t', H') => bif Nat.beq i id then some (.normal, t', H') else some (.exit i, t', H')
    | r => r := by
  rcases r with _ | ⟨x, t', H'⟩
  · rfl
  · cases x with
    | exit i =>
      change (Bool.rec (some (.exit i, t', H')) (some (.normal, t', H')) (Nat.beq i id) : Option (AX × Tr × AH)) = _
      rw [recB]
    | _ => rfl
theorem runC_ok {P : Program} {call : CallT} {n lo L : Nat} (hc : CallOkL P lo call) (c : XC) : ∀ (t : Tr) (H : AH) (x : AX) (t' : Tr) (H' : AH), lo ≤ H.length → runC call lo L c t H = some (x, t', H') →
    X P n none c ⟨t.get, []⟩ H (fun x1 s1 H1 => x1 = x ∧ s1 = ⟨t'.get, []⟩ ∧ H1 = H') ∧ Keep lo H H' := by
  induction c with
  | skip => intro t H x t' H' hl h; cases h; exact ⟨⟨rfl, rfl, rfl⟩, .refl hl⟩
  | exit id => intro t H x t' H' hl h; cases h; exact ⟨⟨rfl, rfl, rfl⟩, .refl hl⟩
  | ret => intro t H x t' H' hl h; cases h; exact ⟨⟨rfl, rfl, rfl⟩, .refl hl⟩
  | seq a b iha ihb =>
    intro t H x t' H' hl h
    change seqR (runC call lo L a t H) (runC call lo L b) = _ at h
    rw [seqR_eq] at h
    split at h
    · rename_i t1 H1 ha
      obtain ⟨q1, k1⟩ := iha t H _ t1 H1 hl ha
      obtain ⟨q2, k2⟩ := ihb t1 H1 x t' H' k1.1 h
      refine ⟨X.mono a q1 ?_, k1.trans k2⟩
      rintro _ _ _ ⟨rfl, rfl, rfl⟩
      exact q2
    · rename_i hn
      obtain ⟨q1, k1⟩ := iha t H x t' H' hl h
      refine ⟨X.mono a q1 ?_, k1⟩
      rintro x2 _ _ ⟨rfl, rfl, rfl⟩
      cases x2 with
      | normal => exact absurd h (hn _ _)
      | exit i => exact ⟨rfl, rfl, rfl⟩
      | ret => exact ⟨rfl, rfl, rfl⟩
  | cond c a b iha ihb =>
    intro t H x t' H' hl h
    change condR (evT t c) (runC call lo L a t H) (runC call lo L b t H) = _ at h
    unfold condR at h
    rcases withB_eq (d := none) (v := evT t c) (K := fun x => (Bool.rec (runC call lo L b t H) (runC call lo L a t H) x : Option (AX × Tr × AH))) with ⟨y, hy, e2⟩ | e2
    · rw [evT_eq] at hy
      rw [e2] at h
      cases y with
      | true =>
        obtain ⟨q, k⟩ := iha t H x t' H' hl h
        exact ⟨⟨true, hy, by simpa using q⟩, k⟩
      | false =>
        obtain ⟨q, k⟩ := ihb t H x t' H' hl h
        exact ⟨⟨false, hy, by simpa using q⟩, k⟩
    · rw [e2] at h; cases h
  | block id a ih =>
    intro t H x t' H' hl h
    change blockR id (runC call lo L a t H) = _ at h
    rw [blockR_eq] at h
    split at h
    · rename_i i t1 H1 ha
      obtain ⟨q1, k1⟩ := ih t H _ t1 H1 hl ha
      by_cases hi : i = id
      · subst hi
        simp only [Nat.beq_refl, cond_true] at h
        cases h
        refine ⟨X.mono a q1 ?_, k1⟩
        rintro _ _ _ ⟨rfl, rfl, rfl⟩
        simp [AX.inBlock]
      · have : Nat.beq i id = false := by rw [beq_iff]; simp [hi]
        rw [this] at h
        cases h
        refine ⟨X.mono a q1 ?_, k1⟩
        rintro _ _ _ ⟨rfl, rfl, rfl⟩
        simp [AX.inBlock, hi]
    · rename_i hn
      obtain ⟨q1, k1⟩ := ih t H x t' H' hl h
      refine ⟨X.mono a q1 ?_, k1⟩
      rintro x2 _ _ ⟨rfl, rfl, rfl⟩
      cases x2 with
      | normal => exact ⟨rfl, rfl, rfl⟩
      | exit i => exact absurd h (hn _ _ _)
      | ret => exact ⟨rfl, rfl, rfl⟩
  | loop a ih =>
    intro t H x t' H' hl h
    change iterC (runC call lo L a) L t H = _ at h
    have key : ∀ m t H, lo ≤ H.length → iterC (runC call lo L a) m t H = some (x, t', H') → Keep lo H H' := by
      intro m
      induction m with
      | zero => intro t H _ h; rw [iterC_zero] at h; cases h
      | succ m ihm =>
        intro t H hl h
        rw [iterC_succ] at h
        split at h
        · rename_i t1 H1 ha
          obtain ⟨q1, k1⟩ := ih t H _ t1 H1 hl ha
          exact k1.trans (ihm t1 H1 k1.1 h)
        · exact (ih t H x t' H' hl h).2
    refine ⟨?_, key _ _ _ hl h⟩
    refine loop_ind (fun m s H => ∃ t, s = ⟨t.get, []⟩ ∧ lo ≤ H.length ∧ iterC (runC call lo L a) m t H = some (x, t', H')) L ⟨t, rfl, hl, h⟩ ?_
    rintro m s H1 ⟨t1, rfl, hl1, h1⟩
    cases m with
    | zero => rw [iterC_zero] at h1; cases h1
    | succ m =>
      rw [iterC_succ] at h1
      split at h1
      · rename_i t2 H2 ha
        obtain ⟨q1, k1⟩ := ih t1 H1 _ t2 H2 hl1 ha
        refine X.mono a q1 ?_
        rintro _ _ _ ⟨rfl, rfl, rfl⟩
        exact ⟨m, by omega, t2, rfl, k1.1, h1⟩
      · rename_i hn
        obtain ⟨q1, k1⟩ := ih t1 H1 x t' H' hl1 h1
        refine X.mono a q1 ?_
        rintro x2 _ _ ⟨rfl, rfl, rfl⟩
        cases x2 with
        | normal => exact absurd h1 (hn _ _)
        | exit i => exact ⟨rfl, rfl, rfl⟩
        | ret => exact ⟨rfl, rfl, rfl⟩
  | reg l =>
    intro t H x t' H' hl h
    change regR (runS call lo l [] t H) = _ at h
    obtain ⟨⟨t1, H1⟩, hr, h⟩ := recO h
    · skip
      obtain ⟨q, k⟩ := runS_ok hc l [] t H t1 H1 hl hr
      cases h
      exact ⟨stepsX_mono l _ _ _ _ _ (fun s H h => ⟨rfl, h.1, h.2⟩) q, k⟩
  | range f ps xa xb _ _ => intro t H x t' H' hl h; cases h
noncomputable def initT : List Value → Nat → Tr → Tr
  | [], _, t => t
  | v :: l, k, t => initT l (k + 1) (forceV v fun v => Tr.setF 4096 t k v)
theorem initT_get : ∀ (l : List Value) (k : Nat) (t : Tr) (x : Nat), k + l.length ≤ 4096 → (initT l k t).get x = if k ≤ x ∧ x < k + l.length then l.getD (x - k) undef else t.get x
  | [], k, t, x, _ => by simp only [initT, List.length_nil]; rw [if_neg (by omega)]
  | v :: l, k, t, x, h => by
    simp only [initT, forceV_eq]
    simp only [List.length_cons] at h ⊢
    rw [initT_get l (k + 1) _ x (by omega), Tr.get_set _ _ _ _ _ (by omega)]
    by_cases h1 : x = k
    · subst h1
      rw [if_neg (by omega), if_pos rfl, if_pos (by omega)]
      simp
    · by_cases h2 : k + 1 ≤ x ∧ x < k + 1 + l.length
      · rw [if_pos h2, if_pos (by omega), show x - k = (x - (k + 1)) + 1 by omega, List.getD_cons_succ]
      · rw [if_neg h2, if_neg h1, if_neg (by omega)]
def resR (xf : XF) (H : AH) (r : Option (AX × Tr × AH)) (get : Tr → Nat → Value) : Option (Value × AH) := match r with
  | some (.exit _, _, _) => none
  | some (_, t', H') => match xress H' ⟨get t', []⟩ xf.res with
    | some v => bif ground v then some (v, H) else some (v, H')
    | none => none
  | none => none
def resM (xf : XF) (r : Option (AX × Tr × AH)) (get : Tr → Nat → Value) : Option (Value × AH) := match r with
  | some (.exit _, _, _) => none
  | some (_, t', H') => match xress H' ⟨get t', []⟩ xf.res with
    | some v => some (v, H')
    | none => none
  | none => none
noncomputable def callF (T : FuncId → Option XF) (O : CallT) (L d : Nat) : CallT :=
  Nat.rec (fun _ _ _ => none) (fun _ ih g args H => match O g args H with
    | some r => some r
    | none => match T g with
      | some xf => bif Nat.ble args.length xf.n && Nat.ble args.length 4096 then resR xf H (runC ih H.length L xf.body (initT args 0 .nil) H) Tr.get else none
      | none => none) d
theorem Keep.split {H H' : AH} (h : Keep H.length H H') : ∃ J, H' = H ++ J := by
  refine ⟨H'.drop H.length, ?_⟩
  refine List.ext_getElem? fun b => ?_
  by_cases hb : b < H.length
  · rw [List.getElem?_append_left hb]; exact h.2 b hb
  · rw [List.getElem?_append_right (by omega), List.getElem?_drop]
    congr 1; omega
theorem callF_ok {P : Program} (hm : P.follows .mixedOrders = true) {T : FuncId → Option XF} {O : CallT} (hT : ∀ g xf, T g = some xf → compF P g = some xf)
    (hO : CallOk P O) (L : Nat) : ∀ d, CallOk P (callF T O L d)
  | 0 => by intro g args H v H' h; cases h
  | d + 1 => by
    intro g args H v H' h
    change (match O g args H with
      | some r => some r
      | none => match T g with
        | some xf => bif Nat.ble args.length xf.n && Nat.ble args.length 4096 then resR xf H (runC (callF T O L d) H.length L xf.body (initT args 0 .nil) H) Tr.get else none
        | none => none) = some (v, H') at h
    split at h
    · rename_i u hu
      cases h
      exact hO g args _ _ _ hu
    · split at h
      · rename_i xf hxf
        cases hb : (Nat.ble args.length xf.n && Nat.ble args.length 4096) with
        | false => rw [hb] at h; cases h
        | true =>
          rw [hb] at h
          simp only [Bool.and_eq_true] at hb
          have b1 : args.length ≤ xf.n := Nat.le_of_ble_eq_true hb.1
          have b2 : args.length ≤ 4096 := Nat.le_of_ble_eq_true hb.2
          have henv : (⟨env0 args, []⟩ : St) = ⟨(initT args 0 .nil).get, []⟩ := by
            congr 1
            funext x
            rw [initT_get _ _ _ _ (by omega)]
            simp only [env0, Nat.zero_le, Nat.zero_add, true_and, Nat.sub_zero]
            split
            · rfl
            · rename_i hx
              rw [List.getD_eq_getElem?_getD, List.getElem?_eq_none (by omega)]
              rfl
          simp only [cond_true] at h
          unfold resR at h
          split at h
          · cases h
          · rename_i x t' H1 hne hr
            split at h
            · rename_i u hu
              obtain ⟨q, k⟩ := runC_ok ((callF_ok hm hT hO L d).toL _) (n := xf.n) xf.body _ H _ t' H1 (Nat.le_refl _) hr
              have hF : ∀ R : Value → AH → Prop, R u H1 → FN P g args H R := by
                intro R hR
                refine FN.of_comp hm (hT g xf hxf) b1 ?_
                rw [henv]
                refine X.mono xf.body q ?_
                rintro x2 _ _ ⟨rfl, rfl, rfl⟩
                cases x2 with
                | exit i => exact (hne _ rfl).elim
                | normal => exact ⟨_, _, rfl, hu, hR⟩
                | ret => exact ⟨_, _, rfl, hu, hR⟩
              cases hg : ground u with
              | true =>
                rw [hg] at h
                cases h
                refine ⟨FN.gc0 (R := fun v1 => v1 = _) (hF _ ⟨rfl, hg, k.split⟩), Keep.refl (Nat.le_refl _)⟩
              | false =>
                rw [hg] at h
                cases h
                exact ⟨hF _ ⟨rfl, rfl⟩, k⟩
            · cases h
          · cases h
      · cases h
noncomputable def callM (T : FuncId → Option XF) (O : CallT) (wr : FuncId → Bool) (L d : Nat) : Nat → CallT :=
  Nat.rec (fun _ _ _ _ => none) (fun _ ih lo g args H => match O g args H with
    | some r => some r
    | none => match T g with
      | some xf => bif Nat.ble args.length xf.n && Nat.ble args.length 4096 then
          (bif wr g then resM xf (runC (ih lo) lo L xf.body (initT args 0 .nil) H) Tr.get else resR xf H (runC (ih H.length) H.length L xf.body (initT args 0 .nil) H) Tr.get) else none
      | none => none) d
theorem callM_ok {P : Program} (hm : P.follows .mixedOrders = true) {T : FuncId → Option XF} {O : CallT} {wr : FuncId → Bool} (hT : ∀ g xf, T g = some xf → compF P g = some xf)
    (hO : CallOk P O) (L : Nat) : ∀ d lo, CallOkL P lo (callM T O wr L d lo)
  | 0, _ => by intro g args H v H' hl h; cases h
  | d + 1, lo => by
    intro g args H v H' hl h
    change (match O g args H with
      | some r => some r
      | none => match T g with
        | some xf => bif Nat.ble args.length xf.n && Nat.ble args.length 4096 then
          (bif wr g then resM xf (runC (callM T O wr L d lo) lo L xf.body (initT args 0 .nil) H) Tr.get else resR xf H (runC (callM T O wr L d H.length) H.length L xf.body (initT args 0 .nil) H) Tr.get) else none
        | none => none) = some (v, H') at h
    split at h
    · rename_i u hu
      cases h
      exact hO.toL lo g args _ _ _ hl hu
    · split at h
      · rename_i xf hxf
        cases hb : (Nat.ble args.length xf.n && Nat.ble args.length 4096) with
        | false => rw [hb] at h; cases h
        | true =>
          rw [hb] at h
          simp only [Bool.and_eq_true] at hb
          have b1 : args.length ≤ xf.n := Nat.le_of_ble_eq_true hb.1
          have b2 : args.length ≤ 4096 := Nat.le_of_ble_eq_true hb.2
          have henv : (⟨env0 args, []⟩ : St) = ⟨(initT args 0 .nil).get, []⟩ := by
            congr 1
            funext x
            rw [initT_get _ _ _ _ (by omega)]
            simp only [env0, Nat.zero_le, Nat.zero_add, true_and, Nat.sub_zero]
            split
            · rfl
            · rename_i hx
              rw [List.getD_eq_getElem?_getD, List.getElem?_eq_none (by omega)]
              rfl
          have hend : ∀ {x : AX} {t' : Tr} {H1 : AH} {u : Value}, (∀ i, x ≠ .exit i) → X P xf.n none xf.body ⟨(initT args 0 .nil).get, []⟩ H (fun x1 s1 H2 => x1 = x ∧ s1 = ⟨t'.get, []⟩ ∧ H2 = H1) → xress H1 ⟨t'.get, []⟩ xf.res = some u → ∀ R : Value → AH → Prop, R u H1 → FN P g args H R := by
            intro x t' H1 u hne q hu R hR
            refine FN.of_comp hm (hT g xf hxf) b1 ?_
            rw [henv]
            refine X.mono xf.body q ?_
            rintro x2 _ _ ⟨rfl, rfl, rfl⟩
            cases x2 with
            | exit i => exact (hne _ rfl).elim
            | normal => exact ⟨_, _, rfl, hu, hR⟩
            | ret => exact ⟨_, _, rfl, hu, hR⟩
          simp only [cond_true] at h
          cases hmut : wr g with
          | true =>
            rw [hmut] at h
            simp only [cond_true] at h
            unfold resM at h
            split at h
            · cases h
            · rename_i x t' H1 hne hr
              split at h
              · rename_i u hu
                obtain ⟨q, k⟩ := runC_ok (callM_ok hm hT hO L d lo) (n := xf.n) xf.body _ H _ t' H1 hl hr
                cases h
                exact ⟨hend (fun i hi => hne i hi) q hu _ ⟨rfl, rfl⟩, k⟩
              · cases h
            · cases h
          | false =>
            rw [hmut] at h
            simp only [cond_false] at h
            unfold resR at h
            split at h
            · cases h
            · rename_i x t' H1 hne hr
              split at h
              · rename_i u hu
                obtain ⟨q, k⟩ := runC_ok (callM_ok hm hT hO L d H.length) (n := xf.n) xf.body _ H _ t' H1 (Nat.le_refl _) hr
                have kk : Keep lo H H1 := ⟨by have := k.1; omega, fun b hb => k.2 b (by omega)⟩
                cases hg : ground u with
                | true =>
                  rw [hg] at h
                  cases h
                  exact ⟨FN.gc0 (R := fun v1 => v1 = _) (hend (fun i hi => hne i hi) q hu _ ⟨rfl, hg, k.split⟩), Keep.refl hl⟩
                | false =>
                  rw [hg] at h
                  cases h
                  exact ⟨hend (fun i hi => hne i hi) q hu _ ⟨rfl, rfl⟩, kk⟩
              · cases h
            · cases h
      · cases h
theorem noO {P : Program} : CallOk P (fun _ _ _ => none) := by intro g args H v H' h; cases h
theorem VRs.ground {i : Inj} : ∀ {l : List Value}, l.all ground = true → VRs i l l
  | [], _ => .nil
  | v :: l, h => by
    simp only [List.all_cons, Bool.and_eq_true] at h
    exact .cons (VR.of_ground h.1 i) (VRs.ground h.2)
theorem FSim.frame {P : Program} {f : FuncId} {args : List Value} {v v2 : Value} {J J2 : AH} (hg : args.all ground = true) (h : FSim P f args [] v J) (H : AH)
    (hv : VR (hat fun b => if H.length ≤ b then some (b - H.length) else none) v2 v) (hlen : J2.length = J.length)
    (hJ : ∀ (k : Nat) x, J[k]? = some x → ∃ x2, J2[k]? = some x2 ∧ AR (fun b => if H.length ≤ b then some (b - H.length) else none) x2 x) : FSim P f args H v2 (H ++ J2) := by
  intro i w args' hr ha cs
  have hrel : Rel (fun _ => none) [] w := ⟨(fun b => by simp), (fun b L x h => by cases h), (fun _ _ _ _ _ _ h => by cases h)⟩
  have hga : VRs (fun _ => none) args args' := by
    clear h
    induction ha with
    | nil => exact .nil
    | cons x _ ih =>
      simp only [List.all_cons, Bool.and_eq_true] at hg
      refine .cons ?_ (ih hg.2)
      have h1 := VR.of_ground hg.1 (fun _ => none)
      have h2 := (h1.old (σ := fun _ => none) (fun b L h => by cases h)).cmp x
      exact h2.mono (fun b L e => by simp [cmp] at e)
  obtain ⟨i', w', v', fr, e, g, q1, q2, q3, q4⟩ := h _ w args' hrel hga cs
  generalize hσ : (fun b => if H.length ≤ b then some (b - H.length) else none : Nat → Option Nat) = σ at hv hJ
  have hs : ∀ b, H.length ≤ b → σ b = some (b - H.length) := fun b hb => by rw [← hσ]; simp [hb]
  have hs0 : ∀ b, b < H.length → σ b = none := fun b hb => by rw [← hσ]; simp [Nat.not_le.2 hb]
  let i2 : Inj := fun b => if b < H.length then i b else cmp σ i' b
  have hle : (cmp σ i').le i2 := by
    intro b L hb
    have : ¬ b < H.length := fun hlt => by simp [cmp, hs0 b hlt] at hb
    simp only [i2, if_neg this]
    exact hb
  have hle2 : i.le i2 := by
    intro b L hb
    have := hr.dom b L hb
    simp only [i2, if_pos this]
    exact hb
  have hold : ∀ c, c < w.heap.size → w'.heap[c]? = w.heap[c]? := fun c hc => e.frame c hc (fun b L x h => by cases h)
  have hnew : ∀ b L, ¬ b < H.length → i2 b = some L → ∃ k, b = H.length + k ∧ i' k = some L := by
    intro b L hb h
    simp only [i2, if_neg hb] at h
    simp only [cmp, hs b (by omega), Option.bind_some] at h
    exact ⟨b - H.length, by omega, h⟩
  have hk : ∀ k L, i' k = some L → ∃ x x2, J[k]? = some x ∧ J2[k]? = some x2 ∧ AR σ x2 x ∧ w.heap.size ≤ L.blk := by
    intro k L hk
    have hlt := g.dom k L hk
    obtain ⟨x2, p1, p2⟩ := hJ k _ (List.getElem?_eq_getElem hlt)
    refine ⟨_, x2, List.getElem?_eq_getElem hlt, p1, p2, ?_⟩
    rcases e.fresh k L hk with h | ⟨_, h | ⟨b0, L0, x0, h, _⟩⟩
    · cases h
    · exact h
    · cases h
  refine ⟨i2, w', v', fr, ⟨hr.dom, hle2, e.os, e.tape, e.output, e.size, by simp, fun b x' hb hx ho => ?_, fun c hc _ => hold c hc, fun b hb _ => List.getElem?_append_left hb, fun b L hb => ?_⟩, ⟨fun b L hb => ?_, fun b L x hb hx => ?_, fun b1 b2 L1 L2 x1 x2 f1 f2 g1 g2 o1 l2 hL => ?_⟩, (hv.cmp q1).mono hle, q2, q3, q4⟩
  · rw [List.getElem?_append_left hb] at hx
    exact ⟨x', hx, ho⟩
  · by_cases hbl : b < H.length
    · simp only [i2, if_pos hbl] at hb; exact .inl hb
    · obtain ⟨k, rfl, hk'⟩ := hnew b L hbl hb
      obtain ⟨_, _, _, _, _, hsz⟩ := hk k L hk'
      exact .inr ⟨by omega, .inl hsz⟩
  · by_cases hbl : b < H.length
    · simp; omega
    · obtain ⟨k, rfl, hk'⟩ := hnew b L hbl hb
      have := g.dom k L hk'
      simp; omega
  · by_cases hbl : b < H.length
    · simp only [i2, if_pos hbl] at hb
      rw [List.getElem?_append_left hbl] at hx
      have hB := hr.blk b L x hb hx
      by_cases hl : x.live = true
      · exact (hB.heap (hold _ (hB.lt hl))).mono hle2
      · cases x <;> simp [AB.live] at hl
        trivial
    · obtain ⟨k, rfl, hk'⟩ := hnew b L hbl hb
      rw [get_new] at hx
      obtain ⟨y, y2, p1, p2, p3, _⟩ := hk k L hk'
      rw [hx] at p2; cases p2
      exact (p3.blk (g.blk k L y hk' p1)).mono hle
  · by_cases hb1 : b1 < H.length <;> by_cases hb2 : b2 < H.length
    · simp only [i2, if_pos hb1] at f1
      simp only [i2, if_pos hb2] at f2
      rw [List.getElem?_append_left hb1] at g1
      rw [List.getElem?_append_left hb2] at g2
      exact hr.inj b1 b2 L1 L2 x1 x2 f1 f2 g1 g2 o1 l2 hL
    · simp only [i2, if_pos hb1] at f1
      rw [List.getElem?_append_left hb1] at g1
      have hB := hr.blk b1 L1 x1 f1 g1
      have := hB.lt (AB.owned_live o1)
      obtain ⟨k, rfl, hk'⟩ := hnew b2 L2 hb2 f2
      obtain ⟨_, _, _, _, _, hsz⟩ := hk k L2 hk'
      omega
    · simp only [i2, if_pos hb2] at f2
      rw [List.getElem?_append_left hb2] at g2
      have hB := hr.blk b2 L2 x2 f2 g2
      have := hB.lt l2
      obtain ⟨k, rfl, hk'⟩ := hnew b1 L1 hb1 f1
      obtain ⟨_, _, _, _, _, hsz⟩ := hk k L1 hk'
      omega
    · obtain ⟨k, rfl, hk'⟩ := hnew b1 L1 hb1 f1
      obtain ⟨m, rfl, hm'⟩ := hnew b2 L2 hb2 f2
      rw [get_new] at g1 g2
      obtain ⟨y1, z1, p1, p2, p3, _⟩ := hk k L1 hk'
      obtain ⟨y2, z2, r1, r2, r3, _⟩ := hk m L2 hm'
      rw [g1] at p2; cases p2
      rw [g2] at r2; cases r2
      have := g.inj k m L1 L2 y1 y2 hk' hm' p1 r1 (p3.owned ▸ o1) (r3.live ▸ l2) hL
      omega
end Go.Sim

namespace Go.Sim
open Go
class Kb (α : Type) where
  f : α
def bindO (o : Option Value) [k : Kb (Value → Prop)] : Prop := ∃ v, o = some v ∧ k.f v
def bindP (o : Option (Value × AH)) [k : Kb (Value → AH → Prop)] : Prop := ∃ v H, o = some (v, H) ∧ k.f v H
def bindN (o : Option (List Value × TypeId × (Nat → Value))) [k : Kb (List Value → TypeId → (Nat → Value) → Prop)] : Prop := ∃ c e mk, o = some (c, e, mk) ∧ k.f c e mk
def bindU (o : Option AH) [k : Kb (AH → Prop)] : Prop := ∃ H, o = some H ∧ k.f H
def bindL (o : Option (List Value)) [k : Kb (List Value → Prop)] : Prop := ∃ H, o = some H ∧ k.f H
def letV (v : Value) [k : Kb (Value → Prop)] : Prop := k.f v
def letH (H : AH) [k : Kb (AH → Prop)] : Prop := k.f H
def condK (v : Value) [k : Kb (Bool → Prop)] : Prop := ∃ t, v = .bool t ∧ k.f t
def guardK (b : Bool) [k : Kb (Bool → Prop)] : Prop := k.f b
def pickK (v x y : Value) [k : Kb (Value → Prop)] : Prop := ∃ t, v = .bool t ∧ k.f (if t then x else y)
def XZ (P : Program) (n : Nat) (ro : Option Nat) (c : XC) [s : Kb St] [H : Kb AH] [Q : Kb (AX → St → AH → Prop)] : Prop := X P n ro c s.f H.f Q.f
def SZ (P : Program) (l : List XS) [D : Kb (List PL)] [s : Kb St] [H : Kb AH] [K : Kb (St → AH → Prop)] : Prop := stepsX P l D.f s.f H.f K.f
def callZ (P : Program) (vs : List Value) (H : AH) [R : Kb (Value → AH → Prop)] : Prop := callX P vs H R.f
def FZ (P : Program) (g : FuncId) (args : List Value) (H : AH) [R : Kb (Value → AH → Prop)] : Prop := FN P g args H R.f
def YZ (P : Program) (g : Nat) (args : List Value) (H : AH) [R : Kb (Value → AH → Prop)] : Prop := YN P g args H R.f
def LZ (P : Program) (n : Nat) (ro : Option Nat) (c : XC) [s : Kb St] [H : Kb AH] [Q : Kb (AX → St → AH → Prop)] : Prop := loopX (X P n ro c) s.f H.f Q.f
def EZ (Q : AX → St → AH → Prop) (x : AX) (s : St) (H : AH) : Prop := Q x s H
theorem bindO_some {v : Value} {k : Value → Prop} : @bindO (some v) ⟨k⟩ = k v := by simp [bindO]
theorem bindP_some {v : Value} {H : AH} {k : Value → AH → Prop} : @bindP (some (v, H)) ⟨k⟩ = k v H := ex_pair
theorem bindN_some {c : List Value} {e : TypeId} {mk : Nat → Value} {k : List Value → TypeId → (Nat → Value) → Prop} : @bindN (some (c, e, mk)) ⟨k⟩ = k c e mk := ex_trip
theorem bindU_some {H : AH} {k : AH → Prop} : @bindU (some H) ⟨k⟩ = k H := by simp [bindU]
theorem bindL_some {H : List Value} {k : List Value → Prop} : @bindL (some H) ⟨k⟩ = k H := by simp [bindL]
theorem letV_eq {v : Value} {k : Value → Prop} : @letV v ⟨k⟩ = k v := _root_.id rfl
theorem letH_eq {H : AH} {k : AH → Prop} : @letH H ⟨k⟩ = k H := _root_.id rfl
theorem condK_bool {b : Bool} {k : Bool → Prop} : @condK (.bool b) ⟨k⟩ = @guardK b ⟨k⟩ := by simp [condK, guardK]
theorem guardK_true {k : Bool → Prop} : @guardK true ⟨k⟩ = k true := _root_.id rfl
theorem guardK_false {k : Bool → Prop} : @guardK false ⟨k⟩ = k false := _root_.id rfl
theorem pickK_true {x y : Value} {k : Value → Prop} : @pickK (.bool true) x y ⟨k⟩ = k x := by simp [pickK]
theorem pickK_false {x y : Value} {k : Value → Prop} : @pickK (.bool false) x y ⟨k⟩ = k y := by simp [pickK]
section
variable {P : Program} {n : Nat} {ro : Option Nat} {s : St} {H : AH} {Q : AX → St → AH → Prop} {K : St → AH → Prop} {l : List XS} {D : List PL} {g : Option (Tmp × Bool)} {xs : List Operand} {d : Option Tmp} {j : Nat} {kp : Bool} {chk : List Nat} {a b c : Operand} {x : XO}
theorem X0_skip : @XZ P n ro (.skip) ⟨s⟩ ⟨H⟩ ⟨Q⟩ = EZ Q .normal s H := _root_.id rfl
theorem X0_exit {id : Nat} : @XZ P n ro (.exit id) ⟨s⟩ ⟨H⟩ ⟨Q⟩ = EZ Q (.exit id) s H := _root_.id rfl
theorem X0_ret : @XZ P n ro (.ret) ⟨s⟩ ⟨H⟩ ⟨Q⟩ = EZ Q .ret s H := _root_.id rfl
theorem X0_seq {a b : XC} : @XZ P n ro (.seq a b) ⟨s⟩ ⟨H⟩ ⟨Q⟩ = @XZ P n ro a ⟨s⟩ ⟨H⟩ ⟨AX.then (fun s H => @XZ P n ro b ⟨s⟩ ⟨H⟩ ⟨Q⟩) Q⟩ := _root_.id rfl
theorem X0_cond {c : Operand} {a b : XC} : @XZ P n ro (.cond c a b) ⟨s⟩ ⟨H⟩ ⟨Q⟩ = @condK (ev s c) ⟨fun t => if t = true then @XZ P n ro a ⟨s⟩ ⟨H⟩ ⟨Q⟩ else @XZ P n ro b ⟨s⟩ ⟨H⟩ ⟨Q⟩⟩ := _root_.id rfl
theorem X0_block {id : Nat} {a : XC} : @XZ P n ro (.block id a) ⟨s⟩ ⟨H⟩ ⟨Q⟩ = @XZ P n ro a ⟨s⟩ ⟨H⟩ ⟨AX.inBlock id Q⟩ := _root_.id rfl
theorem X0_loop {a : XC} : @XZ P n ro (.loop a) ⟨s⟩ ⟨H⟩ ⟨Q⟩ = @LZ P n ro a ⟨s⟩ ⟨H⟩ ⟨Q⟩ := _root_.id rfl
theorem X0_reg {l : List XS} : @XZ P n ro (.reg l) ⟨s⟩ ⟨H⟩ ⟨Q⟩ = @SZ P l ⟨[]⟩ ⟨s⟩ ⟨H⟩ ⟨Q .normal⟩ := _root_.id rfl
theorem E_then_normal {Q : AX → St → AH → Prop} : EZ (AX.then K Q) .normal s H = K s H := _root_.id rfl
theorem E_then_exit {Q : AX → St → AH → Prop} {id : Nat} : EZ (AX.then K Q) (.exit id) s H = EZ Q (.exit id) s H := _root_.id rfl
theorem E_then_ret {Q : AX → St → AH → Prop} : EZ (AX.then K Q) .ret s H = EZ Q .ret s H := _root_.id rfl
theorem E_inBlock_normal {id : Nat} : EZ (AX.inBlock id Q) .normal s H = EZ Q .normal s H := _root_.id rfl
theorem E_inBlock_exit {id i : Nat} : EZ (AX.inBlock id Q) (.exit i) s H = if i = id then EZ Q .normal s H else EZ Q (.exit i) s H := _root_.id rfl
theorem E_inBlock_ret {id : Nat} : EZ (AX.inBlock id Q) .ret s H = EZ Q .ret s H := _root_.id rfl
theorem E_normal {res : List XRes} {R : Value → AH → Prop} : EZ (bodyX res R) .normal s H = @bindU (unwA s.ds H) ⟨fun H' => @bindO (xress H' s res) ⟨fun v => R v H'⟩⟩ := bodyX_normal
theorem E_ret {res : List XRes} {R : Value → AH → Prop} : EZ (bodyX res R) .ret s H = @bindU (unwA s.ds H) ⟨fun H' => @bindO (xress H' s res) ⟨fun v => R v H'⟩⟩ := bodyX_ret
theorem S0_nil {Q : AX → St → AH → Prop} : @SZ P [] ⟨D⟩ ⟨s⟩ ⟨H⟩ ⟨Q .normal⟩ = EZ Q .normal s H := _root_.id rfl
theorem S0_guardT {t : Tmp} : @SZ P (⟨some (t, true), x, xs, d, j, kp, chk⟩ :: l) ⟨D⟩ ⟨s⟩ ⟨H⟩ ⟨K⟩ = @guardK (asB (s.env t)) ⟨fun q => if q = true then @SZ P (⟨none, x, xs, d, j, kp, chk⟩ :: l) ⟨D⟩ ⟨s⟩ ⟨H⟩ ⟨K⟩ else @SZ P l ⟨D⟩ ⟨s.put d undef⟩ ⟨H⟩ ⟨K⟩⟩ := by
  refine (steps_guardI (P := P) (t := t) (w := true)).trans ?_
  rw [wantX_true]; rfl
theorem S0_guardF {t : Tmp} : @SZ P (⟨some (t, false), x, xs, d, j, kp, chk⟩ :: l) ⟨D⟩ ⟨s⟩ ⟨H⟩ ⟨K⟩ = @guardK (asNB (s.env t)) ⟨fun q => if q = true then @SZ P (⟨none, x, xs, d, j, kp, chk⟩ :: l) ⟨D⟩ ⟨s⟩ ⟨H⟩ ⟨K⟩ else @SZ P l ⟨D⟩ ⟨s.put d undef⟩ ⟨H⟩ ⟨K⟩⟩ := by
  refine (steps_guardI (P := P) (t := t) (w := false)).trans ?_
  rw [wantX_false]; rfl
theorem S0_mov : @SZ P (⟨none, .mov, [a], d, j, kp, chk⟩ :: l) ⟨D⟩ ⟨s⟩ ⟨H⟩ ⟨K⟩ = @letV (ev s a) ⟨fun v => @SZ P l ⟨D⟩ ⟨s.put d v⟩ ⟨H⟩ ⟨K⟩⟩ := _root_.id steps_mov
theorem S0_pick : @SZ P (⟨none, .pick, [c, a, b], d, j, kp, chk⟩ :: l) ⟨D⟩ ⟨s⟩ ⟨H⟩ ⟨K⟩ = @pickK (ev s c) (ev s a) (ev s b) ⟨fun v => @SZ P l ⟨D⟩ ⟨s.put d v⟩ ⟨H⟩ ⟨K⟩⟩ := steps_pick
theorem S0_lenA {n : Nat} : @SZ P (⟨none, .lenA n, [a], d, j, kp, chk⟩ :: l) ⟨D⟩ ⟨s⟩ ⟨H⟩ ⟨K⟩ = @SZ P l ⟨D⟩ ⟨s.put d (nv n)⟩ ⟨H⟩ ⟨K⟩ := steps_lenA
theorem S0_bld {init : List Value} {pl : List (Nat × Nat)} : @SZ P (⟨none, .bld init pl, xs, d, j, kp, chk⟩ :: l) ⟨D⟩ ⟨s⟩ ⟨H⟩ ⟨K⟩ = @bindL (xfill init pl (xs.map (ev s))) ⟨fun v => @SZ P l ⟨D⟩ ⟨s.put d (.agg v.toArray)⟩ ⟨H⟩ ⟨K⟩⟩ := steps_bld
theorem S0_ldF {sz : Option Nat} : @SZ P (⟨none, .ld sz, [a], d, j, false, chk⟩ :: l) ⟨D⟩ ⟨s⟩ ⟨H⟩ ⟨K⟩ = @bindO (xload sz H [ev s a]) ⟨fun v => @SZ P l ⟨D⟩ ⟨s.put d v⟩ ⟨H⟩ ⟨K⟩⟩ := by
  unfold SZ; rw [steps_ld]; rfl
theorem S0_ldT {sz : Option Nat} : @SZ P (⟨none, .ld sz, [a], d, j, true, chk⟩ :: l) ⟨D⟩ ⟨s⟩ ⟨H⟩ ⟨K⟩ = @bindO (xload sz H [ev s a]) ⟨fun v => @SZ P l ⟨⟨j, sz, [ev s a], v⟩ :: D⟩ ⟨s.put d v⟩ ⟨H⟩ ⟨K⟩⟩ := by
  unfold SZ; rw [steps_ld]; rfl
theorem S0_new {c : List Value} {e : TypeId} : @SZ P (⟨none, .new c e, [], d, j, kp, []⟩ :: l) ⟨D⟩ ⟨s⟩ ⟨H⟩ ⟨K⟩ = @letV (.pointer (some ⟨H.length, 0, none⟩)) ⟨fun v => @letH (H ++ [.cells c e none false]) ⟨fun H' => @SZ P l ⟨D⟩ ⟨s.put d v⟩ ⟨H'⟩ ⟨K⟩⟩⟩ := by
  unfold SZ; rw [steps_new, chkX_nil]; simp [letH, letV]
theorem S0_box {e : TypeId} : @SZ P (⟨none, .box e, [a], d, j, kp, []⟩ :: l) ⟨D⟩ ⟨s⟩ ⟨H⟩ ⟨K⟩ = @letV (.pointer (some ⟨H.length, 0, none⟩)) ⟨fun v => @letH (H ++ [.cells (cellsL (ev s a)) e none false]) ⟨fun H' => @SZ P l ⟨D⟩ ⟨s.put d v⟩ ⟨H'⟩ ⟨K⟩⟩⟩ := by
  unfold SZ; rw [steps_box, chkX_nil]; simp [letH, letV]
theorem S0_make {z : Value} {sz bytes : Nat} {e : TypeId} : @SZ P (⟨none, .make z sz bytes e, [a, b], d, j, kp, []⟩ :: l) ⟨D⟩ ⟨s⟩ ⟨H⟩ ⟨K⟩ = @bindN (xnew (.make z sz bytes e) [ev s a, ev s b]) ⟨fun c e' mk => @letV (mk H.length) ⟨fun v => @letH (H ++ [.cells c e' none false]) ⟨fun H' => @SZ P l ⟨D⟩ ⟨s.put d v⟩ ⟨H'⟩ ⟨K⟩⟩⟩⟩ := by
  unfold SZ; rw [steps_make]; simp only [chkX_nil, true_and]; rfl
theorem S0_bsl {init : List Value} {len : Nat} {pl : List (Nat × Nat)} {e : TypeId} : @SZ P (⟨none, .bsl init len pl e, xs, d, j, kp, []⟩ :: l) ⟨D⟩ ⟨s⟩ ⟨H⟩ ⟨K⟩ = @bindL (xfill init pl (xs.map (ev s))) ⟨fun c => @letV (.slice (some ⟨H.length, 0, none⟩) len len) ⟨fun v => @letH (H ++ [.cells c e none false]) ⟨fun H' => @SZ P l ⟨D⟩ ⟨s.put d v⟩ ⟨H'⟩ ⟨K⟩⟩⟩⟩ := by
  unfold SZ; rw [steps_bsl]; simp only [chkX_nil, true_and]; rfl
theorem S0_st {sz : Nat} : @SZ P (⟨none, .st sz, [a, b], d, j, kp, []⟩ :: l) ⟨D⟩ ⟨s⟩ ⟨H⟩ ⟨K⟩ = @bindP (xact (.st sz) H [ev s a, ev s b]) ⟨fun v H' => @SZ P l ⟨D⟩ ⟨s.put d v⟩ ⟨H'⟩ ⟨K⟩⟩ := by
  unfold SZ; rw [steps_st]; simp only [chkX_nil, true_and]; rfl
theorem S0_app {e : TypeId} {sz bytes : Nat} : @SZ P (⟨none, .app e sz bytes, [a, b], d, j, kp, []⟩ :: l) ⟨D⟩ ⟨s⟩ ⟨H⟩ ⟨K⟩ = @bindP (xact (.app e sz bytes) H [ev s a, ev s b]) ⟨fun v H' => @SZ P l ⟨D⟩ ⟨s.put d v⟩ ⟨H'⟩ ⟨K⟩⟩ := by
  unfold SZ; rw [steps_app]; simp only [chkX_nil, true_and]; rfl
theorem S0_appC {e : TypeId} {sz bytes c : Nat} {cs : List Nat} : @SZ P (⟨none, .app e sz bytes, [a, b], d, j, kp, c :: cs⟩ :: l) ⟨D⟩ ⟨s⟩ ⟨H⟩ ⟨K⟩ = @bindP (xact (.app e sz bytes) H [ev s a, ev s b]) ⟨fun v H' => chkX (c :: cs) D H' ∧ @SZ P l ⟨D⟩ ⟨s.put d v⟩ ⟨H'⟩ ⟨K⟩⟩ := steps_app
theorem S0_stC {sz c : Nat} {cs : List Nat} : @SZ P (⟨none, .st sz, [a, b], d, j, kp, c :: cs⟩ :: l) ⟨D⟩ ⟨s⟩ ⟨H⟩ ⟨K⟩ = @bindP (xact (.st sz) H [ev s a, ev s b]) ⟨fun v H' => chkX (c :: cs) D H' ∧ @SZ P l ⟨D⟩ ⟨s.put d v⟩ ⟨H'⟩ ⟨K⟩⟩ := steps_st
theorem chkX_D0 {c : List Nat} : chkX c [] H = True := by simp [chkX]
theorem chkX_D1 {c : List Nat} {j : Nat} {sz : Option Nat} {vs : List Value} {v : Value} : chkX c (⟨j, sz, vs, v⟩ :: D) H = ((j ∈ c → xload sz H vs = some v) ∧ chkX c D H) := by simp [chkX]
theorem S0_call {f : Operand} : @SZ P (⟨none, .call, f :: xs, d, j, kp, []⟩ :: l) ⟨D⟩ ⟨s⟩ ⟨H⟩ ⟨K⟩ = @callZ P (ev s f :: xs.map (ev s)) H ⟨fun v H' => @SZ P l ⟨D⟩ ⟨s.put d v⟩ ⟨H'⟩ ⟨K⟩⟩ := by
  unfold SZ callZ; rw [steps_call]; simp only [chkX_nil, true_and]
theorem S0_callC {f : Operand} {c : Nat} {cs : List Nat} : @SZ P (⟨none, .call, f :: xs, d, j, kp, c :: cs⟩ :: l) ⟨D⟩ ⟨s⟩ ⟨H⟩ ⟨K⟩ = @callZ P (ev s f :: xs.map (ev s)) H ⟨fun v H' => chkX (c :: cs) D H' ∧ @SZ P l ⟨D⟩ ⟨s.put d v⟩ ⟨H'⟩ ⟨K⟩⟩ := steps_call
theorem callZ_f {g : FuncId} {args : List Value} {R : Value → AH → Prop} : @callZ P (.func (.func g) #[] #[] :: args) H ⟨R⟩ = @FZ P g args H ⟨R⟩ := callX_f
theorem callZ_y {g : Nat} {args : List Value} {R : Value → AH → Prop} : @callZ P (.func (.yield g) #[] #[] :: args) H ⟨R⟩ = @YZ P g args H ⟨R⟩ := callX_y
theorem S0_bin {op : BinOp} {m : Nat} : @SZ P (⟨none, .bin op m, [a, b], d, j, kp, chk⟩ :: l) ⟨D⟩ ⟨s⟩ ⟨H⟩ ⟨K⟩ = @bindO (xbin op m (ev s a) (ev s b)) ⟨fun v => @SZ P l ⟨D⟩ ⟨s.put d v⟩ ⟨H⟩ ⟨K⟩⟩ := steps_bin
theorem S0_un {op : UnOp} : @SZ P (⟨none, .un op, [a], d, j, kp, chk⟩ :: l) ⟨D⟩ ⟨s⟩ ⟨H⟩ ⟨K⟩ = @bindO (eun op (ev s a)) ⟨fun v => @SZ P l ⟨D⟩ ⟨s.put d v⟩ ⟨H⟩ ⟨K⟩⟩ := steps_un
theorem S0_conv {k : IntKind} : @SZ P (⟨none, .conv k, [a], d, j, kp, chk⟩ :: l) ⟨D⟩ ⟨s⟩ ⟨H⟩ ⟨K⟩ = @bindO (xpure (.conv k) [ev s a]) ⟨fun v => @SZ P l ⟨D⟩ ⟨s.put d v⟩ ⟨H⟩ ⟨K⟩⟩ := steps_conv
theorem S0_ext {ix : Nat} : @SZ P (⟨none, .ext ix, [a], d, j, kp, chk⟩ :: l) ⟨D⟩ ⟨s⟩ ⟨H⟩ ⟨K⟩ = @bindO (xpure (.ext ix) [ev s a]) ⟨fun v => @SZ P l ⟨D⟩ ⟨s.put d v⟩ ⟨H⟩ ⟨K⟩⟩ := steps_ext
theorem S0_fld {off : Nat} : @SZ P (⟨none, .fld off, [a], d, j, kp, chk⟩ :: l) ⟨D⟩ ⟨s⟩ ⟨H⟩ ⟨K⟩ = @bindO (xpure (.fld off) [ev s a]) ⟨fun v => @SZ P l ⟨D⟩ ⟨s.put d v⟩ ⟨H⟩ ⟨K⟩⟩ := steps_fld
theorem S0_ixA {n sz : Nat} : @SZ P (⟨none, .ixA n sz, [a, b], d, j, kp, chk⟩ :: l) ⟨D⟩ ⟨s⟩ ⟨H⟩ ⟨K⟩ = @bindO (xpure (.ixA n sz) [ev s a, ev s b]) ⟨fun v => @SZ P l ⟨D⟩ ⟨s.put d v⟩ ⟨H⟩ ⟨K⟩⟩ := steps_ixA
theorem S0_ixS {sz : Nat} : @SZ P (⟨none, .ixS sz, [a, b], d, j, kp, chk⟩ :: l) ⟨D⟩ ⟨s⟩ ⟨H⟩ ⟨K⟩ = @bindO (xpure (.ixS sz) [ev s a, ev s b]) ⟨fun v => @SZ P l ⟨D⟩ ⟨s.put d v⟩ ⟨H⟩ ⟨K⟩⟩ := steps_ixS
theorem S0_slA {n sz : Nat} {lo hi : Bool} : @SZ P (⟨none, .slA n sz lo hi, xs, d, j, kp, chk⟩ :: l) ⟨D⟩ ⟨s⟩ ⟨H⟩ ⟨K⟩ = @bindO (xpure (.slA n sz lo hi) (xs.map (ev s))) ⟨fun v => @SZ P l ⟨D⟩ ⟨s.put d v⟩ ⟨H⟩ ⟨K⟩⟩ := steps_slA
theorem S0_slS {sz : Nat} {lo hi : Bool} : @SZ P (⟨none, .slS sz lo hi, xs, d, j, kp, chk⟩ :: l) ⟨D⟩ ⟨s⟩ ⟨H⟩ ⟨K⟩ = @bindO (xpure (.slS sz lo hi) (xs.map (ev s))) ⟨fun v => @SZ P l ⟨D⟩ ⟨s.put d v⟩ ⟨H⟩ ⟨K⟩⟩ := steps_slS
theorem S0_fn {g : FuncId} {nf nc : Nat} : @SZ P (⟨none, .fn g nf nc, xs, d, j, kp, chk⟩ :: l) ⟨D⟩ ⟨s⟩ ⟨H⟩ ⟨K⟩ = @bindO (xpure (.fn g nf nc) (xs.map (ev s))) ⟨fun v => @SZ P l ⟨D⟩ ⟨s.put d v⟩ ⟨H⟩ ⟨K⟩⟩ := steps_fn
theorem S0_lenS  : @SZ P (⟨none, .lenS, [a], d, j, kp, chk⟩ :: l) ⟨D⟩ ⟨s⟩ ⟨H⟩ ⟨K⟩ = @bindO (xpure .lenS [ev s a]) ⟨fun v => @SZ P l ⟨D⟩ ⟨s.put d v⟩ ⟨H⟩ ⟨K⟩⟩ := steps_lenS
theorem S0_lenT  : @SZ P (⟨none, .lenT, [a], d, j, kp, chk⟩ :: l) ⟨D⟩ ⟨s⟩ ⟨H⟩ ⟨K⟩ = @bindO (xpure .lenT [ev s a]) ⟨fun v => @SZ P l ⟨D⟩ ⟨s.put d v⟩ ⟨H⟩ ⟨K⟩⟩ := steps_lenT
theorem S0_min2  : @SZ P (⟨none, .min2, [a, b], d, j, kp, chk⟩ :: l) ⟨D⟩ ⟨s⟩ ⟨H⟩ ⟨K⟩ = @bindO (xpure .min2 [ev s a, ev s b]) ⟨fun v => @SZ P l ⟨D⟩ ⟨s.put d v⟩ ⟨H⟩ ⟨K⟩⟩ := steps_min2
theorem S0_max2  : @SZ P (⟨none, .max2, [a, b], d, j, kp, chk⟩ :: l) ⟨D⟩ ⟨s⟩ ⟨H⟩ ⟨K⟩ = @bindO (xpure .max2 [ev s a, ev s b]) ⟨fun v => @SZ P l ⟨D⟩ ⟨s.put d v⟩ ⟨H⟩ ⟨K⟩⟩ := steps_max2
theorem S0_prt {sz : Option Nat} {off : Nat} : @SZ P (⟨none, .prt sz off, [a], d, j, kp, chk⟩ :: l) ⟨D⟩ ⟨s⟩ ⟨H⟩ ⟨K⟩ = @bindO (xpure (.prt sz off) [ev s a]) ⟨fun v => @SZ P l ⟨D⟩ ⟨s.put d v⟩ ⟨H⟩ ⟨K⟩⟩ := steps_prt
theorem S0_ixV {len es : Nat} {sz : Option Nat} : @SZ P (⟨none, .ixV len es sz, [a, b], d, j, kp, chk⟩ :: l) ⟨D⟩ ⟨s⟩ ⟨H⟩ ⟨K⟩ = @bindO (xpure (.ixV len es sz) [ev s a, ev s b]) ⟨fun v => @SZ P l ⟨D⟩ ⟨s.put d v⟩ ⟨H⟩ ⟨K⟩⟩ := steps_ixV
end
theorem FN.of_compZ {P : Program} (hm : P.follows .mixedOrders = true) {f : FuncId} {xf : XF} (hf : compF P f = some xf) {args : List Value} {H : AH} {R : Value → AH → Prop} (hn : args.length ≤ xf.n)
    (h : @XZ P xf.n none xf.body ⟨⟨env0 args, []⟩⟩ ⟨H⟩ ⟨bodyX xf.res R⟩) : FN P f args H R := FN.of_comp hm hf hn h
theorem FZ.mono {P : Program} {g : FuncId} {args : List Value} {H : AH} {R R' : Value → AH → Prop} (h : FN P g args H R) (hR : ∀ v H', R v H' → R' v H') : @FZ P g args H ⟨R'⟩ := FN.mono h hR
theorem FZ.use {P : Program} {g : FuncId} {args : List Value} {H H' : AH} {v : Value} {R : Value → AH → Prop} (h : FN P g args H (fun v1 H1 => v1 = v ∧ H1 = H')) (hR : R v H') : @FZ P g args H ⟨R⟩ :=
  FN.mono h fun _ _ ⟨e1, e2⟩ => by rw [e1, e2]; exact hR
theorem LZ.nat {P : Program} {n : Nat} {ro : Option Nat} {c : XC} {s : St} {H : AH} {Q : AX → St → AH → Prop} (N : Nat) (I : Nat → St → AH → Prop) (h0 : I 0 s H)
    (hr : ∀ k s H, k < N → I k s H → @XZ P n ro c ⟨s⟩ ⟨H⟩ ⟨AX.then (I (k + 1)) Q⟩) (hN : ∀ s H, I N s H → @XZ P n ro c ⟨s⟩ ⟨H⟩ ⟨AX.then (fun _ _ => False) Q⟩) : @LZ P n ro c ⟨s⟩ ⟨H⟩ ⟨Q⟩ := loop_nat N I h0 hr hN
theorem LZ.ind {P : Program} {n : Nat} {ro : Option Nat} {c : XC} {s : St} {H : AH} {Q : AX → St → AH → Prop} (I : Nat → St → AH → Prop) (m : Nat) (h0 : I m s H)
    (hr : ∀ m s H, I m s H → @XZ P n ro c ⟨s⟩ ⟨H⟩ ⟨AX.then (fun s' H' => ∃ m', m' < m ∧ I m' s' H') Q⟩) : @LZ P n ro c ⟨s⟩ ⟨H⟩ ⟨Q⟩ := loop_ind I m h0 hr
end Go.Sim

namespace Go.Sim
open Go
theorem app_nv {H : AH} {e : TypeId} {bytes b b2 o2 n m c2 : Nat} {l l2 : List Nat} {cc : List Value} {e2 : TypeId} {opn op2 : Option Nat} {r2 : Bool} (hb : H[b]? = some (.cells (l.map nv) e opn false)) (hn : n = l.length) (hopn : opn = none ∨ opn = some 1)
    (hb2 : H[b2]? = some (.cells cc e2 op2 r2)) (hcc : (cc.drop o2).take m = l2.map nv) (hm : m = l2.length) (hm0 : 0 < m) (hfit : o2 + m ≤ cc.length) (hbig : (n + m) * bytes ≤ 140737488355328) (hbig2 : n + m ≤ 9223372036854775807) :
    ∃ H1, xact (.app e 1 bytes) H [.slice (some ⟨b, 0, none⟩) n n, .slice (some ⟨b2, o2, none⟩) m c2] = some (.slice (some ⟨H.length, 0, none⟩) (n + m) (n + m), H1 ++ [.cells ((l ++ l2).map nv) e (some 1) false]) ∧
      H1.length = H.length ∧ ∀ b', b' ≠ b → H1[b']? = H[b']? := by
  have hrow : erow H (.slice (some ⟨b2, o2, none⟩) m c2) (slen (.slice (some ⟨b2, o2, none⟩) m c2) * 1) = some (l2.map nv) := by
    simp only [erow, slen, hb2, Nat.mul_one]
    rw [if_pos hfit, hcc]
  have hone : (l2.map nv).all one = true := all_nv
  have hlen : (l.map nv).length = n := by simp [hn]
  rcases hopn with rfl | rfl
  · refine ⟨H, ?_, rfl, fun _ _ => rfl⟩
    simp only [xact, hrow]
    rw [if_pos ⟨by simpa [slen] using hbig, by simpa [slen] using hbig2, hone⟩]
    simp only [hb, slen]
    rw [if_neg (by omega), if_pos trivial, if_pos (by rw [hlen]; omega)]
    simp [hn, List.take_of_length_le]
  · refine ⟨H.set b .dead, ?_, by simp, fun b' hb' => List.getElem?_set_ne (Ne.symm hb')⟩
    simp only [xact, hrow]
    rw [if_pos ⟨by simpa [slen] using hbig, by simpa [slen] using hbig2, hone⟩]
    simp only [hb, slen]
    rw [if_neg (by omega), if_neg (by simp), if_pos (by simp [hlen])]
    simp
theorem hat_slice {σ : Nat → Option Nat} {b2 b o l c : Nat} (h : σ b2 = some b) : VR (hat σ) (.slice (some ⟨b2, o, none⟩) l c) (.slice (some ⟨b, o, none⟩) l c) := by
  have := VR.slice (i := hat σ) (a := ⟨b2, o, none⟩) (L := ⟨b, 0, 0, 0⟩) (l := l) (c := c) (by simp [hat, h]) rfl (.inl rfl)
  simpa using this
theorem AR_nv {σ : Nat → Option Nat} {l : List Nat} {e : TypeId} {o : Option Nat} {r : Bool} : AR σ (.cells (l.map nv) e o r) (.cells (l.map nv) e o r) :=
  .cells e o r (VRs.ground (by simp [ground, scal]))
theorem gc1_nv {H H1 : AH} {b l c : Nat} {ns : List Nat} {e : TypeId} {o : Option Nat} {r : Bool} (hb : H.length ≤ b) (hx : H1[b]? = some (.cells (ns.map nv) e o r)) (hk : Keep H.length H H1) {v : Value} (hv : v = .slice (some ⟨b, 0, none⟩) l c) :
    ∃ J k v2 x, H1 = H ++ J ∧ J[k]? = some x ∧ (∀ σ, (∀ b, b < H.length → σ b = some b) → σ H.length = some (H.length + k) → VR (hat σ) v2 v ∧ AR σ x x) ∧
      v2 = .slice (some ⟨H.length, 0, none⟩) l c ∧ x = .cells (ns.map nv) e o r := by
  obtain ⟨J, rfl⟩ := hk.split
  obtain ⟨k, rfl⟩ : ∃ k, b = H.length + k := ⟨b - H.length, by omega⟩
  rw [get_new] at hx
  subst hv
  exact ⟨J, k, _, _, rfl, hx, fun σ _ h => ⟨hat_slice h, AR_nv⟩, rfl, rfl⟩
theorem Keep.step {lo b : Nat} {H H1 H2 Y Z : AH} (hk : Keep lo H H1) (hb : lo ≤ b) (hl : H2.length = (H1 ++ Y).length) (hk2 : ∀ b', b' ≠ b → H2[b']? = (H1 ++ Y)[b']?) : Keep lo H (H2 ++ Z) := by
  have h1 := hk.1
  have h2 : H2.length = H1.length + Y.length := by simpa using hl
  refine ⟨by simp; omega, fun n hn => ?_⟩
  rw [List.getElem?_append_left (by omega), hk2 n (by omega), List.getElem?_append_left (by omega)]
  exact hk.2 n hn
theorem app_none {H : AH} {e : TypeId} {bytes b b2 o2 n m c2 : Nat} {l l2 : List Nat} {cc : List Value} {e2 : TypeId} {op2 : Option Nat} {r2 : Bool} (hb : H[b]? = some (.cells (l.map nv) e none false)) (hn : n = l.length)
    (hb2 : H[b2]? = some (.cells cc e2 op2 r2)) (hcc : (cc.drop o2).take m = l2.map nv) (hm : m = l2.length) (hm0 : 0 < m) (hfit : o2 + m ≤ cc.length) (hbig : (n + m) * bytes ≤ 140737488355328) (hbig2 : n + m ≤ 9223372036854775807) :
    xact (.app e 1 bytes) H [.slice (some ⟨b, 0, none⟩) n n, .slice (some ⟨b2, o2, none⟩) m c2] = some (.slice (some ⟨H.length, 0, none⟩) (n + m) (n + m), H ++ [.cells ((l ++ l2).map nv) e (some 1) false]) := by
  have hrow : erow H (.slice (some ⟨b2, o2, none⟩) m c2) (slen (.slice (some ⟨b2, o2, none⟩) m c2) * 1) = some (l2.map nv) := by
    simp only [erow, slen, hb2, Nat.mul_one]
    rw [if_pos hfit, hcc]
  have hone : (l2.map nv).all one = true := all_nv
  have hlen : (l.map nv).length = n := by simp [hn]
  simp only [xact, hrow]
  rw [if_pos ⟨by simpa [slen] using hbig, by simpa [slen] using hbig2, hone⟩]
  simp only [hb, slen]
  rw [if_neg (by omega), if_pos trivial, if_pos (by rw [hlen]; omega)]
  simp [hn, List.take_of_length_le]
theorem xp_slShi {sz b o l c h : Nat} {k : IntKind} (hh : h ≤ c) : xpure (.slS sz false true) [.slice (some ⟨b, o, none⟩) l c, .int k h] = some (.slice (some ⟨b, o, none⟩) h c) := by
  simp [xpure, bnds]
  omega
theorem madeL_zero (n : Nat) : madeL (nv 0) n = (List.replicate n 0).map nv := by
  unfold madeL madeCells
  refine List.ext_getElem (by simp) fun i h1 h2 => ?_
  simp [Value.cells, Nat.mod_one]
theorem xnew_makeN {e : TypeId} {bytes a : Nat} (h : bytes * a ≤ 281474976710656) (h2 : a ≤ 9223372036854775807) : xnew (.make (nv 0) 1 bytes e) [nv a, nv a] = some ((List.replicate a 0).map nv, e, fun b => .slice (some ⟨b, 0, none⟩) a a) := by
  simp only [xnew]
  rw [if_pos ⟨by omega, by omega, by omega, by omega⟩]
  simp only [Int.toNat_natCast, Nat.mul_one, madeL_zero]
theorem app_open {H : AH} {e : TypeId} {bytes b b2 o2 n m c2 : Nat} {l l2 : List Nat} {cc : List Value} {e2 : TypeId} {op2 : Option Nat} {r2 : Bool} (hb : H[b]? = some (.cells (l.map nv) e (some 1) false)) (hn : n = l.length)
    (hb2 : H[b2]? = some (.cells cc e2 op2 r2)) (hcc : (cc.drop o2).take m = l2.map nv) (hm : m = l2.length) (hm0 : 0 < m) (hfit : o2 + m ≤ cc.length) (hbig : (n + m) * bytes ≤ 140737488355328) (hbig2 : n + m ≤ 9223372036854775807) :
    xact (.app e 1 bytes) H [.slice (some ⟨b, 0, none⟩) n n, .slice (some ⟨b2, o2, none⟩) m c2] = some (.slice (some ⟨H.length, 0, none⟩) (n + m) (n + m), H.set b .dead ++ [.cells ((l ++ l2).map nv) e (some 1) false]) := by
  have hrow : erow H (.slice (some ⟨b2, o2, none⟩) m c2) (slen (.slice (some ⟨b2, o2, none⟩) m c2) * 1) = some (l2.map nv) := by
    simp only [erow, slen, hb2, Nat.mul_one]
    rw [if_pos hfit, hcc]
  have hone : (l2.map nv).all one = true := all_nv
  have hlen : (l.map nv).length = n := by simp [hn]
  simp only [xact, hrow]
  rw [if_pos ⟨by simpa [slen] using hbig, by simpa [slen] using hbig2, hone⟩]
  simp only [hb, slen]
  rw [if_neg (by omega), if_neg (by simp), if_pos (by simp [hlen])]
  simp
end Go.Sim

namespace Go.Sim
open Go
theorem X_gen {P : Program} {n : Nat} {ro : Option Nat} {c : XC} {s : St} {H : AH} {Q : AX → St → AH → Prop} (I : St → AH → Prop) (h0 : I s H) (h : ∀ s H, I s H → X P n ro c s H Q) : X P n ro c s H Q := h s H h0
theorem parEnv_one {env : Nat → Value} {t0 : Tmp} {v : Value} {ds : List Deferred} (t : Tmp) : (⟨parEnv env [t0] [v], ds⟩ : St).env t = if t = t0 then v else env t := _root_.id rfl
theorem parEnv_at {env : Nat → Value} {t0 : Tmp} {v : Value} (t : Tmp) : parEnv env [t0] [v] t = if t = t0 then v else env t := _root_.id rfl
def ynB (l : Nat) (R : Value → AH → Prop) : AX → St → AH → Prop := fun x _ H3 => ∃ r3, H3[l]? = some (.loop r3) ∧
  R (.bool x.isN) (H3.set l (.loop { r3 with state := if x.isN then .ready else .done, pending := x.jump }))
def ynA (P : Program) (l n : Nat) (xb : XC) (R : Value → AH → Prop) : AX → St → AH → Prop := fun x s1 H1 => x = .normal ∧ ∃ r1, H1[l]? = some (.loop r1) ∧ r1.state = .ready ∧
  X P n (some l) xb s1 (H1.set l (.loop { r1 with state := .busy, pending := r1.pending })) (ynB l R)
theorem E_ynA {P : Program} {l n : Nat} {xb : XC} {R : Value → AH → Prop} {s : St} {H : AH} : EZ (ynA P l n xb R) .normal s H = ∃ r1, H[l]? = some (.loop r1) ∧ r1.state = .ready ∧
    @XZ P n (some l) xb ⟨s⟩ ⟨H.set l (.loop { r1 with state := .busy, pending := r1.pending })⟩ ⟨ynB l R⟩ := by
  simp [EZ, ynA, XZ]
theorem E_ynB {l : Nat} {R : Value → AH → Prop} {x : AX} {s : St} {H : AH} : EZ (ynB l R) x s H = ∃ r3, H[l]? = some (.loop r3) ∧
    R (.bool x.isN) (H.set l (.loop { r3 with state := if x.isN then .ready else .done, pending := x.jump })) := _root_.id rfl
theorem YN.introZ {P : Program} (hm : P.follows .mixedOrders = true) {l : Nat} {vs : List Value} {H : AH} {R : Value → AH → Prop} {r : ALoop} {xa xb : XC} (hl : H[l]? = some (.loop r)) (ha : comp P r.n r.assign = some xa) (hb : comp P r.n r.body = some xb)
    (hps : r.params.size = vs.length) (hpn : ∀ t ∈ r.params.toList, t < r.n)
    (h : @XZ P r.n (some l) xa ⟨⟨parEnv r.env r.params.toList vs, []⟩⟩ ⟨H⟩ ⟨ynA P l r.n xb R⟩) : YN P l vs H R :=
  YN.intro hm hl ha hb hps hpn h
theorem EZ_of {Q : AX → St → AH → Prop} {x : AX} {s : St} {H : AH} (h : EZ Q x s H) : Q x s H := h
theorem unwA_col {r : Nat} {ds : List Deferred} {H : AH} (h : H[r]? = some (.defs (some []))) : unwA (⟨.collected r, #[]⟩ :: ds) H = unwA ds (H.set r (.defs none)) := by
  simp [unwA, h]
theorem xbin_subZ {a b m : Nat} (h : a < 1000000) (h2 : b < 1000000) : xbin .sub m (nv a) (nv b) = some (.int .i64 ((a : Int) - (b : Int))) := by
  rw [xbin_sub, wrap64 (by omega) (by omega)]
theorem xbin_addZ {z : Int} {b m : Nat} (h : -1000000 < z) (h1 : z < 1000000) (h2 : b < 1000000) : xbin .add m (.int .i64 z) (nv b) = some (.int .i64 (z + (b : Int))) := by
  rw [xbin_add, wrap64 (by omega) (by omega)]
end Go.Sim
