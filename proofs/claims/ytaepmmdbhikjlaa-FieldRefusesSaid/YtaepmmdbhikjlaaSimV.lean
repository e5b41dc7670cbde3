/- The semantic simulation logic, part 22: code that is run. -/
import Derived.Test.YtaepmmdbhikjlaaSimU2
namespace Go.Sim
open Go

noncomputable def evT (t : Tr) (x : Operand) : Value := Operand.casesOn (motive := fun _ => Value) x (fun x => t.get x) (fun v => v) (fun _ => undef) (fun f => .func (.func f) #[] #[])
theorem evT_eq (t : Tr) (x : Operand) : evT t x = ev ⟨t.get, []⟩ x := by cases x <;> rfl
noncomputable def mapE (t : Tr) (l : List Operand) : List Value := List.rec [] (fun a _ ih => evT t a :: ih) l
theorem mapE_eq (t : Tr) (l : List Operand) : mapE t l = l.map (ev ⟨t.get, []⟩) := by
  induction l with
  | nil => rfl
  | cons a l ih =>
    change evT t a :: mapE t l = _
    rw [evT_eq, ih]; rfl
noncomputable def putK {α : Type} (t : Tr) (d : Option Tmp) (v : Value) (K : Tr → Option α) : Option α :=
  Option.rec (K t) (fun d => Bool.rec none (forceV v fun v => K (Tr.setF 4096 t d v)) (Nat.blt d 4096)) d
theorem putK_eq {α : Type} {t : Tr} {d : Option Tmp} {v : Value} {K : Tr → Option α} {r : α} (h : putK t d v K = some r) : ∃ t', (⟨t.get, []⟩ : St).put d v = ⟨t'.get, []⟩ ∧ K t' = some r := by
  cases d with
  | none => exact ⟨t, rfl, h⟩
  | some d =>
    change (Bool.rec none (forceV v fun v => K (Tr.setF 4096 t d v)) (Nat.blt d 4096) : Option α) = _ at h
    cases hb : Nat.blt d 4096 with
    | false => rw [hb] at h; cases h
    | true =>
      rw [hb] at h
      change forceV v (fun v => K (Tr.setF 4096 t d v)) = _ at h
      rw [forceV_eq] at h
      have hlt : d < 4096 := by simpa using hb
      refine ⟨_, ?_, h⟩
      unfold St.put
      simp only [St.mk.injEq, and_true]
      funext x
      rw [Tr.get_set _ _ _ _ _ hlt]

def eqS : Value → Value → Bool
  | .int k a, .int k' b => k == k' && a == b
  | .bool a, .bool b => a == b
  | .pointer (some ⟨a, o, none⟩), .pointer (some ⟨b, q, none⟩) => a == b && o == q
  | .slice (some ⟨a, o, none⟩) l c, .slice (some ⟨b, q, none⟩) m d => a == b && o == q && l == m && c == d
  | .slice none l c, .slice none m d => l == m && c == d
  | _, _ => false
theorem eqS_eq {a b : Value} (h : eqS a b = true) : a = b := by
  unfold eqS at h
  split at h <;> simp_all
def eqL : List Value → List Value → Bool
  | [], [] => true
  | a :: l, b :: m => eqS a b && eqL l m
  | _, _ => false
theorem eqL_eq : ∀ {a b : List Value}, eqL a b = true → a = b
  | [], [], _ => rfl
  | a :: l, b :: m, h => by
    simp only [eqL, Bool.and_eq_true] at h
    rw [eqS_eq h.1, eqL_eq h.2]
  | [], _ :: _, h => by simp [eqL] at h
  | _ :: _, [], h => by simp [eqL] at h
def eqV : Value → Value → Bool
  | .agg a, .agg b => eqL a.toList b.toList
  | a, b => eqS a b
theorem eqV_eq {a b : Value} (h : eqV a b = true) : a = b := by
  unfold eqV at h
  split at h
  · have := eqL_eq h
    congr 1
    exact Array.ext' this
  · exact eqS_eq h

def chkB (c : List Nat) (D : List PL) (H : AH) : Bool :=
  match c with
  | [] => true
  | c => D.all fun p => !(c.contains p.j) || (match xload p.sz H p.vs with | some v => eqV v p.v | none => false)
theorem chkB_ok {c : List Nat} {D : List PL} {H : AH} (h : chkB c D H = true) : chkX c D H := by
  unfold chkB at h
  split at h
  · intro p _ hj; cases hj
  · intro p hp hj
    have := List.all_eq_true.1 h p hp
    simp only [Bool.or_eq_true, Bool.not_eq_true', List.contains_eq_mem, decide_eq_false_iff_not] at this
    rcases this with h1 | h1
    · exact absurd hj h1
    · split at h1
      · rename_i v hv
        rw [hv, eqV_eq h1]
      · cases h1

/-- Writes go to blocks from lo on. -/
def okW (lo : Nat) : List Value → Bool
  | .pointer (some a) :: _ => Nat.ble lo a.block
  | .slice (some a) _ _ :: _ => Nat.ble lo a.block
  | _ => true

/-- What was below lo is as it was. -/
def Keep (lo : Nat) (H H' : AH) : Prop := lo ≤ H'.length ∧ ∀ b, b < lo → H'[b]? = H[b]?
theorem Keep.refl {lo : Nat} {H : AH} (h : lo ≤ H.length) : Keep lo H H := ⟨h, fun _ _ => rfl⟩
theorem Keep.trans {lo : Nat} {H H' H'' : AH} (a : Keep lo H H') (b : Keep lo H' H'') : Keep lo H H'' := ⟨b.1, fun n hn => (b.2 n hn).trans (a.2 n hn)⟩
theorem Keep.app {lo : Nat} {H : AH} (h : lo ≤ H.length) (Y : AH) : Keep lo H (H ++ Y) := ⟨by simp; omega, fun b hb => List.getElem?_append_left (by omega)⟩
theorem Keep.set {lo : Nat} {H : AH} (h : lo ≤ H.length) {b : Nat} (hb : lo ≤ b) (x : AB) : Keep lo H (H.set b x) := ⟨by simpa using h, fun n hn => List.getElem?_set_ne (by omega)⟩

theorem xact_keep {lo : Nat} {x : XO} {H H' : AH} {vs : List Value} {v : Value} (hl : lo ≤ H.length) (hw : okW lo vs = true) (h : xact x H vs = some (v, H')) : Keep lo H H' := by
  unfold xact at h
  split at h
  · rename_i sz a u
    have hb : lo ≤ a.block := by simpa [okW] using hw
    split at h
    · split at h
      · cases h; exact Keep.set hl hb _
      · cases h
    · cases h
  · rename_i e sz bytes s u
    split at h
    · split at h
      · split at h
        · split at h
          · cases h; exact Keep.refl hl
          · cases h; exact Keep.app hl _
        · rename_i a l c _
          have hb : lo ≤ a.block := by simpa [okW] using hw
          split at h
          · split at h
            · split at h
              · cases h; exact Keep.refl hl
              · split at h
                · cases h; exact Keep.set hl hb _
                · cases h
            · split at h
              · split at h
                · cases h; exact Keep.app hl _
                · cases h
              · split at h
                · cases h; exact (Keep.set hl hb .dead).trans (Keep.app (by simpa using hl) _)
                · cases h
          · cases h
        · cases h
      · cases h
    · cases h
  · cases h

abbrev CallT := FuncId → List Value → AH → Option (Value × AH)

noncomputable def chkK {α : Type} (c : List Nat) (D : List PL) (H : AH) (x : Option α) : Option α := List.rec x (fun a l _ => Bool.rec none x (chkB (a :: l) D H)) c
theorem chkK_eq {α : Type} {c : List Nat} {D : List PL} {H : AH} {x : Option α} {r : α} (h : chkK c D H x = some r) : chkX c D H ∧ x = some r := by
  cases c with
  | nil => exact ⟨(fun p _ hj => by cases hj), h⟩
  | cons a l =>
    change (Bool.rec none x (chkB (a :: l) D H) : Option α) = _ at h
    cases hb : chkB (a :: l) D H with
    | false => rw [hb] at h; cases h
    | true => rw [hb] at h; exact ⟨chkB_ok hb, h⟩

abbrev KT := List PL → Tr → AH → Option (Tr × AH)
noncomputable def sPur (i : XS) (ih : KT) (D : List PL) (t : Tr) (H : AH) : Option (Tr × AH) := Option.rec none (fun v => putK t i.dst v fun t' => ih D t' H) (qpure i.x (mapE t i.xs))
noncomputable def sLoad (i : XS) (ih : KT) (D : List PL) (t : Tr) (H : AH) : Option (Tr × AH) :=
  match i.x with
  | .ld sz => Option.rec none (fun v => putK t i.dst v fun t' => ih (Bool.rec D (⟨i.j, sz, mapE t i.xs, v⟩ :: D) i.keep) t' H) (qload sz H (mapE t i.xs))
  | _ => none
noncomputable def sNew (i : XS) (ih : KT) (D : List PL) (t : Tr) (H : AH) : Option (Tr × AH) :=
  match xnew i.x (mapE t i.xs) with
  | some (c, e, mk) => chkK i.chk D (H ++ [.cells c e none false]) (putK t i.dst (mk (lenN H)) fun t' => ih D t' (H ++ [.cells c e none false]))
  | none => none
noncomputable def sAct (lo : Nat) (i : XS) (ih : KT) (D : List PL) (t : Tr) (H : AH) : Option (Tr × AH) :=
  Bool.rec none (match qact i.x H (mapE t i.xs) with
    | some (v, H') => chkK i.chk D H' (putK t i.dst v fun t' => ih D t' H')
    | none => none) (okW lo (mapE t i.xs))
noncomputable def sCall (call : CallT) (i : XS) (ih : KT) (D : List PL) (t : Tr) (H : AH) : Option (Tr × AH) :=
  match mapE t i.xs with
  | .func (.func g) first cap :: args => match call g (first.toList ++ args ++ cap.toList) H with
    | some (v, H') => chkK i.chk D H' (putK t i.dst v fun t' => ih D t' H')
    | none => none
  | _ => none
noncomputable def guardQ (g : Option (Tmp × Bool)) (t : Tr) (a b : Option (Tr × AH)) : Option (Tr × AH) :=
  Option.rec a (fun p => Prod.rec (fun d want => Bool.rec b a (withB false (t.get d) fun x => x == want)) p) g

noncomputable def sKind (k : XK) : CallT → Nat → XS → KT → List PL → Tr → AH → Option (Tr × AH) :=
  XK.rec (fun _ _ => sPur) (fun _ _ => sLoad) (fun _ _ => sNew) (fun _ => sAct) (fun call _ => sCall call) k

/-- One region. -/
noncomputable def runS (call : CallT) (lo : Nat) (l : List XS) : KT :=
  List.rec (fun _ t H => some (t, H)) (fun i _ ih D t H => guardQ i.g t (sKind i.x.kind call lo i ih D t H) (putK t i.dst undef fun t' => ih D t' H)) l

/-- A function that is called is run right. -/
def CallOk (P : Program) (call : CallT) : Prop := ∀ g args H v H', call g args H = some (v, H') → FN P g args H (fun v1 H1 => v1 = v ∧ H1 = H') ∧ Keep H.length H H'

theorem recO {α β : Type} {o : Option α} {K : α → Option β} {r : β} (h : (Option.rec none K o : Option β) = some r) : ∃ a, o = some a ∧ K a = some r := by
  cases o with
  | none => cases h
  | some a => exact ⟨a, rfl, h⟩

theorem runS_ok {P : Program} {call : CallT} (hc : CallOk P call) {lo : Nat} (l : List XS) : ∀ (D : List PL) (t : Tr) (H : AH) (t' : Tr) (H' : AH), lo ≤ H.length → runS call lo l D t H = some (t', H') →
    stepsX P l D ⟨t.get, []⟩ H (fun s1 H1 => s1 = ⟨t'.get, []⟩ ∧ H1 = H') ∧ Keep lo H H' := by
  induction l with
  | nil =>
    intro D t H t' H' hl h
    cases h
    exact ⟨⟨rfl, rfl⟩, Keep.refl hl⟩
  | cons i l ih =>
    intro D t H t' H' hl h
    change guardQ i.g t (sKind i.x.kind call lo i (runS call lo l) D t H) (putK t i.dst undef fun t' => runS call lo l D t' H) = _ at h
    unfold stepsX
    have hw : ∀ a b : Option (Tr × AH), guardQ i.g t a b = bif wantX i.g ⟨t.get, []⟩ then a else b := by
      intro a b
      unfold wantX
      cases i.g with
      | none => rfl
      | some g =>
        obtain ⟨d, want⟩ := g
        change (Bool.rec b a (withB false (t.get d) fun x => x == want) : Option (Tr × AH)) = _
        rw [recB]
        simp only
        rcases withB_eq (d := false) (v := t.get d) (K := fun x => x == want) with ⟨x, e1, e2⟩ | e2
        · rw [e2, e1]
        · rw [e2]
          cases hv : t.get d with
          | bool x =>
            rw [hv] at e2
            change (x == want) = false at e2
            simp only [e2]
          | _ => rfl
    rw [hw] at h
    cases hwx : wantX i.g ⟨t.get, []⟩ with
    | false =>
      rw [hwx] at h
      simp only [cond_false] at h
      obtain ⟨t1, ht, h⟩ := putK_eq h
      obtain ⟨q, k⟩ := ih D t1 H t' H' hl h
      simp only [Bool.false_eq_true, if_false]
      rw [ht]
      exact ⟨q, k⟩
    | true =>
      rw [hwx] at h
      simp only [cond_true] at h
      simp only [if_true]
      rw [← mapE_eq]
      cases hkd : i.x.kind with
      | pur =>
        rw [hkd] at h
        obtain ⟨v, hv, h⟩ := recO h
        obtain ⟨t1, ht, h⟩ := putK_eq h
        obtain ⟨q, k⟩ := ih D t1 H t' H' hl h
        refine ⟨⟨v, qpure_eq hv, ?_⟩, k⟩
        rw [ht]
        exact q
      | load =>
        rw [hkd] at h
        change sLoad i (runS call lo l) D t H = _ at h
        unfold sLoad at h
        split at h
        · rename_i sz hx
          obtain ⟨v, hv, h⟩ := recO h
          obtain ⟨t1, ht, h⟩ := putK_eq h
          obtain ⟨q, k⟩ := ih _ t1 H t' H' hl h
          refine ⟨⟨sz, v, hx, qload_eq hv, ?_⟩, k⟩
          rw [ht]
          have e : (Bool.rec D (⟨i.j, sz, mapE t i.xs, v⟩ :: D) i.keep : List PL) = if i.keep = true then ⟨i.j, sz, mapE t i.xs, v⟩ :: D else D := by cases i.keep <;> rfl
          rw [← e]
          exact q
        · cases h
      | new =>
        rw [hkd] at h
        change sNew i (runS call lo l) D t H = _ at h
        unfold sNew at h
        split at h
        · rename_i c e mk hv
          obtain ⟨hk, h⟩ := chkK_eq h
          obtain ⟨t1, ht, h⟩ := putK_eq h
          obtain ⟨q, k⟩ := ih D t1 _ t' H' (by simp; omega) h
          refine ⟨⟨c, e, mk, hv, hk, ?_⟩, (Keep.app hl _).trans k⟩
          rw [← lenN_eq, ht]
          exact q
        · cases h
      | act =>
        rw [hkd] at h
        change sAct lo i (runS call lo l) D t H = _ at h
        unfold sAct at h
        cases hok : okW lo (mapE t i.xs) with
        | false => rw [hok] at h; cases h
        | true =>
          rw [hok] at h
          simp only at h
          split at h
          · rename_i v H1 hv
            obtain ⟨hk, h⟩ := chkK_eq h
            have hv := qact_eq hv
            have kp := xact_keep hl hok hv
            obtain ⟨t1, ht, h⟩ := putK_eq h
            obtain ⟨q, k⟩ := ih D t1 _ t' H' kp.1 h
            refine ⟨⟨v, H1, hv, hk, ?_⟩, kp.trans k⟩
            rw [ht]
            exact q
          · cases h
      | call =>
        rw [hkd] at h
        change sCall call i (runS call lo l) D t H = _ at h
        unfold sCall at h
        split at h
        · rename_i g first cap args ha
          split at h
          · rename_i v H1 hv
            obtain ⟨hk, h⟩ := chkK_eq h
            obtain ⟨hF, hK⟩ := hc _ _ _ _ _ hv
            have kp : Keep lo H H1 := ⟨by have := hK.1; omega, fun b hb => hK.2 b (by omega)⟩
            obtain ⟨t1, ht, h⟩ := putK_eq h
            obtain ⟨q, k⟩ := ih D t1 _ t' H' kp.1 h
            refine ⟨?_, kp.trans k⟩
            rw [ha]
            simp only [callX]
            refine hF.mono ?_
            rintro _ _ ⟨rfl, rfl⟩
            refine ⟨hk, ?_⟩
            rw [ht]
            exact q
          · cases h
        · cases h

end Go.Sim
