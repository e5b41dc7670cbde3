/- The semantic simulation logic, part 18: blocks that are no longer needed are forgotten when a function returns. -/
import Derived.Test.YtaepmmdbhikjlaaSimQ
namespace Go.Sim
open Go

def hat (σ : Nat → Option Nat) : Inj := fun b => (σ b).map fun o => ⟨o, 0, 0, 0⟩
def cmp (σ : Nat → Option Nat) (i : Inj) : Inj := fun b => (σ b).bind i
theorem hat_some {σ : Nat → Option Nat} {b : Nat} {L : Loc} (h : hat σ b = some L) : σ b = some L.blk ∧ L.base = 0 ∧ L.esz = 0 ∧ L.ext = 0 := by
  unfold hat at h
  simp only [Option.map_eq_some_iff] at h
  obtain ⟨o, h1, rfl⟩ := h
  exact ⟨h1, rfl, rfl, rfl⟩
theorem cmp_some {σ : Nat → Option Nat} {i : Inj} {b o : Nat} {L : Loc} (h : σ b = some o) (hi : i o = some L) : cmp σ i b = some L := by simp [cmp, h, hi]

theorem FnR.cmp {σ : Nat → Option Nat} {i : Inj} {f2 f f' : Fn} (h : FnR (hat σ) f2 f) (k : FnR i f f') : FnR (cmp σ i) f2 f' := by
  cases h with
  | func g => cases k; exact .func g
  | yield e =>
    obtain ⟨q, _⟩ := hat_some e
    generalize hz : Fn.yield _ = z at k
    cases k with
    | func g => cases hz
    | yield e2 => cases hz; exact .yield (cmp_some q e2)

theorem VR.cmp {σ : Nat → Option Nat} {i : Inj} {v2 v : Value} (h : VR (hat σ) v2 v) : ∀ {v'}, VR i v v' → VR (Sim.cmp σ i) v2 v' := by
  induction h with
  | bool b => intro v' k; cases k; exact .bool b
  | int k n => intro v' k; cases k; exact .int _ _
  | float k n => intro v' k; cases k; exact .float _ _
  | string s => intro v' k; cases k; exact .string _
  | nilFunc => intro v' k; cases k; exact .nilFunc
  | nilIface => intro v' k; cases k; exact .nilIface
  | pnil => intro v' k; cases k; exact .pnil
  | mnil => intro v' k; cases k; exact .mnil
  | ptr e s =>
    intro v' k
    obtain ⟨q, q0, _, _⟩ := hat_some e
    cases k with
    | ptr e2 s2 =>
      simp only [q0, Nat.zero_add]
      exact .ptr (cmp_some q e2) s
  | snil l c => intro v' k; cases k; exact .snil _ _
  | slice e s hc =>
    intro v' k
    obtain ⟨q, q0, _, q3⟩ := hat_some e
    have hc' : _ = _ := hc.elim id (fun h => by rw [q3] at h; exact h)
    subst hc'
    cases k with
    | slice e2 s2 hc2 =>
      simp only [q0, Nat.zero_add]
      exact .slice (cmp_some q e2) s hc2
    | vague e2 => simp at e2
  | vague e =>
    intro v' k
    cases k with
    | slice e2 s2 hc2 => exact .vague e
    | vague e2 => exact .vague e
  | map e =>
    intro v' k
    obtain ⟨q, _⟩ := hat_some e
    cases k with
    | map e2 => exact .map (cmp_some q e2)
  | func hf hs1 _ hs2 _ ih1 ih2 =>
    intro v' k
    cases k with
    | func kf ks1 k1 ks2 k2 =>
      exact .func (hf.cmp kf) (hs1.trans ks1) (fun n p q => ih1 n p (hs1 ▸ p) (k1 n (hs1 ▸ p) q)) (hs2.trans ks2) (fun n p q => ih2 n p (hs2 ▸ p) (k2 n (hs2 ▸ p) q))
  | iface t _ ih => intro v' k; cases k with | iface _ k => exact .iface t (ih k)
  | agg hs _ ih => intro v' k; cases k with | agg ks k => exact .agg (hs.trans ks) (fun n p q => ih n p (hs ▸ p) (k n (hs ▸ p) q))
  | tuple hs _ ih => intro v' k; cases k with | tuple ks k => exact .tuple (hs.trans ks) (fun n p q => ih n p (hs ▸ p) (k n (hs ▸ p) q))

/-- Values of an older heap are as they were. -/
theorem VR.old {i : Inj} {σ : Nat → Option Nat} (hid : ∀ b L, i b = some L → σ b = some b) {v v' : Value} (h : VR i v v') : VR (hat σ) v v := by
  have hh : ∀ b L, i b = some L → hat σ b = some ⟨b, 0, 0, 0⟩ := fun b L e => by simp [hat, hid b L e]
  induction h with
  | bool b => exact .bool b
  | int k n => exact .int k n
  | float k n => exact .float k n
  | string s => exact .string s
  | nilFunc => exact .nilFunc
  | nilIface => exact .nilIface
  | pnil => exact .pnil
  | mnil => exact .mnil
  | @ptr a L e s =>
    have := VR.ptr (a := a) (hh _ _ e) s
    simp only [Nat.zero_add] at this
    rw [← s] at this
    exact this
  | snil l c => exact .snil l c
  | @slice a L l c c' e s hc =>
    have := VR.slice (a := a) (l := l) (c := c) (hh _ _ e) s (.inl rfl)
    simp only [Nat.zero_add] at this
    rw [← s] at this
    exact this
  | vague e => exact .vague e
  | map e => exact .map (hh _ _ e)
  | func hf hs1 _ hs2 _ ih1 ih2 =>
    refine .func ?_ rfl (fun n p q => ih1 n p (hs1 ▸ p)) rfl (fun n p q => ih2 n p (hs2 ▸ p))
    cases hf with
    | func g => exact .func g
    | yield e => exact .yield (hh _ _ e)
  | iface t _ ih => exact .iface t ih
  | agg hs _ ih => exact .agg rfl (fun n p q => ih n p (hs ▸ p))
  | tuple hs _ ih => exact .tuple rfl (fun n p q => ih n p (hs ▸ p))

theorem VRs.old {i : Inj} {σ : Nat → Option Nat} (hid : ∀ b L, i b = some L → σ b = some b) {v v' : List Value} (h : VRs i v v') : VRs (hat σ) v v := by
  induction h with
  | nil => exact .nil
  | cons a _ ih => exact .cons (a.old hid) ih
theorem VRs.cmp {σ : Nat → Option Nat} {i : Inj} {v2 v v' : List Value} (h : VRs (hat σ) v2 v) (k : VRs i v v') : VRs (Sim.cmp σ i) v2 v' := by
  induction h generalizing v' with
  | nil => cases k; exact .nil
  | cons a _ ih => cases k with | cons b c => exact .cons (a.cmp b) (ih c)
theorem DefR.old {i : Inj} {σ : Nat → Option Nat} (hid : ∀ b L, i b = some L → σ b = some b) {d d' : Deferred} (h : DefR i d d') : DefR (hat σ) d d := by
  have hh : ∀ b L, i b = some L → hat σ b = some ⟨b, 0, 0, 0⟩ := fun b L e => by simp [hat, hid b L e]
  cases h with
  | collected e => exact .collected (L := ⟨_, 0, 0, 0⟩) (hh _ _ e)
  | fn a b c =>
    refine .fn ?_ (b.old hid) (c.old hid)
    cases a with
    | func g => exact .func g
    | yield e => exact .yield (L := ⟨_, 0, 0, 0⟩) (hh _ _ e)
theorem DefsR.old {i : Inj} {σ : Nat → Option Nat} (hid : ∀ b L, i b = some L → σ b = some b) {d d' : List Deferred} (h : DefsR i d d') : DefsR (hat σ) d d := by
  induction h with
  | nil => exact .nil
  | cons a _ ih => exact .cons (a.old hid) ih
theorem DefR.cmp {σ : Nat → Option Nat} {i : Inj} {d2 d d' : Deferred} (h : DefR (hat σ) d2 d) (k : DefR i d d') : DefR (Sim.cmp σ i) d2 d' := by
  cases h with
  | collected e =>
    obtain ⟨q, _⟩ := hat_some e
    cases k with
    | collected e2 => exact .collected (cmp_some q e2)
  | fn a b c => cases k with | fn a' b' c' => exact .fn (a.cmp a') (b.cmp b') (c.cmp c')
theorem DefsR.cmp {σ : Nat → Option Nat} {i : Inj} {d2 d d' : List Deferred} (h : DefsR (hat σ) d2 d) (k : DefsR i d d') : DefsR (Sim.cmp σ i) d2 d' := by
  induction h generalizing d' with
  | nil => cases k; exact .nil
  | cons a _ ih => cases k with | cons b c => exact .cons (a.cmp b) (ih c)

inductive AR (σ : Nat → Option Nat) : AB → AB → Prop
  | cells {c2 c : List Value} (e : TypeId) (o : Option Nat) (r : Bool) : VRs (hat σ) c2 c → AR σ (.cells c2 e o r) (.cells c e o r)
  | loop {l2 l : ALoop} : l2.state = l.state → l2.pending = l.pending → l2.params = l.params → l2.assign = l.assign → l2.body = l.body → l2.n = l.n → (∀ t, VR (hat σ) (l2.env t) (l.env t)) → σ l2.defers = some l.defers → AR σ (.loop l2) (.loop l)
  | defs0 : AR σ (.defs none) (.defs none)
  | defs {d2 d : List Deferred} : DefsR (hat σ) d2 d → AR σ (.defs (some d2)) (.defs (some d))
  | dead : AR σ .dead .dead

theorem AR.old {i : Inj} {σ : Nat → Option Nat} (hid : ∀ b L, i b = some L → σ b = some b) {x : AB} {L : Loc} {w : World} (h : BlkR i x L w) : AR σ x x := by
  match x, h with
  | .cells c e opn ro, h =>
    obtain ⟨c', e', fr, h1, h2, _⟩ := h
    refine .cells e opn ro ?_
    refine VRs.of_get rfl (fun k p q => ?_)
    obtain ⟨v', _, hv⟩ := h2 k _ (List.getElem?_eq_getElem p)
    exact hv.old hid
  | .loop l, h =>
    obtain ⟨l', h1, h2⟩ := h
    obtain ⟨L, e, _⟩ := h2.defers
    exact .loop rfl rfl rfl rfl rfl rfl (fun t => (h2.env t).old hid) (hid _ _ e)
  | .defs none, _ => exact .defs0
  | .defs (some d), h => obtain ⟨d', _, h2⟩ := h; exact .defs (h2.old hid)
  | .dead, _ => exact .dead

theorem AR.blk {i : Inj} {σ : Nat → Option Nat} {x2 x : AB} {L : Loc} {w : World} (h : AR σ x2 x) (k : BlkR i x L w) : BlkR (Sim.cmp σ i) x2 L w := by
  cases h with
  | cells e o r hv =>
    obtain ⟨c', e', fr, h1, h2, h3, h4⟩ := k
    refine ⟨c', e', fr, h1, fun n v hn => ?_, fun hr => ?_, h4⟩
    · obtain ⟨u, hu, hvu⟩ := hv.get hn
      obtain ⟨v', q1, q2⟩ := h2 n u hu
      exact ⟨v', q1, hvu.cmp q2⟩
    · rw [hv.length]; exact h3 hr
  | loop a1 a2 a3 a4 a5 a6 a7 a8 =>
    obtain ⟨l', h1, h2⟩ := k
    refine ⟨l', h1, ⟨h2.state.trans a1.symm, h2.pending.trans a2.symm, h2.params.trans a3.symm, h2.assign.trans a4.symm, h2.body.trans a5.symm, h2.size.trans a6.symm, fun t => (a7 t).cmp (h2.env t), ?_⟩⟩
    obtain ⟨L, e, e2⟩ := h2.defers
    exact ⟨L, cmp_some a8 e, e2⟩
  | defs0 => exact k
  | defs hd => obtain ⟨d', h1, h2⟩ := k; exact ⟨d', h1, hd.cmp h2⟩
  | dead => trivial
theorem AR.owned {σ : Nat → Option Nat} {x2 x : AB} (h : AR σ x2 x) : x2.owned = x.owned := by cases h <;> rfl
theorem AR.live {σ : Nat → Option Nat} {x2 x : AB} (h : AR σ x2 x) : x2.live = x.live := by cases h <;> rfl

theorem FSim.rename {P : Program} {f : FuncId} {args : List Value} {H H' H2 : AH} {v v2 : Value} (σ : Nat → Option Nat) (h : FSim P f args H v H') (hid : ∀ b, b < H.length → σ b = some b)
    (hnew : ∀ b o, H.length ≤ b → σ b = some o → H.length ≤ o ∧ b < H2.length ∧ ∀ x, H'[o]? = some x → ∃ x2, H2[b]? = some x2 ∧ AR σ x2 x)
    (hinj : ∀ b b' o, σ b = some o → σ b' = some o → b = b') (hv : VR (hat σ) v2 v) (hlen : H.length ≤ H2.length)
    (hold : ∀ b, b < H.length → H2[b]? = H'[b]? ∧ (H'[b]? = H[b]? ∨ ∀ x, H'[b]? = some x → AR σ x x)) : FSim P f args H v2 H2 := by
  intro i w args' hr ha cs
  obtain ⟨i', w', v', fr, e, g, q1, q2, q3, q4⟩ := h i w args' hr ha cs
  have hidi : ∀ b L, i b = some L → σ b = some b := fun b L hb => hid b (hr.dom b L hb)
  -- the blocks of both sides
  have hblk : ∀ b o L, σ b = some o → i' o = some L → ∃ x x2, H'[o]? = some x ∧ H2[b]? = some x2 ∧ AR σ x2 x ∧ b < H2.length := by
    intro b o L hb ho
    have hlt := g.dom o L ho
    have hx : H'[o]? = some H'[o] := List.getElem?_eq_getElem hlt
    rcases Nat.lt_or_ge b H.length with hbl | hbl
    · have := hid b hbl
      rw [hb] at this
      cases this
      obtain ⟨p1, p2⟩ := hold b hbl
      refine ⟨_, _, hx, p1.trans hx, ?_, by omega⟩
      rcases p2 with p2 | p2
      · rcases e.fresh b L ho with hi | ⟨hi, _⟩
        · exact AR.old hidi (hr.blk b L _ hi (p2.symm.trans hx))
        · omega
      · exact p2 _ hx
    · obtain ⟨_, p2, p3⟩ := hnew b o hbl hb
      obtain ⟨x2, r1, r2⟩ := p3 _ hx
      exact ⟨_, _, hx, r1, r2, p2⟩
  have hc : ∀ b L, cmp σ i' b = some L → ∃ o, σ b = some o ∧ i' o = some L := by
    intro b L hb
    unfold cmp at hb
    cases hs : σ b with
    | none => rw [hs] at hb; cases hb
    | some o => rw [hs] at hb; exact ⟨o, rfl, hb⟩
  refine ⟨cmp σ i', w', v', fr, ⟨hr.dom, fun b L hb => cmp_some (hidi b L hb) (e.le b L hb), e.os, e.tape, e.output, e.size, hlen, fun b x' hb hx ho => ?_, e.frame, fun b hb hn => ?_, fun b L hb => ?_⟩, ⟨fun b L hb => ?_, fun b L x hb hx => ?_, fun b1 b2 L1 L2 x1 x2 f1 f2 g1 g2 o1 l2 hL => ?_⟩, hv.cmp q1, q2, q3, q4⟩
  · exact e.own b x' hb ((hold b hb).1.symm.trans hx) ho
  · exact (hold b hb).1.trans (e.aframe b hb hn)
  · obtain ⟨o, h1, h2⟩ := hc b L hb
    rcases Nat.lt_or_ge b H.length with hbl | hbl
    · have := hid b hbl
      rw [h1] at this
      cases this
      rcases e.fresh b L h2 with hi | ⟨hi, _⟩
      · exact .inl hi
      · omega
    · obtain ⟨p1, _, _⟩ := hnew b o hbl h1
      rcases e.fresh o L h2 with hi | ⟨_, hi⟩
      · have := hr.dom o L hi; omega
      · exact .inr ⟨hbl, hi⟩
  · obtain ⟨o, h1, h2⟩ := hc b L hb
    obtain ⟨_, _, _, _, _, hlt⟩ := hblk b o L h1 h2
    exact hlt
  · obtain ⟨o, h1, h2⟩ := hc b L hb
    obtain ⟨y, y2, p1, p2, p3, _⟩ := hblk b o L h1 h2
    rw [hx] at p2
    cases p2
    exact p3.blk (g.blk o L y h2 p1)
  · obtain ⟨o1', s1, t1⟩ := hc b1 L1 f1
    obtain ⟨o2', s2, t2⟩ := hc b2 L2 f2
    obtain ⟨y1, z1, p1, p2, p3, _⟩ := hblk b1 o1' L1 s1 t1
    obtain ⟨y2, z2, r1, r2, r3, _⟩ := hblk b2 o2' L2 s2 t2
    rw [g1] at p2; cases p2
    rw [g2] at r2; cases r2
    have := g.inj o1' o2' L1 L2 y1 y2 t1 t2 p1 r1 (p3.owned ▸ o1) (r3.live ▸ l2) hL
    subst this
    exact hinj _ _ _ s1 s2

theorem VR.ground_hat {v : Value} (h : ground v = true) (σ : Nat → Option Nat) : VR (hat σ) v v := VR.of_ground h _

/-- A ground result: all that is new is forgotten. -/
theorem FN.gc0 {P : Program} {f : FuncId} {args : List Value} {H : AH} {R : Value → Prop} (h : FN P f args H (fun v H' => R v ∧ ground v = true ∧ ∃ J, H' = H ++ J)) : FN P f args H (fun v H' => R v ∧ H' = H) := by
  obtain ⟨hc, v, H', ⟨hR, hg, J, rfl⟩, hs⟩ := h
  refine ⟨hc, v, H, ⟨hR, rfl⟩, hs.rename (fun b => if b < H.length then some b else none) (fun b hb => by simp [hb]) (fun b o hb ho => ?_) (fun b b' o h1 h2 => ?_) (VR.ground_hat hg _) (Nat.le_refl _) (fun b hb => ?_)⟩
  · simp [Nat.not_lt.2 hb] at ho
  · split at h1 <;> split at h2 <;> simp_all
  · have : (H ++ J)[b]? = H[b]? := List.getElem?_append_left hb
    exact ⟨this.symm, .inl this⟩

/-- A result whose only new block is one of cells. -/
theorem FN.gc1 {P : Program} {f : FuncId} {args : List Value} {H : AH} {R : Value → AB → Prop} (h : FN P f args H (fun v H' => ∃ J k v2 x, H' = H ++ J ∧ J[k]? = some x ∧ (∀ σ, (∀ b, b < H.length → σ b = some b) → σ H.length = some (H.length + k) → VR (hat σ) v2 v ∧ AR σ x x) ∧ R v2 x)) :
    FN P f args H (fun v H' => ∃ x, H' = H ++ [x] ∧ R v x) := by
  obtain ⟨hc, v, H', ⟨J, k, v2, x, rfl, hJ, hrel, hR⟩, hs⟩ := h
  generalize hσ : (fun b => if b < H.length then some b else if b = H.length then some (H.length + k) else none) = σ
  have s1 : ∀ b, b < H.length → σ b = some b := fun b hb => by rw [← hσ]; simp [hb]
  have s2 : σ H.length = some (H.length + k) := by rw [← hσ]; simp
  have s3 : ∀ b, H.length < b → σ b = none := fun b hb => by rw [← hσ]; simp only; rw [if_neg (by omega), if_neg (by omega)]
  obtain ⟨r1, r2⟩ := hrel σ s1 s2
  refine ⟨hc, v2, H ++ [x], ⟨x, rfl, hR⟩, hs.rename σ s1 (fun b o hb ho => ?_) (fun b b' o h1 h2 => ?_) r1 (by simp) (fun b hb => ?_)⟩
  · rcases Nat.lt_or_ge H.length b with hlt | hge
    · rw [s3 b hlt] at ho; cases ho
    · have : b = H.length := by omega
      subst this
      rw [s2] at ho
      cases ho
      refine ⟨by omega, by simp, fun y hy => ⟨x, by simp, ?_⟩⟩
      rw [get_new, hJ] at hy
      cases hy
      exact r2
  · have key : ∀ c, σ c = some o → (c < H.length ∧ o = c) ∨ (c = H.length ∧ o = H.length + k) := by
      intro c hc
      rcases Nat.lt_or_ge c H.length with p | p
      · rw [s1 c p] at hc; cases hc; exact .inl ⟨p, rfl⟩
      · rcases Nat.lt_or_ge H.length c with p2 | p2
        · rw [s3 c p2] at hc; cases hc
        · have : c = H.length := by omega
          subst this
          rw [s2] at hc; cases hc; exact .inr ⟨rfl, rfl⟩
    rcases key b h1 with ⟨p, q⟩ | ⟨p, q⟩ <;> rcases key b' h2 with ⟨p', q'⟩ | ⟨p', q'⟩ <;> omega
  · have e1 : (H ++ J)[b]? = H[b]? := List.getElem?_append_left hb
    have e2 : (H ++ [x])[b]? = H[b]? := List.getElem?_append_left hb
    exact ⟨e2.trans e1.symm, .inl e1⟩

end Go.Sim
