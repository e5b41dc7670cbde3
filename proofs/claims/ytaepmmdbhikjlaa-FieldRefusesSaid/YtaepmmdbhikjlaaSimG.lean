/- The semantic simulation logic, part 7: code, calls. -/
import Derived.Test.YtaepmmdbhikjlaaSimF
import Derived.RangeFuncIn
import Derived.RangeFuncRecord
import Derived.RangeFuncLeaves
namespace Go.Sim
open Go

inductive AX where
  | normal
  | exit (id : Nat)
  | ret

def Arr (P : Program) (m : Machine) (b : Frame) (k : List Item) (cs : List Frame) : AX → Act → World → Prop
  | .normal, a, w => Steps P m (lone (b.atR a k) cs w)
  | .exit id, a, w => ∃ todo, exitTo id todo = exitTo id k ∧ Steps P m (lone (b.atR a (.code (.exit id) :: todo)) cs w)
  | .ret, a, w => ∃ todo, Steps P m (lone (b.atR a (.code .ret :: todo)) cs w)

theorem Arr.of_steps {P : Program} {m m' : Machine} {b : Frame} {k : List Item} {cs : List Frame} {x : AX} {a : Act} {w : World} (h : Steps P m m') (r : Arr P m' b k cs x a w) : Arr P m b k cs x a w := by
  cases x with
  | normal => exact h.trans r
  | exit id => obtain ⟨t, e, s⟩ := r; exact ⟨t, e, h.trans s⟩
  | ret => obtain ⟨t, s⟩ := r; exact ⟨t, h.trans s⟩

def RoR (i : Inj) : Option Nat → Option Nat → Prop
  | none, r => r = none
  | some l, r => ∃ L, i l = some L ∧ r = some L.blk
theorem RoR.mono {i j : Inj} (h : i.le j) {a b : Option Nat} (r : RoR i a b) : RoR j a b := by
  cases a with
  | none => exact r
  | some l => obtain ⟨L, h1, h2⟩ := r; exact ⟨L, h _ _ h1, h2⟩

def CSim (P : Program) (n : Nat) (ro : Option Nat) (c : Code) (s : St) (H : AH) (x : AX) (s' : St) (H' : AH) : Prop :=
  ∀ (i : Inj) (w : World) (b : Frame) (a : Act) (k : List Item) (cs : List Frame), Rel i H w → StR i n s a → RoR i ro b.roundOf →
    ∃ i' w' a', Ext i i' H H' w w' ∧ Rel i' H' w' ∧ StR i' n s' a' ∧ Arr P (lone (b.atR a (.code c :: k)) cs w) b k cs x a' w'

def W (P : Program) (n : Nat) (ro : Option Nat) (c : Code) (s : St) (H : AH) (Q : AX → St → AH → Prop) : Prop :=
  ∃ x s' H', Q x s' H' ∧ CSim P n ro c s H x s' H'

section rules
variable {P : Program} {n : Nat} {ro : Option Nat} {s : St} {H : AH} {Q : AX → St → AH → Prop}

theorem W.mono {c : Code} {Q' : AX → St → AH → Prop} (h : W P n ro c s H Q) (hq : ∀ x s H, Q x s H → Q' x s H) : W P n ro c s H Q' :=
  let ⟨x, s', H', q, r⟩ := h; ⟨x, s', H', hq _ _ _ q, r⟩
theorem W.skip (h : Q .normal s H) : W P n ro .skip s H Q :=
  ⟨.normal, s, H, h, fun i w _ a _ _ hr hs _ => ⟨i, w, a, .refl hr, hr, hs, .one stepR_skip⟩⟩
theorem W.exit {id : Nat} (h : Q (.exit id) s H) : W P n ro (.exit id) s H Q :=
  ⟨.exit id, s, H, h, fun i w _ a k _ hr hs _ => ⟨i, w, a, .refl hr, hr, hs, k, rfl, Steps.refl _ _⟩⟩
theorem W.ret (h : Q .ret s H) : W P n ro .ret s H Q :=
  ⟨.ret, s, H, h, fun i w _ a k _ hr hs _ => ⟨i, w, a, .refl hr, hr, hs, k, Steps.refl _ _⟩⟩

def AX.then (K : St → AH → Prop) (Q : AX → St → AH → Prop) : AX → St → AH → Prop
  | .normal, s, H => K s H
  | x, s, H => Q x s H

theorem Arr.pass {P : Program} {m : Machine} {b : Frame} {k : List Item} {cs : List Frame} {x : AX} {a : Act} {w : World} {it : Item} (hx : ∀ id, exitTo id (it :: k) = exitTo id k) (hn : x ≠ .normal) (r : Arr P m b (it :: k) cs x a w) : Arr P m b k cs x a w := by
  cases x with
  | normal => exact absurd rfl hn
  | exit id => obtain ⟨t, e, s⟩ := r; exact ⟨t, e.trans (hx id), s⟩
  | ret => exact r

theorem W.seq {c d : Code} (h : W P n ro c s H (AX.then (fun s H => W P n ro d s H Q) Q)) : W P n ro (.seq c d) s H Q := by
  obtain ⟨x, s1, H1, q, r⟩ := h
  cases x with
  | normal =>
    obtain ⟨y, s2, H2, q2, r2⟩ := q
    refine ⟨y, s2, H2, q2, fun i w b a k cs hr hs hro => ?_⟩
    obtain ⟨i1, w1, a1, e1, g1, t1, p1⟩ := r i w b a (.code d :: k) cs hr hs hro
    obtain ⟨i2, w2, a2, e2, g2, t2, p2⟩ := r2 i1 w1 b a1 k cs g1 t1 (hro.mono e1.le)
    exact ⟨i2, w2, a2, e1.trans e2, g2, t2, .of_steps (.head stepR_seq p1) p2⟩
  | exit id =>
    refine ⟨_, s1, H1, q, fun i w b a k cs hr hs hro => ?_⟩
    obtain ⟨i1, w1, a1, e1, g1, t1, p1⟩ := r i w b a (.code d :: k) cs hr hs hro
    exact ⟨i1, w1, a1, e1, g1, t1, .of_steps (.one stepR_seq) (Arr.pass (fun _ => rfl) (by simp) p1)⟩
  | ret =>
    refine ⟨_, s1, H1, q, fun i w b a k cs hr hs hro => ?_⟩
    obtain ⟨i1, w1, a1, e1, g1, t1, p1⟩ := r i w b a (.code d :: k) cs hr hs hro
    exact ⟨i1, w1, a1, e1, g1, t1, .of_steps (.one stepR_seq) (Arr.pass (fun _ => rfl) (by simp) p1)⟩

theorem W.cond {c : Operand} {x y : Code} {t : Bool} (hc : okX c = true) (ht : ev s c = .bool t) (h : W P n ro (if t then x else y) s H Q) : W P n ro (.cond c x y) s H Q := by
  obtain ⟨e, s1, H1, q, r⟩ := h
  refine ⟨e, s1, H1, q, fun i w b a k cs hr hs hro => ?_⟩
  obtain ⟨i1, w1, a1, e1, g1, t1, p1⟩ := r i w b a k cs hr hs hro
  have hv := ev_rel hs hc
  rw [ht] at hv
  have hb : a.eval c = .bool t := by
    generalize a.eval c = z at hv
    cases hv; rfl
  exact ⟨i1, w1, a1, e1, g1, t1, .of_steps (.one (stepR_cond hb)) p1⟩
theorem W.cond_true {c : Operand} {x y : Code} (hc : okX c = true) (ht : ev s c = .bool true) (h : W P n ro x s H Q) : W P n ro (.cond c x y) s H Q := W.cond hc ht h
theorem W.cond_false {c : Operand} {x y : Code} (hc : okX c = true) (ht : ev s c = .bool false) (h : W P n ro y s H Q) : W P n ro (.cond c x y) s H Q := W.cond hc ht h

def AX.inBlock (id : Nat) (Q : AX → St → AH → Prop) : AX → St → AH → Prop
  | .exit id', s, H => if id' = id then Q .normal s H else Q (.exit id') s H
  | x, s, H => Q x s H

theorem W.block {id : Nat} {c : Code} (h : W P n ro c s H (AX.inBlock id Q)) : W P n ro (.block id c) s H Q := by
  obtain ⟨x, s1, H1, q, r⟩ := h
  cases x with
  | normal =>
    refine ⟨.normal, s1, H1, q, fun i w b a k cs hr hs hro => ?_⟩
    obtain ⟨i1, w1, a1, e1, g1, t1, p1⟩ := r i w b a (.inBlock id :: k) cs hr hs hro
    exact ⟨i1, w1, a1, e1, g1, t1, .head stepR_block (Steps.trans p1 (.one stepR_inBlock))⟩
  | exit id' =>
    by_cases hid : id' = id
    · simp only [AX.inBlock, hid, if_true] at q
      refine ⟨.normal, s1, H1, q, fun i w b a k cs hr hs hro => ?_⟩
      obtain ⟨i1, w1, a1, e1, g1, t1, todo, p1, p2⟩ := r i w b a (.inBlock id :: k) cs hr hs hro
      refine ⟨i1, w1, a1, e1, g1, t1, .head stepR_block (Steps.trans p2 (.one (stepR_exit ?_)))⟩
      rw [p1, hid]; simp [exitTo]
    · simp only [AX.inBlock, hid, if_false] at q
      refine ⟨.exit id', s1, H1, q, fun i w b a k cs hr hs hro => ?_⟩
      obtain ⟨i1, w1, a1, e1, g1, t1, todo, p1, p2⟩ := r i w b a (.inBlock id :: k) cs hr hs hro
      refine ⟨i1, w1, a1, e1, g1, t1, todo, ?_, .head stepR_block p2⟩
      rw [p1]
      have : (id == id') = false := by simp; exact fun h => hid h.symm
      simp [exitTo, this]
  | ret =>
    refine ⟨.ret, s1, H1, q, fun i w b a k cs hr hs hro => ?_⟩
    obtain ⟨i1, w1, a1, e1, g1, t1, todo, p1⟩ := r i w b a (.inBlock id :: k) cs hr hs hro
    exact ⟨i1, w1, a1, e1, g1, t1, todo, .head stepR_block p1⟩

theorem W.loop {c : Code} (I : St → AH → Prop) (μ : St → AH → Nat) (h0 : I s H)
    (round : ∀ s H, I s H → W P n ro c s H (AX.then (fun s' H' => I s' H' ∧ μ s' H' < μ s H) Q)) : W P n ro (.loop c) s H Q := by
  -- from the loop's body on
  have key : ∀ m s H, μ s H = m → I s H → ∃ x s' H', Q x s' H' ∧ ∀ (i : Inj) (w : World) (b : Frame) (a : Act) (k : List Item) (cs : List Frame), Rel i H w → StR i n s a → RoR i ro b.roundOf →
      ∃ i' w' a', Ext i i' H H' w w' ∧ Rel i' H' w' ∧ StR i' n s' a' ∧ Arr P (lone (b.atR a (.code c :: .inLoop c :: k)) cs w) b k cs x a' w' := by
    intro m
    induction m using Nat.strongRecOn with
    | _ m ih =>
      intro s H hm hI
      obtain ⟨x, s1, H1, q, r⟩ := round s H hI
      cases x with
      | normal =>
        obtain ⟨hI1, hlt⟩ := q
        obtain ⟨y, s2, H2, q2, r2⟩ := ih (μ s1 H1) (hm ▸ hlt) s1 H1 rfl hI1
        refine ⟨y, s2, H2, q2, fun i w b a k cs hr hs hro => ?_⟩
        obtain ⟨i1, w1, a1, e1, g1, t1, p1⟩ := r i w b a (.inLoop c :: k) cs hr hs hro
        obtain ⟨i2, w2, a2, e2, g2, t2, p2⟩ := r2 i1 w1 b a1 k cs g1 t1 (hro.mono e1.le)
        exact ⟨i2, w2, a2, e1.trans e2, g2, t2, .of_steps (Steps.trans p1 (.one stepR_inLoop)) p2⟩
      | exit id =>
        refine ⟨_, s1, H1, q, fun i w b a k cs hr hs hro => ?_⟩
        obtain ⟨i1, w1, a1, e1, g1, t1, p1⟩ := r i w b a (.inLoop c :: k) cs hr hs hro
        exact ⟨i1, w1, a1, e1, g1, t1, Arr.pass (fun _ => rfl) (by simp) p1⟩
      | ret =>
        refine ⟨_, s1, H1, q, fun i w b a k cs hr hs hro => ?_⟩
        obtain ⟨i1, w1, a1, e1, g1, t1, p1⟩ := r i w b a (.inLoop c :: k) cs hr hs hro
        exact ⟨i1, w1, a1, e1, g1, t1, Arr.pass (fun _ => rfl) (by simp) p1⟩
  obtain ⟨x, s', H', q, r⟩ := key _ s H rfl h0
  refine ⟨x, s', H', q, fun i w b a k cs hr hs hro => ?_⟩
  obtain ⟨i1, w1, a1, e1, g1, t1, p1⟩ := r i w b a k cs hr hs hro
  exact ⟨i1, w1, a1, e1, g1, t1, .of_steps (.one stepR_loop) p1⟩
end rules

/-! ### regions in the text's order -/
def wantedA (ops : Array Oper) (s : St) (o : Oper) : Bool :=
  match o.guard with
  | none => true
  | some (j, want) => match (ops[j]?).bind (·.dst) with
    | some d => match s.env d with
      | .bool b => b == want
      | _ => false
    | none => false

theorem wanted_eq {i : Inj} {s : St} {a : Act} (h : ∀ t, VR i (s.env t) (a.tmps.getD t undef)) (ops : Array Oper) (o : Oper) : Region.wanted o (yielded ops a.tmps) = wantedA ops s o := by
  unfold Region.wanted wantedA
  cases hg : o.guard with
  | none => rfl
  | some g =>
    obtain ⟨j, want⟩ := g
    simp only [yielded]
    cases hd : (ops[j]?).bind (·.dst) with
    | none => simp
    | some d =>
      simp only [Option.bind_some]
      have hv := h d
      rw [Array.getD_eq_getD_getElem?] at hv
      cases ht : a.tmps[d]? with
      | none =>
        rw [ht] at hv
        simp only [Option.getD_none] at hv
        generalize s.env d = z at hv
        cases z <;> first | rfl | (cases hv)
      | some u =>
        rw [ht] at hv
        simp only [Option.getD_some] at hv
        generalize s.env d = z at hv
        cases hv <;> simp

def opsW (P : Program) (n : Nat) (ops : Array Oper) : List Nat → St → AH → (St → AH → Prop) → Prop
  | [], s, H, K => K s H
  | j :: rest, s, H, K => ∃ o, ops[j]? = some o ∧ (∀ d, o.dst = some d → d < n) ∧
      ((wantedA ops s o = false ∧ opsW P n ops rest (s.put o.dst undef) H K) ∨
       (wantedA ops s o = true ∧ o.op.operands.toList.all okX = true ∧ ∃ v H', OpSim P o (o.op.operands.toList.map (ev s)) H v H' ∧ opsW P n ops rest (s.put o.dst v) H' K))

theorem opsW_sound {P : Program} {n : Nat} {ops : Array Oper} : ∀ (l : List Nat) (s : St) (H : AH) (K : St → AH → Prop), opsW P n ops l s H K →
    ∃ s' H', K s' H' ∧ ∀ (i : Inj) (w : World) (b : Frame) (a : Act) (k : List Item) (cs : List Frame), Rel i H w → StR i n s a →
      ∃ i' w' a', Ext i i' H H' w w' ∧ Rel i' H' w' ∧ StR i' n s' a' ∧ Steps P (lone (b.atR a (.inRegion ops l :: k)) cs w) (lone (b.atR a' k) cs w')
  | [], s, H, K, h => ⟨s, H, h, fun i w b a k cs hr hs => ⟨i, w, a, .refl hr, hr, hs, .one stepR_region_end⟩⟩
  | j :: rest, s, H, K, h => by
    obtain ⟨o, ho, hd, h⟩ := h
    rcases h with ⟨hw, h⟩ | ⟨hw, hx, v, H1, hop, h⟩
    · obtain ⟨s', H', q, r⟩ := opsW_sound rest _ _ K h
      refine ⟨s', H', q, fun i w b a k cs hr hs => ?_⟩
      obtain ⟨i2, w2, a2, e2, g2, t2, p2⟩ := r i w b (a.put o.dst undef) k cs hr (hs.put hd (VR.undef i))
      refine ⟨i2, w2, a2, e2, g2, t2, .head ?_ p2⟩
      have := stepR_op_skip (P := P) (b := b) (a := a) (k := k) (cs := cs) (w := w) (ops := ops) (i := j) (rest := rest) (by rw [ho]; simp [wanted_eq hs.env, hw])
      rw [ho] at this
      exact this
    · obtain ⟨s', H', q, r⟩ := opsW_sound rest _ _ K h
      refine ⟨s', H', q, fun i w b a k cs hr hs => ?_⟩
      obtain ⟨i1, w1, v1, e1, g1, hv1, p1⟩ := hop i w _ hr (evs_rel hs hx) b a ops j rest k cs ho (by rw [wanted_eq hs.env, hw]) rfl
      obtain ⟨i2, w2, a2, e2, g2, t2, p2⟩ := r i1 w1 b (a.put o.dst v1) k cs g1 ((hs.mono e1.le).put hd hv1)
      exact ⟨i2, w2, a2, e1.trans e2, g2, t2, p1.trans p2⟩

theorem W.region {P : Program} {n : Nat} {ro : Option Nat} {s : St} {H : AH} {Q : AX → St → AH → Prop} {id : Nat} {ops : Array Oper} (h : opsW P n ops (List.range ops.size) s H (Q .normal)) : W P n ro (.region id ops false) s H Q := by
  obtain ⟨s', H', q, r⟩ := opsW_sound _ _ _ _ h
  refine ⟨.normal, s', H', q, fun i w b a k cs hr hs _ => ?_⟩
  obtain ⟨i2, w2, a2, e2, g2, t2, p2⟩ := r i w b a k cs hr hs
  exact ⟨i2, w2, a2, e2, g2, t2, .head stepR_region p2⟩

/-! ### functions -/
def FSim (P : Program) (f : FuncId) (args : List Value) (H : AH) (v : Value) (H' : AH) : Prop :=
  ∀ (i : Inj) (w : World) (args' : List Value), Rel i H w → VRs i args args' → ∀ cs, ∃ i' w' v' fr, Ext i i' H H' w w' ∧ Rel i' H' w' ∧ VR i' v v' ∧
    Steps P (lone (Frame.enter P f args'.toArray .normal) cs w) (lone fr cs w') ∧ fr.fn = f ∧ fr.leaving P w' (.returned v')
def F (P : Program) (f : FuncId) (args : List Value) (H : AH) (R : Value → AH → Prop) : Prop := ∃ v H', R v H' ∧ FSim P f args H v H'
theorem F.mono {P : Program} {f : FuncId} {args : List Value} {H : AH} {R R' : Value → AH → Prop} (h : F P f args H R) (hr : ∀ v H, R v H → R' v H) : F P f args H R' :=
  let ⟨v, H', r, q⟩ := h; ⟨v, H', hr _ _ r, q⟩

def env0 (args : List Value) : Nat → Value := fun t => args.getD t undef

/-- The results, as the abstract frame has them. -/
def resA (P : Program) (H : AH) (s : St) : ResultVar → Option Value
  | .tmp t => some (s.env t)
  | .cell a t => match s.env a with
    | .pointer (some ad) => eload P H t ad
    | _ => none
def ressA (P : Program) (H : AH) (s : St) (l : List ResultVar) : Option Value :=
  match l.mapM (resA P H s) with
  | some [v] => some v
  | some vs => some (.tuple vs.toArray)
  | none => none

/-- The results, as the world's frame has them. -/
def resC (tmps : Array Value) : ResultVar → Sem Value
  | .tmp t => pure (tmps.getD t undef)
  | .cell a t => do loadVar t (← asAddr (tmps.getD a undef))
theorem results_eq (fn : Func) (tmps : Array Value) : results fn tmps = (do let vs ← fn.results.mapM (resC tmps); pure (if h : vs.size = 1 then vs[0] else .tuple vs)) := by
  unfold results
  rfl

theorem resA_sim {P : Program} {i : Inj} {n : Nat} {H : AH} {w : World} {s : St} {a : Act} (hr : Rel i H w) (hs : StR i n s a) {r : ResultVar} {v : Value} (h : resA P H s r = some v) :
    ∃ v', VR i v v' ∧ (resC a.tmps r).run P w = .ok v' w := by
  cases r with
  | tmp t =>
    simp [resA] at h
    subst h
    exact ⟨_, hs.env t, rfl⟩
  | cell p t =>
    have hv := hs.env p
    unfold resA at h
    simp only at h
    split at h
    · rename_i ad he
      rw [he] at hv
      unfold resC
      simp only
      generalize a.tmps.getD p undef = z at hv ⊢
      cases hv with
      | ptr hb hsp =>
        obtain ⟨v', h1, h2⟩ := loadVar_sim hr hb h
        exact ⟨v', h1, by simp only [asAddr, Sem.run_bind, Sem.run_pure, Result.andThen_ok, h2]⟩
    · cases h

theorem ress_sim {P : Program} {i : Inj} {n : Nat} {H : AH} {w : World} {s : St} {a : Act} (hr : Rel i H w) (hs : StR i n s a) : ∀ (l : List ResultVar) (vs : List Value), l.mapM (resA P H s) = some vs →
    ∃ vs', VRs i vs vs' ∧ (l.mapM (resC a.tmps)).run P w = .ok vs' w
  | [], vs, h => by
    simp at h
    subst h
    exact ⟨[], .nil, by simp⟩
  | r :: l, vs, h => by
    simp only [List.mapM_cons, Option.bind_eq_bind, Option.bind_eq_some_iff, Option.pure_def, Option.some.injEq] at h
    obtain ⟨v, h1, us, h2, rfl⟩ := h
    obtain ⟨v', p, q⟩ := resA_sim hr hs h1
    obtain ⟨us', p2, q2⟩ := ress_sim hr hs l us h2
    refine ⟨v' :: us', .cons p p2, ?_⟩
    rw [List.mapM_cons, Sem.run_bind, q, Result.andThen_ok, Sem.run_bind, q2, Result.andThen_ok]
    rfl

theorem results_sim {P : Program} {i : Inj} {n : Nat} {H : AH} {w : World} {s : St} {a : Act} (hr : Rel i H w) (hs : StR i n s a) {fn : Func} {v : Value} (h : ressA P H s fn.results.toList = some v) :
    ∃ v', VR i v v' ∧ (results fn a.tmps).run P w = .ok v' w := by
  unfold ressA at h
  cases hm : fn.results.toList.mapM (resA P H s) with
  | none => simp [hm] at h
  | some vs =>
    obtain ⟨vs', h1, h2⟩ := ress_sim hr hs _ vs hm
    have hrun : (fn.results.mapM (resC a.tmps)).run P w = .ok vs'.toArray w := by
      rw [Array.mapM_eq_mapM_toList, Sem.run_map, h2, Result.andThen_ok]
    rw [hm] at h
    have hres : (results fn a.tmps).run P w = .ok (if h : vs'.toArray.size = 1 then vs'.toArray[0] else .tuple vs'.toArray) w := by
      rw [results_eq, Sem.run_bind, hrun, Result.andThen_ok]
      rfl
    cases h1 with
    | nil =>
      simp at h
      subst h
      exact ⟨_, VRs.tup .nil, by rw [hres]; rfl⟩
    | cons p q =>
      cases q with
      | nil =>
        simp at h
        subst h
        exact ⟨_, p, by rw [hres]; rfl⟩
      | cons q1 q2 =>
        simp at h
        subst h
        refine ⟨_, VRs.tup (.cons p (.cons q1 q2)), ?_⟩
        rw [hres, dif_neg (by simp)]

/-- A function on its way out: the marks of its loops over functions. -/
def unwA : List Deferred → AH → Option AH
  | [], H => some H
  | ⟨.collected r, _⟩ :: ds, H => match H[r]? with
    | some (.defs (some [])) => unwA ds (H.set r (.defs none))
    | _ => none
  | _ :: _, _ => none

def bodyQ (P : Program) (fn : Func) (R : Value → AH → Prop) : AX → St → AH → Prop
  | .exit _, _, _ => False
  | _, s, H => ∃ H' v, unwA s.ds H = some H' ∧ ressA P H' s fn.results.toList = some v ∧ R v H'

/-- Another object in the place of one of one's own. -/
theorem rel_obj {i : Inj} {H : AH} {w : World} (h : Rel i H w) {b : Nat} {L : Loc} {x x' : AB} {o' : Obj} (hb : i b = some L) (hx : H[b]? = some x) (ho : x.owned = true) (hbl : BlkR i x' L (w.putObj L.blk o')) :
    Rel i (H.set b x') (w.putObj L.blk o') ∧ Ext i i H (H.set b x') w (w.putObj L.blk o') := by
  have hlt : b < H.length := h.dom b L hb
  refine ⟨⟨fun n M hn => by simpa using h.dom n M hn, fun n M y hn hy => ?_, fun b1 b2 L1 L2 x1 x2 f1 f2 g1 g2 o1 l2 hL => ?_⟩, ?_⟩
  · by_cases hnb : n = b
    · subst hnb
      rw [hb] at hn
      cases hn
      rw [List.getElem?_set_self hlt] at hy
      cases hy
      exact hbl
    · rw [List.getElem?_set_ne (Ne.symm hnb)] at hy
      have hr := h.blk n M y hn hy
      by_cases hyl : y.live = true
      · refine hr.heap (World.putObj_heap_other ?_)
        intro hM
        exact hnb (h.inj b n L M x y hb hn hx hy ho hyl hM.symm).symm
      · cases y <;> simp [AB.live] at hyl
        trivial
  · have key : ∀ (n : Nat) (y : AB), (H.set b x')[n]? = some y → n = b ∨ (n ≠ b ∧ H[n]? = some y) := by
      intro n y hy
      by_cases hnb : n = b
      · exact .inl hnb
      · rw [List.getElem?_set_ne (Ne.symm hnb)] at hy; exact .inr ⟨hnb, hy⟩
    rcases key b1 x1 g1 with rfl | ⟨n1, g1'⟩
    · rcases key b2 x2 g2 with rfl | ⟨n2, g2'⟩
      · rfl
      · exact h.inj b1 b2 L1 L2 x x2 f1 f2 hx g2' ho l2 hL
    · rcases key b2 x2 g2 with rfl | ⟨n2, g2'⟩
      · exact h.inj b1 b2 L1 L2 x1 x f1 f2 g1' hx o1 (AB.owned_live ho) hL
      · exact h.inj b1 b2 L1 L2 x1 x2 f1 f2 g1' g2' o1 l2 hL
  · refine ⟨h.dom, i.le_refl, rfl, rfl, rfl, by simp, by simp, fun n y hn hy hyo => ?_, fun n hn hno => ?_, fun n hn hi => ?_, fun n M hn => .inl hn⟩
    · by_cases hnb : n = b
      · subst hnb; exact ⟨x, hx, ho⟩
      · rw [List.getElem?_set_ne (Ne.symm hnb)] at hy; exact ⟨y, hy, hyo⟩
    · exact World.putObj_heap_other (fun hM => hno b L x hb hx ho hM.symm)
    · refine List.getElem?_set_ne (fun hnb => ?_)
      subst hnb; rw [hb] at hi; cases hi

theorem unw_sim {P : Program} : ∀ (ds : List Deferred) (H H' : AH) (i : Inj) (w : World) (ds' : List Deferred) (fr : Frame) (cs : List Frame), unwA ds H = some H' → Rel i H w → DefsR i ds ds' → fr.mode = .returning → fr.defers = ds' →
    ∃ w', Ext i i H H' w w' ∧ Rel i H' w' ∧ Steps P (lone fr cs w) (lone { fr with defers := [] } cs w')
  | [], H, H', i, w, ds', fr, cs, h, hr, hd, hm, hf => by
    cases hd
    simp [unwA] at h
    subst h
    refine ⟨w, .refl hr, hr, ?_⟩
    have : { fr with defers := [] } = fr := by cases fr; simp at hf; simp [hf]
    rw [this]; exact Steps.refl _ _
  | ⟨tg, ar⟩ :: ds, H, H', i, w, ds', fr, cs, h, hr, hd, hm, hf => by
    cases hd with
    | cons hd1 hd2 =>
      cases hd1 with
      | fn => simp [unwA] at h
      | collected e =>
        rename_i l' r L
        simp only [unwA] at h
        split at h
        · rename_i hH
          obtain ⟨d', hw1, hw2⟩ := hr.blk r L _ e hH
          cases hw2
          have hlt : L.blk < w.heap.size := (Array.getElem?_eq_some_iff.1 hw1).1
          obtain ⟨hrel, hext⟩ := rel_obj hr (x' := .defs none) (o' := .deferred none) e hH rfl (World.putObj_heap_same hlt)
          obtain ⟨w2, e2, g2, p2⟩ := unw_sim ds _ H' i (w.putObj L.blk (.deferred none)) l' { fr with defers := l' } cs h hrel hd2 hm rfl
          refine ⟨w2, hext.trans e2, g2, .head ?_ p2⟩
          have := step_collected (P := P) (fr := fr) (cs := cs) (w := w) (calls := []) (by rw [hm]; simp) hf rfl (run_takeDeferred hw1)
          simpa using this
        · cases h

theorem env0_rel {i : Inj} {args args' : List Value} (h : VRs i args args') (m : Nat) : StR i (args.length + (m - args.length)) ⟨env0 args, []⟩ { tmps := args'.toArray ++ Array.replicate (m - args'.toArray.size) undef, defers := [] } := by
  have hl := h.length
  refine ⟨by simp [hl], fun t => ?_, .nil⟩
  simp only [env0]
  rw [Array.getD_eq_getD_getElem?, List.getD_eq_getElem?_getD]
  by_cases ht : t < args.length
  · obtain ⟨v', h1, h2⟩ := h.get (List.getElem?_eq_getElem ht)
    rw [Array.getElem?_append_left (by simpa [← hl] using ht)]
    simp only [List.getElem?_toArray, h1, List.getElem?_eq_getElem ht, Option.getD_some]
    exact h2
  · rw [List.getElem?_eq_none (by omega), Array.getElem?_append_right (by simp; omega)]
    simp only [Array.getElem?_replicate, Option.getD_none]
    split <;> exact VR.undef i

theorem F.of_body {P : Program} {f : FuncId} {fn : Func} {c : Code} {args : List Value} {H : AH} {R : Value → AH → Prop} (hf : P.funcs[f]? = some fn) (hb : fn.body = some c) (hn : args.length ≤ fn.ntmps)
    (h : W P fn.ntmps none c ⟨env0 args, []⟩ H (bodyQ P fn R)) : F P f args H R := by
  obtain ⟨x, s', H', q, r⟩ := h
  have key : ∃ H'' v, unwA s'.ds H' = some H'' ∧ ressA P H'' s' fn.results.toList = some v ∧ R v H'' := by
    cases x with
    | exit id => exact q.elim
    | normal => exact q
    | ret => exact q
  obtain ⟨H'', v, hun, hres, hR⟩ := key
  refine ⟨v, H'', hR, fun i w args' hr hv cs => ?_⟩
  let b : Frame := { (default : Frame) with fn := f, kind := .normal, roundOf := none }
  have henter : Frame.enter P f args'.toArray .normal = b.atR { tmps := args'.toArray ++ Array.replicate (fn.ntmps - args'.toArray.size) undef, defers := [] } [.code c] := by
    simp [Frame.enter, Frame.atR, hf, hb, b]
  have hs := env0_rel hv fn.ntmps
  rw [show args.length + (fn.ntmps - args.length) = fn.ntmps by omega] at hs
  obtain ⟨i1, w1, a1, e1, g1, t1, p1⟩ := r i w b _ [] cs hr hs rfl
  have fin : ∃ todo, Steps P (lone (b.atR { tmps := args'.toArray ++ Array.replicate (fn.ntmps - args'.toArray.size) undef, defers := [] } [.code c]) cs w) (lone { b.atR a1 todo with mode := .returning } cs w1) := by
    cases x with
    | exit id => exact q.elim
    | normal => exact ⟨[], Steps.trans p1 (.one (stepR_end rfl))⟩
    | ret => obtain ⟨todo, p1⟩ := p1; exact ⟨.code .ret :: todo, Steps.trans p1 (.one (stepR_ret rfl))⟩
  obtain ⟨todo, fin⟩ := fin
  obtain ⟨w2, e2, g2, p2⟩ := unw_sim (P := P) s'.ds H' H'' i1 w1 a1.defers { b.atR a1 todo with mode := .returning } cs hun g1 t1.ds rfl rfl
  obtain ⟨v', hv1, hv2⟩ := results_sim g2 t1 hres
  rw [henter]
  exact ⟨i1, w2, v', _, e1.trans e2, g2, hv1, fin.trans p2, rfl, rfl, rfl, rfl, fn, hf, hv2⟩

/-- A call of a named function or of a function value, as an operation. -/
theorem opSim_call {P : Program} {o : Oper} {c : Call} {f : Operand} (ho : o.op = .call c) (hc : c.callee = .value f) {g : FuncId} {fn : Func} (hg : P.funcs[g]? = some fn) (hb : fn.body.isSome = true) (hname : (fn.name == "runtime.NumGoroutine") = false)
    {first cap : Array Value} {vs : List Value} {v : Value} {H H' : AH} (h : FSim P g (first.toList ++ vs ++ cap.toList) H v H') : OpSim P o (.func (.func g) first cap :: vs) H v H' := by
  intro i w vs' hr hvs b a ops j rest k cs ho' hw hρ
  cases hvs with
  | cons hf hrest =>
    rename_i f' us'
    cases hf with
    | func hfn hs1 h1 hs2 h2 =>
      rename_i fn' first' cap'
      cases hfn
      have hop : o.op.operands.toList = f :: c.args.toList := by rw [ho]; simp [Op.operands, Call.operands, hc]
      rw [hop] at hρ
      simp only [List.map_cons, List.cons.injEq] at hρ
      obtain ⟨e1, e2⟩ := hρ
      have hargs : VRs i (first.toList ++ vs ++ cap.toList) (first'.toList ++ us' ++ cap'.toList) := ((VRs.of_arr hs1 h1).append hrest).append (VRs.of_arr hs2 h2)
      obtain ⟨i', w', v', fr, q1, q2, q3, q4, q5, q6⟩ := h i w _ hr hargs (b.atR a (.inRegion ops (j :: rest) :: k) :: cs)
      refine ⟨i', w', v', q1, q2, q3, ?_⟩
      have hnd : ∀ c, o.op ≠ .defer c := by intro c'; rw [ho]; simp
      have hgs := stepGR_op (P := P) (b := b) (k := k) (cs := cs) (w := w) (rest := rest) ho' hw
      rw [Oper.semAt_eq _ _ _ hnd] at hgs
      have hrun : (execOp a.eval o).run P w = .ok (.enter g (first'.toList ++ us' ++ cap'.toList).toArray) w := by
        unfold execOp
        rw [ho]
        have ha : (c.args.map a.eval) = us'.toArray := by
          apply Array.ext'
          simpa using e2
        simp only [resolve, hc, e1, ha, Deferred.ofValue, Sem.run_bind, Sem.run_pure, Result.andThen_ok, invoke, callFunc, program, Sem.run, hg, hname, Bool.false_eq_true, if_false]
        rw [if_neg (by cases hbb : fn.body <;> simp_all)]
        simp
      have hfin : ∀ u, (b.atR a (.inRegion ops (j :: rest) :: k)).finish u = b.atR (a.put o.dst u) (.inRegion ops rest :: k) := by
        intro u; rw [Frame.finish_atR, ho']; rfl
      have henter : step P (lone (b.atR a (.inRegion ops (j :: rest) :: k)) cs w) = .next (lone (Frame.enter P g (first'.toList ++ us' ++ cap'.toList).toArray .normal) (b.atR a (.inRegion ops (j :: rest) :: k) :: cs) w) :=
        step_lone_go (by rw [hgs]; simp [stepG.apply, hrun, Frame.atR])
      refine .head henter (q4.trans (.one ?_))
      rw [← hfin]
      exact step_leave_returned q6

end Go.Sim
