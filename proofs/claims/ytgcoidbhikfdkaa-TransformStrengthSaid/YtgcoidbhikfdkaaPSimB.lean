/- Part of the proof: SimB. -/
import Derived.Test.YtgcoidbhikfdkaaPSimA
import Derived.Laws.StructEq
set_option linter.all false
namespace Go.Sim
open Go
structure St where
  env : Nat → Value
  ds : List Deferred
def St.put (s : St) (dst : Option Tmp) (v : Value) : St :=
  match dst with
  | some d => { s with env := fun t => if t = d then v else s.env t }
  | none => s
def isColl (d : Deferred) : Bool := match d.target with | .collected _ => true | _ => false
def QuietD (P : Program) (d : Deferred) : Prop := ∀ (fr : Frame) (cs : List Frame) (w : World) (ds : List Deferred), fr.mode = .returning → fr.defers = d :: ds →
  Steps P (lone fr cs w) (lone { fr with defers := ds } cs w)
structure DsR (P : Program) (i : Inj) (ds : List Deferred) (l : List Deferred) : Prop where
  col : DefsR i ds (l.filter isColl)
  qd : ∀ d ∈ l, isColl d = false → QuietD P d
theorem DsR.mono {P : Program} {i j : Inj} (h : i.le j) {ds l : List Deferred} (r : DsR P i ds l) : DsR P j ds l := ⟨r.col.mono h, r.qd⟩
theorem DsR.nil {P : Program} {i : Inj} : DsR P i [] [] := ⟨.nil, fun d hd => by cases hd⟩
theorem DsR.collected {P : Program} {i : Inj} {ds l : List Deferred} {r : Nat} {L : Loc} (h : i r = some L) (k : DsR P i ds l) : DsR P i (⟨.collected r, #[]⟩ :: ds) (⟨.collected L.blk, #[]⟩ :: l) :=
  ⟨by rw [List.filter_cons_of_pos rfl]; exact .cons (.collected h) k.col, fun d hd hc => by
    rcases List.mem_cons.1 hd with rfl | hd
    · cases hc
    · exact k.qd d hd hc⟩
theorem DsR.quiet {P : Program} {i : Inj} {ds l : List Deferred} {d : Deferred} (hc : isColl d = false) (hq : QuietD P d) (k : DsR P i ds l) : DsR P i ds (d :: l) :=
  ⟨by rw [List.filter_cons_of_neg (by simp [hc])]; exact k.col, fun d' hd hc' => by
    rcases List.mem_cons.1 hd with rfl | hd
    · exact hq
    · exact k.qd d' hd hc'⟩
structure StR (P : Program) (i : Inj) (n : Nat) (s : St) (a : Act) : Prop where
  size : a.tmps.size = n
  env : ∀ t, VR i (s.env t) (a.tmps.getD t undef)
  ds : DsR P i s.ds a.defers
theorem StR.mono {P : Program} {i j : Inj} (h : i.le j) {n : Nat} {s : St} {a : Act} (r : StR P i n s a) : StR P j n s a :=
  ⟨r.size, fun t => (r.env t).mono h, r.ds.mono h⟩
theorem StR.put {P : Program} {i : Inj} {n : Nat} {s : St} {a : Act} (r : StR P i n s a) {dst : Option Tmp} {v v' : Value} (hd : ∀ d, dst = some d → d < n) (hv : VR i v v') : StR P i n (s.put dst v) (a.put dst v') := by
  cases dst with
  | none => exact r
  | some d =>
    have hdn := hd d rfl
    refine ⟨by simpa [Act.put] using r.size, fun t => ?_, r.ds⟩
    by_cases ht : t = d
    · subst ht
      have : t < a.tmps.size := by rw [r.size]; exact hdn
      simp [St.put, Act.put, this, hv]
    · have := r.env t
      simp only [St.put, ht, if_false, Act.put]
      simpa [Array.getElem?_setIfInBounds_ne (Ne.symm ht)] using this
def scal : Value → Bool
  | .bool _ | .int _ _ | .float _ _ | .string _ | .nilFunc | .nilIface | .pointer none | .map none | .slice none _ _ => true
  | _ => false
def ground : Value → Bool
  | .agg cs => cs.all scal
  | .tuple cs => cs.all scal
  | .iface _ v => scal v
  | v => scal v
theorem VR.of_scal {v : Value} (h : scal v = true) (i : Inj) : VR i v v := by
  unfold scal at h
  split at h <;> first | constructor | cases h
theorem VR.of_ground {v : Value} (h : ground v = true) (i : Inj) : VR i v v := by
  unfold ground at h
  split at h
  · exact .agg rfl (fun k h1 _ => VR.of_scal (Array.all_eq_true.1 h k h1) i)
  · exact .tuple rfl (fun k h1 _ => VR.of_scal (Array.all_eq_true.1 h k h1) i)
  · exact .iface _ (VR.of_scal h i)
  · exact VR.of_scal h i
def ev (s : St) : Operand → Value
  | .tmp t => s.env t
  | .const v => v
  | .func f => .func (.func f) #[] #[]
  | .global _ => undef
def okX : Operand → Bool
  | .const v => ground v
  | .global _ => false
  | _ => true
theorem ev_rel {P : Program} {i : Inj} {n : Nat} {s : St} {a : Act} (r : StR P i n s a) {x : Operand} (h : okX x = true) : VR i (ev s x) (a.eval x) := by
  cases x with
  | tmp t => exact r.env t
  | const v => exact VR.of_ground h i
  | global g => simp [okX] at h
  | func f => exact .func (.func f) rfl (fun k h => by simp at h) rfl (fun k h => by simp at h)
theorem evs_rel {P : Program} {i : Inj} {n : Nat} {s : St} {a : Act} (r : StR P i n s a) : ∀ {l : List Operand}, l.all okX = true → VRs i (l.map (ev s)) (l.map a.eval)
  | [], _ => .nil
  | x :: l, h => by
    simp at h
    exact .cons (ev_rel r h.1) (evs_rel r (by simpa using h.2))
def OpSim (P : Program) (o : Oper) (vs : List Value) (H : AH) (v : Value) (H' : AH) : Prop :=
  ∀ (i : Inj) (w : World) (vs' : List Value), Rel i H w → VRs i vs vs' → ∀ (b : Frame) (a : Act) (ops : Array Oper) (j : Nat) (rest : List Nat) (k : List Item) (cs : List Frame),
    ops[j]? = some o → Region.wanted o (yielded ops a.tmps) = true → o.op.operands.toList.map a.eval = vs' →
    ∃ i' w' v', Ext i i' H H' w w' ∧ Rel i' H' w' ∧ VR i' v v' ∧
      Steps P (lone (b.atR a (.inRegion ops (j :: rest) :: k)) cs w) (lone (b.atR (a.put o.dst v') (.inRegion ops rest :: k)) cs w')
def RunSim (P : Program) (o : Oper) (vs : List Value) (H : AH) (v : Value) (H' : AH) : Prop :=
  ∀ (i : Inj) (w : World) (vs' : List Value), Rel i H w → VRs i vs vs' → ∀ ρ : Operand → Value, o.op.operands.toList.map ρ = vs' →
    ∃ i' w' v', Ext i i' H H' w w' ∧ Rel i' H' w' ∧ VR i' v v' ∧ ((execOp ρ o).run P w = .ok (.value v') w' ∨ ((execOp ρ o).run P w = .ok .skip w' ∧ v' = undef))
theorem RunSim.op {P : Program} {o : Oper} {vs : List Value} {H H' : AH} {v : Value} (hd : ∀ c, o.op ≠ .defer c) (h : RunSim P o vs H v H') : OpSim P o vs H v H' := by
  intro i w vs' hr hv b a ops j rest k cs ho hw hvs
  obtain ⟨i', w', v', h1, h2, h3, h4⟩ := h i w vs' hr hv a.eval hvs
  refine ⟨i', w', v', h1, h2, h3, .one (step_lone_go ?_)⟩
  have hg := stepGR_op (P := P) (b := b) (k := k) (cs := cs) (w := w) (rest := rest) ho hw
  have hfin : ∀ u, (b.atR a (.inRegion ops (j :: rest) :: k)).finish u = b.atR (a.put o.dst u) (.inRegion ops rest :: k) := by
    intro u; rw [Frame.finish_atR, ho]; rfl
  rw [hg, Oper.semAt_eq _ _ _ hd, ← hfin]
  rcases h4 with h4 | ⟨h4, rfl⟩ <;> simp [stepG.apply, h4]
theorem RunSim.pure_ {P : Program} {o : Oper} {vs : List Value} {H : AH} {v : Value}
    (h : ∀ (i : Inj) (vs' : List Value), VRs i vs vs' → ∀ ρ : Operand → Value, o.op.operands.toList.map ρ = vs' → ∃ v', VR i v v' ∧ ∀ w, (execOp ρ o).run P w = .ok (.value v') w) : RunSim P o vs H v H := by
  intro i w vs' hr hv ρ hρ
  obtain ⟨v', h1, h2⟩ := h i vs' hv ρ hρ
  exact ⟨i, w, v', .refl hr, hr, h1, .inl (h2 w)⟩
theorem VRs.one {i : Inj} {v : Value} {l : List Value} (h : VRs i [v] l) : ∃ v', l = [v'] ∧ VR i v v' := by
  cases h with | cons a b => cases b; exact ⟨_, rfl, a⟩
theorem VRs.two {i : Inj} {u v : Value} {l : List Value} (h : VRs i [u, v] l) : ∃ u' v', l = [u', v'] ∧ VR i u u' ∧ VR i v v' := by
  cases h with | cons a b => cases b with | cons b c => cases c; exact ⟨_, _, rfl, a, b⟩
theorem VRs.three {i : Inj} {u v x : Value} {l : List Value} (h : VRs i [u, v, x] l) : ∃ u' v' x', l = [u', v', x'] ∧ VR i u u' ∧ VR i v v' ∧ VR i x x' := by
  cases h with | cons a b => cases b with | cons b c => cases c with | cons c d => cases d; exact ⟨_, _, _, rfl, a, b, c⟩
def aggT (P : Program) (t : TypeId) : Bool := match P.underlying t with | some (.struct _) => true | some (.array _ _) => true | _ => false
def zeroT (P : Program) (t : TypeId) : Option Value := (P.info? t).bind (·.zero)
def ikT (P : Program) (t : TypeId) : Option IntKind := match P.underlying t with | some (.int k) => some k | _ => none
def fldT (P : Program) (s : TypeId) (f : Nat) : Option (Nat × TypeId) :=
  match P.underlying s with
  | some (.struct fs) => match fs[f]? with
    | some x => match P.info? x.type with
      | some i => if i.size = 0 then none else some (x.offset, x.type)
      | none => none
    | none => none
  | _ => none
def arrT (P : Program) (t : TypeId) : Option (Nat × TypeId) := match P.underlying t with | some (.array n e) => some (n, e) | _ => none
def slT (P : Program) (t : TypeId) : Option TypeId := match P.underlying t with | some (.slice e) => some e | _ => none
def szT (P : Program) (t : TypeId) : Option Nat := (P.info? t).map (·.size)
def eqZ : List Value → List Value → Option Bool
  | [], [] => some true
  | .int k a :: l, .int k' b :: l' => if k = k' then (eqZ l l').map (fun r => (a == b) && r) else none
  | _, _ => none
def flatL (P : Program) : List Field → Nat → Bool
  | [], _ => true
  | f :: fs, j => f.name != "_" && Nat.beq f.offset j && (P.underlying f.type matches some (.int _)) && flatL P fs (j + 1)
def flatT (P : Program) (t : TypeId) : Option Nat := match P.underlying t with
  | some (.struct fs) => if flatL P fs.toList 0 && !P.stoodInHeld t && !P.eqGuardType P.depth t then some fs.size else none
  | _ => none
theorem eqZ_cons {k k' : IntKind} {a b : Int} {l l' : List Value} {r : Bool} (h : eqZ (.int k a :: l) (.int k' b :: l') = some r) : k = k' ∧ ∃ r', eqZ l l' = some r' ∧ r = ((a == b) && r') := by
  simp only [eqZ] at h
  split at h
  · rename_i hk
    cases he : eqZ l l' with
    | none => rw [he] at h; cases h
    | some r' => rw [he] at h; cases h; exact ⟨hk, r', rfl, rfl⟩
  · cases h
theorem eqZ_ints : ∀ {l l' : List Value} {r : Bool}, eqZ l l' = some r → (∀ v ∈ l, ∃ k a, v = .int k a) ∧ (∀ v ∈ l', ∃ k a, v = .int k a) ∧ l.length = l'.length
  | [], [], _, _ => ⟨by simp, by simp, rfl⟩
  | [], _ :: _, _, h => by simp [eqZ] at h
  | v :: l, [], _, h => by cases v <;> simp [eqZ] at h
  | v :: l, v' :: l', r, h => by
    cases v <;> cases v' <;> (first | (simp [eqZ] at h; done) | skip)
    obtain ⟨rfl, r', h1, h2⟩ := eqZ_cons h
    obtain ⟨i1, i2, i3⟩ := eqZ_ints h1
    refine ⟨?_, ?_, by simp [i3]⟩
    · intro v hv
      rcases List.mem_cons.1 hv with rfl | hv
      · exact ⟨_, _, rfl⟩
      · exact i1 v hv
    · intro v hv
      rcases List.mem_cons.1 hv with rfl | hv
      · exact ⟨_, _, rfl⟩
      · exact i2 v hv
def ebin (P : Program) (op : BinOp) (t : TypeId) (x y : Value) : Option Value :=
  match op, x, y with
  | .shl, .int k a, .int _ b => if 0 ≤ b then some (.int k (k.wrap (a * 2 ^ (min b.toNat k.bits)))) else none
  | .shr, .int k a, .int _ b => if 0 ≤ b then some (.int k (a.fdiv (2 ^ (min b.toNat k.bits)))) else none
  | .add, .int k a, .int k' b => if k = k' then some (.int k (k.wrap (a + b))) else none
  | .sub, .int k a, .int k' b => if k = k' then some (.int k (k.wrap (a - b))) else none
  | .mul, .int k a, .int k' b => if k = k' then some (.int k (k.wrap (a * b))) else none
  | .quo, .int k a, .int k' b => if k = k' ∧ b ≠ 0 then some (.int k (k.wrap (a.tdiv b))) else none
  | .rem, .int k a, .int k' b => if k = k' ∧ b ≠ 0 then some (.int k (a.tmod b)) else none
  | .and, .int k a, .int k' b => if k = k' then some (.int k (k.wrap (BitVec.ofInt k.bits a &&& BitVec.ofInt k.bits b).toNat)) else none
  | .or, .int k a, .int k' b => if k = k' then some (.int k (k.wrap (BitVec.ofInt k.bits a ||| BitVec.ofInt k.bits b).toNat)) else none
  | .xor, .int k a, .int k' b => if k = k' then some (.int k (k.wrap (BitVec.ofInt k.bits a ^^^ BitVec.ofInt k.bits b).toNat)) else none
  | .andNot, .int k a, .int k' b => if k = k' then some (.int k (k.wrap (BitVec.ofInt k.bits a &&& ~~~ BitVec.ofInt k.bits b).toNat)) else none
  | .eql, .int k a, .int k' b => if k = k' then some (.bool (a == b)) else none
  | .neq, .int k a, .int k' b => if k = k' then some (.bool (a != b)) else none
  | .lss, .int k a, .int k' b => if k = k' then some (.bool (decide (a < b))) else none
  | .leq, .int k a, .int k' b => if k = k' then some (.bool (decide (a ≤ b))) else none
  | .gtr, .int k a, .int k' b => if k = k' then some (.bool (decide (a > b))) else none
  | .geq, .int k a, .int k' b => if k = k' then some (.bool (decide (a ≥ b))) else none
  | .eql, .bool a, .bool b => if (P.underlying t matches some .bool) then some (.bool (a == b)) else none
  | .neq, .bool a, .bool b => if (P.underlying t matches some .bool) then some (.bool (!(a == b))) else none
  | .eql, .slice a _ _, .slice none _ _ => if (slT P t).isSome then some (.bool a.isNone) else none
  | .neq, .slice a _ _, .slice none _ _ => if (slT P t).isSome then some (.bool (!a.isNone)) else none
  | .eql, .agg a, .agg b => if flatT P t = some a.size then (eqZ a.toList b.toList).map (fun r => .bool r) else none
  | .neq, .agg a, .agg b => if flatT P t = some a.size then (eqZ a.toList b.toList).map (fun r => .bool !r) else none
  | _, _, _ => none
theorem run_underlying' (P : Program) {t : TypeId} {d : TypeDesc} (h : P.underlying t = some d) (w : World) : (underlying t).run P w = .ok d w := by
  unfold underlying
  simp [program, Bind.bind, Sem.bind, Sem.run, h]
theorem run_typeInfo' (P : Program) {t : TypeId} {d : TypeInfo} (h : P.info? t = some d) (w : World) : (typeInfo t).run P w = .ok d w := by
  unfold typeInfo
  simp [program, Bind.bind, Sem.bind, Sem.run, h]
theorem run_sizeOf' (P : Program) {t : TypeId} {n : Nat} (h : szT P t = some n) (w : World) : (sizeOf t).run P w = .ok n w := by
  unfold szT at h
  cases hi : P.info? t with
  | none => simp [hi] at h
  | some d =>
    simp [hi] at h
    unfold sizeOf
    rw [Sem.run_bind, run_typeInfo' P hi]
    simp [h]
theorem run_isAgg' (P : Program) {t : TypeId} {d : TypeDesc} (h : P.underlying t = some d) (w : World) : (isAgg t).run P w = .ok (aggT P t) w := by
  unfold isAgg
  rw [Sem.run_bind, run_underlying' P h]
  unfold aggT
  rw [h]
  cases d <;> rfl
theorem run_zero' (P : Program) {t : TypeId} {z : Value} (h : zeroT P t = some z) (w : World) : (zeroValue t).run P w = .ok z w := by
  unfold zeroT at h
  cases hi : P.info? t with
  | none => simp [hi] at h
  | some d =>
    simp [hi] at h
    unfold zeroValue
    rw [Sem.run_bind, run_typeInfo' P hi]
    simp [h]
theorem eqGuard_int (op : BinOp) (t : TypeId) (x y : Operand) (P : Program) (w : World) (k k' : IntKind) (a b : Int) : (eqGuard op t x y (.int k a) (.int k' b)).run P w = .ok () w := by
  unfold eqGuard
  cases op <;> rfl
theorem eqGuard_bool (op : BinOp) (t : TypeId) (x y : Operand) (P : Program) (w : World) (a b : Bool) : (eqGuard op t x y (.bool a) (.bool b)).run P w = .ok () w := by
  unfold eqGuard
  cases op <;> rfl
theorem eqGuard_slice (op : BinOp) (t : TypeId) (x y : Operand) (P : Program) (w : World) (a b : Option Addr) (l c m d : Nat) : (eqGuard op t x y (.slice a l c) (.slice b m d)).run P w = .ok () w := by
  unfold eqGuard
  cases op <;> rfl
theorem eqGuard_flat {P : Program} {t : TypeId} (h : P.eqGuardType P.depth t = false) (op : BinOp) (x y : Operand) (w : World) (a b : Array Value) : (eqGuard op t x y (.agg a) (.agg b)).run P w = .ok () w := by
  unfold eqGuard
  cases op <;> first | rfl | simp [run_program, h]
theorem run_binOp_exec {P : Program} {op : BinOp} {t y' : TypeId} {x y : Operand} {o : Oper} (ho : o.op = .binOp op t x y y') (ρ : Operand → Value) (w : World) (v : Value)
    (h1 : (eqGuard op t x y (ρ x) (ρ y)).run P w = .ok () w) (h2 : (binOp op t (ρ x) (ρ y)).run P w = .ok v w) : (execOp ρ o).run P w = .ok (.value v) w := by
  unfold execOp
  rw [ho]
  simp only [Sem.run_bind, h1, h2, Result.andThen_ok, Sem.run_pure]
theorem binOp_int {P : Program} {op : BinOp} {t : TypeId} {k k' : IntKind} {a b : Int} {v : Value} (h : ebin P op t (.int k a) (.int k' b) = some v) (w : World) :
    (binOp op t (.int k a) (.int k' b)).run P w = .ok v w := by
  cases op <;> simp only [ebin] at h <;> (first | (cases h; done) | skip) <;> split at h <;> (first | cases h | skip) <;> rename_i hc
  all_goals (try (obtain ⟨hc, hc2⟩ := hc))
  all_goals (try subst hc)
  all_goals (first
    | (simp [binOp, Op.intArith]; done)
    | (simp [binOp, Op.intDiv, hc2]; done)
    | (simp [binOp, Op.intBits]; done)
    | (simp [binOp, Op.intCmp]; done)
    | (have hn : ¬ b < 0 := by omega
       simp [binOp, Op.shift, hn]; done))
theorem equalIn_bool {P : Program} {t : TypeId} (h : P.underlying t = some .bool) (d : Nat) (a b : Bool) (w : World) : (Op.equalIn (d + 1) t (.bool a) (.bool b)).run P w = .ok (a == b) w := by
  simp only [Op.equalIn, Sem.run_bind, run_underlying' P h, Result.andThen_ok, Sem.run_pure]
theorem equalIn_slice {P : Program} {t e : TypeId} (h : P.underlying t = some (.slice e)) (d : Nat) (a : Option Addr) (l c m n : Nat) (w : World) : (Op.equalIn (d + 1) t (.slice a l c) (.slice none m n)).run P w = .ok a.isNone w := by
  cases a <;> simp only [Op.equalIn, Sem.run_bind, run_underlying' P h, Result.andThen_ok, Sem.run_pure] <;> rfl
theorem maxDepth_eq : Op.maxDepth = 9999 + 1 := rfl
theorem part_int {P : Program} {e : TypeId} {k : IntKind} (he : P.underlying e = some (.int k)) {xs : Array Value} {off : Nat} {v : Value} (hx : xs[off]? = some v) (w : World) : (part e xs off).run P w = .ok v w := by
  simp [part, isAgg, run_underlying he, hx]
theorem equalIn_int {P : Program} {t : TypeId} {q : IntKind} (h : P.underlying t = some (.int q)) (d : Nat) (k : IntKind) (a b : Int) (w : World) : (Op.equalIn (d + 1) t (.int k a) (.int k b)).run P w = .ok (a == b) w := by
  simp only [Op.equalIn, Sem.run_bind, run_underlying' P h, Result.andThen_ok, Sem.run_pure, if_true]
theorem eqFields_flat {P : Program} (d : Nat) (xs ys : Array Value) (w : World) : ∀ (fs : List Field) (j : Nat) (r : Bool), flatL P fs j = true → (xs.toList.drop j).length = fs.length → eqZ (xs.toList.drop j) (ys.toList.drop j) = some r → (Op.eqFields (d + 1) xs ys fs).run P w = .ok r w
  | [], j, r, _, hl, he => by
    have h0 : xs.toList.drop j = [] := List.length_eq_zero_iff.1 hl
    rw [h0] at he
    cases hy : ys.toList.drop j with
    | nil => rw [hy] at he; simp [eqZ] at he; subst he; simp [Op.eqFields]
    | cons v l => rw [hy] at he; simp [eqZ] at he
  | f :: fs, j, r, hf, hl, he => by
    simp only [flatL, Bool.and_eq_true, bne_iff_ne, ne_eq] at hf
    obtain ⟨⟨⟨hn, ho⟩, ht⟩, hr⟩ := hf
    have ho := Nat.eq_of_beq_eq_true ho
    have hu : ∃ q, P.underlying f.type = some (.int q) := by
      cases e : P.underlying f.type with
      | none => rw [e] at ht; simp at ht
      | some kd => rw [e] at ht; cases kd <;> simp at ht; exact ⟨_, rfl⟩
    obtain ⟨q, hu⟩ := hu
    cases hx : xs.toList.drop j with
    | nil => rw [hx] at hl; simp at hl
    | cons v l =>
      cases hy : ys.toList.drop j with
      | nil => rw [hx, hy] at he; cases v <;> simp [eqZ] at he
      | cons v' l' =>
        rw [hx, hy] at he
        have hxl : xs.toList.drop (j + 1) = l := by rw [← List.drop_drop, hx]; rfl
        have hyl : ys.toList.drop (j + 1) = l' := by rw [← List.drop_drop, hy]; rfl
        have hxj : xs[j]? = some v := by
          have : (xs.toList.drop j)[0]? = some v := by rw [hx]; rfl
          simpa using this
        have hyj : ys[j]? = some v' := by
          have : (ys.toList.drop j)[0]? = some v' := by rw [hy]; rfl
          simpa using this
        cases v <;> cases v' <;> (first | (simp [eqZ] at he; done) | skip)
        obtain ⟨rfl, r', h1, h2⟩ := eqZ_cons he
        have ih := eqFields_flat d xs ys w fs (j + 1) r' hr (by rw [hxl]; rw [hx] at hl; simpa using hl) (by rw [hxl, hyl]; exact h1)
        simp only [Op.eqFields, hn, ne_eq, not_false_eq_true, if_true, Sem.run_bind, ho, part_int hu hxj, part_int hu hyj, equalIn_int hu, Result.andThen_ok]
        rename_i n m
        cases hnm : (n == m)
        · rw [hnm] at h2; subst h2; simp
        · rw [hnm] at h2; rw [h2]; simpa using ih
theorem eql_flat {P : Program} {t : TypeId} {xs ys : Array Value} {r : Bool} (ht : flatT P t = some xs.size) (he : eqZ xs.toList ys.toList = some r) (w : World) : (Op.equal t (.agg xs) (.agg ys)).run P w = .ok r w ∧ P.eqGuardType P.depth t = false := by
  unfold flatT at ht
  split at ht
  · rename_i fs hu
    split at ht
    · rename_i hc
      simp only [Bool.and_eq_true, Bool.not_eq_true'] at hc
      have ht : fs.size = xs.size := Option.some.inj ht
      have hfs : P.fieldsOf t = fs := by simp [Program.fieldsOf, hu]
      refine ⟨?_, hc.2⟩
      unfold Op.equal
      rw [maxDepth_eq, run_equalIn_struct w 9999 t xs ys (by rw [hfs]; exact hu) hc.1.2, hfs]
      refine eqFields_flat 9998 xs ys w fs.toList 0 r hc.1.1 ?_ (by simpa using he)
      simp; omega
    · cases ht
  · cases ht
theorem binOp_eql {P : Program} {t : TypeId} {x y : Value} (hb : (∃ a b, x = .bool a ∧ y = .bool b) ∨ (∃ a l c b m n, x = .slice a l c ∧ y = .slice b m n) ∨ ∃ a b, x = .agg a ∧ y = .agg b) {r : Bool} (w : World) (h : (Op.equal t x y).run P w = .ok r w) :
    (binOp .eql t x y).run P w = .ok (.bool r) w ∧ (binOp .neq t x y).run P w = .ok (.bool !r) w := by
  rcases hb with ⟨a, b, rfl, rfl⟩ | ⟨a, l, c, b, m, n, rfl, rfl⟩ | ⟨a, b, rfl, rfl⟩ <;> constructor <;> (unfold binOp; rw [Sem.run_bind, h]; rfl)
theorem eql_bool {P : Program} {t : TypeId} (h : P.underlying t = some .bool) (a b : Bool) (w : World) : (Op.equal t (.bool a) (.bool b)).run P w = .ok (a == b) w := by
  unfold Op.equal; rw [maxDepth_eq]; exact equalIn_bool h _ a b w
theorem eql_slice {P : Program} {t e : TypeId} (h : P.underlying t = some (.slice e)) (a : Option Addr) (l c m n : Nat) (w : World) : (Op.equal t (.slice a l c) (.slice none m n)).run P w = .ok a.isNone w := by
  unfold Op.equal; rw [maxDepth_eq]; exact equalIn_slice h _ a l c m n w
theorem runSim_binOp {P : Program} {op : BinOp} {t y' : TypeId} {x y : Operand} {o : Oper} (ho : o.op = .binOp op t x y y') {u v r : Value} {H : AH} (h : ebin P op t u v = some r) : RunSim P o [u, v] H r H := by
  refine RunSim.pure_ fun i vs' hv ρ hρ => ?_
  obtain ⟨u', v', rfl, hu, hw⟩ := hv.two
  rw [ho] at hρ
  simp [Op.operands] at hρ
  obtain ⟨e1, e2⟩ := hρ
  cases hu with
  | int k a =>
    cases hw with
    | int k' b =>
      refine ⟨r, ?_, fun w => run_binOp_exec ho ρ w r ?_ ?_⟩
      · cases op <;> simp only [ebin] at h <;> (first | (cases h; done) | skip) <;> split at h <;> (first | cases h | skip) <;> constructor
      · rw [e1, e2]; exact eqGuard_int ..
      · rw [e1, e2]; exact binOp_int h w
    | _ => cases op <;> simp [ebin] at h
  | bool a =>
    cases hw with
    | bool b =>
      cases hd : P.underlying t with
      | none => cases op <;> simp [ebin, hd] at h
      | some d =>
        cases d <;> cases op <;> simp [ebin, hd] at h
        all_goals subst h
        all_goals refine ⟨_, .bool _, fun w => run_binOp_exec ho ρ w _ (by rw [e1, e2]; exact eqGuard_bool ..) ?_⟩
        all_goals rw [e1, e2]
        all_goals have hq := binOp_eql (.inl ⟨a, b, rfl, rfl⟩) w (eql_bool hd a b w)
        all_goals first | exact hq.1 | exact hq.2
    | _ => cases op <;> simp [ebin] at h
  | snil l c =>
    cases hw with
    | snil l' c' =>
      cases hd : P.underlying t with
      | none => cases op <;> simp [ebin, slT, hd] at h
      | some d =>
        cases d <;> cases op <;> simp [ebin, slT, hd] at h
        all_goals subst h
        all_goals refine ⟨_, .bool _, fun w => run_binOp_exec ho ρ w _ (by rw [e1, e2]; exact eqGuard_slice ..) ?_⟩
        all_goals rw [e1, e2]
        all_goals first | exact (binOp_eql (.inr (.inl ⟨_, _, _, _, _, _, rfl, rfl⟩)) w (eql_slice hd _ _ _ _ _ w)).1 | exact (binOp_eql (.inr (.inl ⟨_, _, _, _, _, _, rfl, rfl⟩)) w (eql_slice hd _ _ _ _ _ w)).2
    | _ => cases op <;> simp [ebin] at h
  | slice e s c =>
    cases hw with
    | snil l' c' =>
      cases hd : P.underlying t with
      | none => cases op <;> simp [ebin, slT, hd] at h
      | some d =>
        cases d <;> cases op <;> simp [ebin, slT, hd] at h
        all_goals subst h
        all_goals refine ⟨_, .bool _, fun w => run_binOp_exec ho ρ w _ (by rw [e1, e2]; exact eqGuard_slice ..) ?_⟩
        all_goals rw [e1, e2]
        all_goals first | exact (binOp_eql (.inr (.inl ⟨_, _, _, _, _, _, rfl, rfl⟩)) w (eql_slice hd _ _ _ _ _ w)).1 | exact (binOp_eql (.inr (.inl ⟨_, _, _, _, _, _, rfl, rfl⟩)) w (eql_slice hd _ _ _ _ _ w)).2
    | _ => cases op <;> simp [ebin] at h
  | vague e =>
    cases hw with
    | snil l' c' =>
      cases hd : P.underlying t with
      | none => cases op <;> simp [ebin, slT, hd] at h
      | some d =>
        cases d <;> cases op <;> simp [ebin, slT, hd] at h
        all_goals subst h
        all_goals refine ⟨_, .bool _, fun w => run_binOp_exec ho ρ w _ (by rw [e1, e2]; exact eqGuard_slice ..) ?_⟩
        all_goals rw [e1, e2]
        all_goals first | exact (binOp_eql (.inr (.inl ⟨_, _, _, _, _, _, rfl, rfl⟩)) w (eql_slice hd _ _ _ _ _ w)).1 | exact (binOp_eql (.inr (.inl ⟨_, _, _, _, _, _, rfl, rfl⟩)) w (eql_slice hd _ _ _ _ _ w)).2
    | _ => cases op <;> simp [ebin] at h
  | @agg cs ds hsz hat =>
    cases hw with
    | @agg cs' ds' hsz' hat' =>
      have key : ∀ {f : Bool → Bool}, (if flatT P t = some cs.size then (eqZ cs.toList cs'.toList).map (fun r => Value.bool (f r)) else none) = some r → ∃ b, flatT P t = some cs.size ∧ eqZ cs.toList cs'.toList = some b ∧ r = .bool (f b) := by
        intro f h
        split at h
        · rename_i h1
          cases h2 : eqZ cs.toList cs'.toList with
          | none => rw [h2] at h; simp at h
          | some b => rw [h2] at h; simp at h; exact ⟨b, h1, rfl, h.symm⟩
        · cases h
      have same : ∀ {b : Bool}, eqZ cs.toList cs'.toList = some b → ds = cs ∧ ds' = cs' := by
        intro b hb
        obtain ⟨i1, i2, _⟩ := eqZ_ints hb
        constructor
        · refine Array.ext hsz.symm fun k h1 h2 => ?_
          have := hat k h2 h1
          obtain ⟨q, a, ha⟩ := i1 cs[k] (Array.mem_toList_iff.2 (Array.getElem_mem h2))
          rw [ha] at this ⊢
          generalize ds[k] = x at this ⊢
          cases this; rfl
        · refine Array.ext hsz'.symm fun k h1 h2 => ?_
          have := hat' k h2 h1
          obtain ⟨q, a, ha⟩ := i2 cs'[k] (Array.mem_toList_iff.2 (Array.getElem_mem h2))
          rw [ha] at this ⊢
          generalize ds'[k] = x at this ⊢
          cases this; rfl
      cases op <;> (first | (simp [ebin] at h; done) | skip)
      · obtain ⟨b, h1, h2, rfl⟩ := key (f := fun r => r) h
        obtain ⟨rfl, rfl⟩ := same h2
        refine ⟨_, .bool _, fun w => run_binOp_exec ho ρ w _ (by rw [e1, e2]; exact eqGuard_flat (eql_flat h1 h2 w).2 ..) ?_⟩
        rw [e1, e2]
        exact (binOp_eql (.inr (.inr ⟨_, _, rfl, rfl⟩)) w (eql_flat h1 h2 w).1).1
      · obtain ⟨b, h1, h2, rfl⟩ := key (f := fun r => !r) h
        obtain ⟨rfl, rfl⟩ := same h2
        refine ⟨_, .bool _, fun w => run_binOp_exec ho ρ w _ (by rw [e1, e2]; exact eqGuard_flat (eql_flat h1 h2 w).2 ..) ?_⟩
        rw [e1, e2]
        exact (binOp_eql (.inr (.inr ⟨_, _, rfl, rfl⟩)) w (eql_flat h1 h2 w).1).2
    | _ => cases op <;> simp [ebin] at h
  | _ => cases hw <;> cases op <;> simp [ebin] at h
theorem runSim_move {P : Program} {x : Operand} {o : Oper} (ho : o.op = .move x ∨ o.op = .assign x) {v : Value} {H : AH} : RunSim P o [v] H v H := by
  refine RunSim.pure_ fun i vs' hv ρ hρ => ?_
  obtain ⟨v', rfl, h⟩ := hv.one
  have e1 : ρ x = v' := by rcases ho with ho | ho <;> (rw [ho] at hρ; simpa [Op.operands] using hρ)
  refine ⟨v', h, fun w => ?_⟩
  unfold execOp
  rcases ho with ho | ho <;> (rw [ho]; simp [e1])
theorem runSim_pick {P : Program} {c x y : Operand} {o : Oper} (ho : o.op = .pick c x y) {b : Bool} {u v : Value} {H : AH} : RunSim P o [.bool b, u, v] H (if b then u else v) H := by
  refine RunSim.pure_ fun i vs' hv ρ hρ => ?_
  obtain ⟨b', u', v', rfl, h1, h2, h3⟩ := hv.three
  cases h1
  rw [ho] at hρ
  simp [Op.operands] at hρ
  obtain ⟨e1, e2, e3⟩ := hρ
  refine ⟨if b then u' else v', ?_, fun w => ?_⟩
  · cases b <;> simpa
  · unfold execOp
    rw [ho]
    simp [e1, e2, e3, asBool]
def eun (op : UnOp) (x : Value) : Option Value :=
  match op, x with
  | .neg, .int k n => some (.int k (k.wrap (0 - n)))
  | .not, .bool b => some (.bool !b)
  | .xor, .int k n => some (.int k (k.wrap (BitVec.ofInt k.bits (if k.signed then -1 else k.max) ^^^ BitVec.ofInt k.bits n).toNat))
  | _, _ => none
theorem runSim_unOp {P : Program} {op : UnOp} {t : TypeId} {x : Operand} {o : Oper} (ho : o.op = .unOp op t x) {u r : Value} {H : AH} (h : eun op u = some r) : RunSim P o [u] H r H := by
  refine RunSim.pure_ fun i vs' hv ρ hρ => ?_
  obtain ⟨u', rfl, hu⟩ := hv.one
  rw [ho] at hρ
  simp [Op.operands] at hρ
  cases hu <;> cases op <;> simp [eun] at h
  all_goals subst h
  all_goals refine ⟨_, by constructor, fun w => ?_⟩
  all_goals unfold execOp
  all_goals rw [ho]
  all_goals simp [hρ, Op.unary, Op.intArith, Op.intBits]
theorem runSim_convert_int {P : Program} {s d : TypeId} {x : Operand} {o : Oper} (ho : o.op = .convert s d x) {k k' : IntKind} {n : Int} {H : AH} (hs : (P.underlying s).isSome = true) (hd : ikT P d = some k') :
    RunSim P o [.int k n] H (.int k' (k'.wrap n)) H := by
  refine RunSim.pure_ fun i vs' hv ρ hρ => ?_
  obtain ⟨u', rfl, hu⟩ := hv.one
  cases hu
  rw [ho] at hρ
  simp [Op.operands] at hρ
  refine ⟨_, .int _ _, fun w => ?_⟩
  unfold execOp
  rw [ho]
  obtain ⟨sd, hsd⟩ := Option.isSome_iff_exists.1 hs
  unfold ikT at hd
  cases hdd : P.underlying d with
  | none => simp [hdd] at hd
  | some dd =>
    cases dd <;> simp [hdd] at hd
    subst hd
    simp [hρ, convert, run_underlying' P hsd, run_underlying' P hdd, Conv.intToInt]
theorem runSim_extract {P : Program} {x : Operand} {ix : Nat} {o : Oper} (ho : o.op = .extract x ix) {vs : Array Value} {r : Value} {H : AH} (h : vs[ix]? = some r) : RunSim P o [.tuple vs] H r H := by
  refine RunSim.pure_ fun i vs' hv ρ hρ => ?_
  obtain ⟨u', rfl, hu⟩ := hv.one
  rw [ho] at hρ
  simp [Op.operands] at hρ
  cases hu with
  | tuple hs hk =>
    rename_i ds
    have hlt : ix < vs.size := by
      rcases Nat.lt_or_ge ix vs.size with h1 | h1
      · exact h1
      · rw [Array.getElem?_eq_none h1] at h; cases h
    rw [Array.getElem?_eq_getElem hlt] at h
    cases h
    refine ⟨_, hk ix hlt (hs ▸ hlt), fun w => ?_⟩
    unfold execOp
    rw [ho]
    have : ix < ds.size := hs ▸ hlt
    simp [hρ, Instr.extract, this]
end Go.Sim
