/- The semantic simulation logic, part 8: a region whose order is drawn. -/
import Derived.Test.YtaepmmdbhikjlaaSimG
namespace Go.Sim
open Go

def edges (ops : Array Oper) (j : Nat) : List Nat := match ops[j]? with
  | some o => (o.after.toList.filter fun e => Region.binds .any e).map (·.on)
  | none => []
def befF (ops : Array Oper) : Nat → Nat → Nat → Bool
  | 0, _, _ => false
  | f + 1, m, j => (edges ops j).any fun k => k == m || befF ops f m k
def bef (ops : Array Oper) (m j : Nat) : Bool := befF ops ops.size m j

theorem bef_closed {ops : Array Oper} {L : Nat → Bool} (hc : ∀ j k, L j = true → k ∈ edges ops j → L k = true) : ∀ (f m j : Nat), befF ops f m j = true → (∀ k, k ∈ edges ops j → L k = true) → L m = true
  | 0, _, _, h, _ => by simp [befF] at h
  | f + 1, m, j, h, hj => by
    simp only [befF, List.any_eq_true, Bool.or_eq_true, beq_iff_eq] at h
    obtain ⟨k, hk, h⟩ := h
    rcases h with rfl | h
    · exact hj k hk
    · exact bef_closed hc f m k h (fun k' hk' => hc k k' (hj k hk) hk')

def dstOf (ops : Array Oper) (j : Nat) : Option Tmp := (ops[j]?).bind (·.dst)
def looks (ops : Array Oper) (j : Nat) : List Tmp := match ops[j]? with | some o => o.looksAt ops | none => []

def pairwiseB (r : Nat → Nat → Bool) : List Nat → Bool
  | [] => true
  | x :: l => l.all (fun y => r x y) && pairwiseB r l
theorem pairwiseB_spec {r : Nat → Nat → Bool} : ∀ {l : List Nat}, pairwiseB r l = true → l.Pairwise (fun a b => r a b = true)
  | [], _ => .nil
  | x :: l, h => by
    simp only [pairwiseB, Bool.and_eq_true, List.all_eq_true] at h
    exact .cons h.1 (pairwiseB_spec h.2)

/-- The looks at a region that may be taken in the order ord; ch: the operations that act. -/
def okD (ops : Array Oper) (ord : List Nat) (ch : List Nat) : Bool :=
  (ord.length == ops.size && (List.range ops.size).all (fun j => ord.contains j) && ord.all (fun j => decide (j < ops.size))) &&
  pairwiseB (fun a b => !(bef ops b a) && a != b && (!(ch.contains a) || ch.contains b || bef ops a b) && (!(ch.contains a) || !(ch.contains b) || bef ops a b) && (!(edges ops a).contains b)) ord &&
  (List.range ops.size).all (fun j => !(edges ops j).contains j && (edges ops j).all (fun k => decide (k < ops.size))) &&
  (List.range ops.size).all (fun j => (List.range ops.size).all fun m => j == m || (dstOf ops j).isNone || dstOf ops j != dstOf ops m) &&
  (List.range ops.size).all (fun j => (List.range ops.size).all fun m => match dstOf ops m with
    | some t => !((looks ops j).contains t) || (m != j && (bef ops m j || bef ops j m))
    | none => true)

structure DOK (ops : Array Oper) (ord : List Nat) (ch : List Nat) : Prop where
  mem : ∀ j, j ∈ ord ↔ j < ops.size
  len : ord.length = ops.size
  pw : ord.Pairwise (fun a b => bef ops b a = false ∧ a ≠ b ∧ (a ∈ ch → b ∈ ch ∨ bef ops a b = true) ∧ (a ∈ ch → b ∈ ch → bef ops a b = true) ∧ b ∉ edges ops a)
  self : ∀ j, j < ops.size → j ∉ edges ops j
  low : ∀ j, j < ops.size → ∀ k ∈ edges ops j, k < ops.size
  uniq : ∀ j m t, j < ops.size → m < ops.size → dstOf ops j = some t → dstOf ops m = some t → j = m
  names : ∀ j m t, j < ops.size → m < ops.size → dstOf ops m = some t → t ∈ looks ops j → m ≠ j ∧ (bef ops m j = true ∨ bef ops j m = true)

theorem okD_spec {ops : Array Oper} {ord ch : List Nat} (h : okD ops ord ch = true) : DOK ops ord ch := by
  unfold okD at h
  simp only [Bool.and_eq_true] at h
  obtain ⟨⟨⟨⟨⟨⟨h1, h2⟩, h3⟩, h4⟩, h5⟩, h6⟩, h7⟩ := h
  refine ⟨fun j => ⟨fun hj => ?_, fun hj => ?_⟩, by simpa using h1, (pairwiseB_spec h4).imp fun {a b} hab => ?_, fun j hj => ?_, fun j hj k hk => ?_, fun j m t hj hm e1 e2 => ?_, fun j m t hj hm e1 e2 => ?_⟩
  · simpa using List.all_eq_true.1 h3 j hj
  · simpa using List.all_eq_true.1 h2 j (by simpa using hj)
  · simp only [Bool.and_eq_true, Bool.or_eq_true, Bool.not_eq_true', bne_iff_ne, List.contains_eq_mem, decide_eq_true_eq, decide_eq_false_iff_not] at hab
    obtain ⟨⟨⟨⟨p1, p2⟩, p3⟩, p4⟩, p5⟩ := hab
    refine ⟨p1, p2, fun ha => ?_, fun ha hb => ?_, p5⟩
    · rcases p3 with (p3 | p3) | p3
      · exact absurd ha p3
      · exact .inl p3
      · exact .inr p3
    · rcases p4 with (p4 | p4) | p4
      · exact absurd ha p4
      · exact absurd hb p4
      · exact p4
  · have := List.all_eq_true.1 h5 j (by simpa using hj)
    simp only [Bool.and_eq_true] at this
    simpa using this.1
  · have := List.all_eq_true.1 h5 j (by simpa using hj)
    simp only [Bool.and_eq_true] at this
    simpa using List.all_eq_true.1 this.2 k hk
  · have := List.all_eq_true.1 (List.all_eq_true.1 h6 j (by simpa using hj)) m (by simpa using hm)
    simp only [Bool.or_eq_true, beq_iff_eq, bne_iff_ne] at this
    rcases this with (h | h) | h
    · exact h
    · rw [e1] at h; simp at h
    · rw [e1, e2] at h; exact absurd rfl h
  · have := List.all_eq_true.1 (List.all_eq_true.1 h7 j (by simpa using hj)) m (by simpa using hm)
    rw [e1] at this
    simp only [Bool.or_eq_true, Bool.and_eq_true, Bool.not_eq_true', bne_iff_ne, List.contains_eq_mem, decide_eq_false_iff_not] at this
    rcases this with h | h
    · exact absurd e2 h
    · exact h

inductive PK where
  | skip
  | pur
  | quiet
  | alloc (id : Nat) (c : List Value) (e : TypeId) (mk : Nat → Value)

structure Pend where
  j : Nat
  o : Oper
  env : Nat → Value
  v : Value
  kind : PK
def Pend.vs (p : Pend) : List Value := p.o.op.operands.toList.map (ev ⟨p.env, []⟩)

inductive DTrace (P : Program) (n : Nat) (ops : Array Oper) (ch : List Nat) : List Nat → List Pend → St → AH → St → AH → Prop
  | nil {D : List Pend} {s : St} {H : AH} : DTrace P n ops ch [] D s H s H
  | skip {j : Nat} {rest : List Nat} {D : List Pend} {s s' : St} {H H' : AH} {o : Oper} : ops[j]? = some o → (∀ d, o.dst = some d → d < n) → j ∉ ch → wantedA ops s o = false →
      DTrace P n ops ch rest (⟨j, o, s.env, undef, .skip⟩ :: D) (s.put o.dst undef) H s' H' → DTrace P n ops ch (j :: rest) D s H s' H'
  | quiet {j : Nat} {rest : List Nat} {D : List Pend} {s s' : St} {H H' : AH} {o : Oper} {v : Value} : ops[j]? = some o → (∀ d, o.dst = some d → d < n) → j ∉ ch → wantedA ops s o = true →
      o.op.operands.toList.all okX = true → OpSim P o (o.op.operands.toList.map (ev s)) H v H →
      DTrace P n ops ch rest (⟨j, o, s.env, v, .quiet⟩ :: D) (s.put o.dst v) H s' H' → DTrace P n ops ch (j :: rest) D s H s' H'
  | pur {j : Nat} {rest : List Nat} {D : List Pend} {s s' : St} {H H' : AH} {o : Oper} {v : Value} : ops[j]? = some o → (∀ d, o.dst = some d → d < n) → j ∉ ch → wantedA ops s o = true →
      o.op.operands.toList.all okX = true → (∀ H, OpSim P o (o.op.operands.toList.map (ev s)) H v H) →
      DTrace P n ops ch rest (⟨j, o, s.env, v, .pur⟩ :: D) (s.put o.dst v) H s' H' → DTrace P n ops ch (j :: rest) D s H s' H'
  | alloc {j : Nat} {rest : List Nat} {D : List Pend} {s s' : St} {H H' : AH} {o : Oper} {c : List Value} {e : TypeId} {mk : Nat → Value} : ops[j]? = some o → (∀ d, o.dst = some d → d < n) → j ∉ ch → wantedA ops s o = true →
      o.op.operands.toList.all okX = true → NewSim P o (o.op.operands.toList.map (ev s)) c e mk →
      (∀ p ∈ D, p.kind = .quiet → OpSim P p.o p.vs (H ++ [.cells c e none false]) p.v (H ++ [.cells c e none false])) →
      DTrace P n ops ch rest (⟨j, o, s.env, mk H.length, .alloc H.length c e mk⟩ :: D) (s.put o.dst (mk H.length)) (H ++ [.cells c e none false]) s' H' → DTrace P n ops ch (j :: rest) D s H s' H'
  | chainSkip {j : Nat} {rest : List Nat} {D : List Pend} {s s' : St} {H H' : AH} {o : Oper} : ops[j]? = some o → (∀ d, o.dst = some d → d < n) → j ∈ ch → wantedA ops s o = false →
      DTrace P n ops ch rest D (s.put o.dst undef) H s' H' → DTrace P n ops ch (j :: rest) D s H s' H'
  | chain {j : Nat} {rest : List Nat} {D : List Pend} {s s' : St} {H H1 H' : AH} {o : Oper} {v : Value} : ops[j]? = some o → (∀ d, o.dst = some d → d < n) → j ∈ ch → wantedA ops s o = true →
      o.op.operands.toList.all okX = true → OpSim P o (o.op.operands.toList.map (ev s)) H v H1 →
      (∀ p ∈ D, p.kind = .quiet → bef ops p.j j = false → OpSim P p.o p.vs H1 p.v H1) →
      DTrace P n ops ch rest D (s.put o.dst v) H1 s' H' → DTrace P n ops ch (j :: rest) D s H s' H'

/-- What is held between two operations of the run. -/
structure DI (P : Program) (n : Nat) (ops : Array Oper) (ord ch : List Nat) (L : Nat → Bool) (s0 : St) (H0 : AH) (i0 : Inj) (w0 : World) (done rest : List Nat) (D D0 : List Pend) (s : St) (H : AH) (i : Inj) (w : World) (a : Act) : Prop where
  clo : ∀ j k, L j = true → k ∈ edges ops j → L k = true
  spl : done ++ rest = ord
  unl : ∀ j, j < ops.size → (L j = false ↔ (j ∈ rest ∨ ∃ p ∈ D0, p.j = j))
  sub : ∀ p ∈ D0, p ∈ D
  djs : ∀ p ∈ D0, p.j ∈ done
  nod : (D0.map (·.j)).Nodup
  op : ∀ p ∈ D0, ops[p.j]? = some p.o
  nch : ∀ p ∈ D0, p.j ∉ ch
  dstb : ∀ p ∈ D0, ∀ d, p.o.dst = some d → d < n
  same : ∀ t, (∀ m ∈ done, dstOf ops m ≠ some t) → s.env t = s0.env t
  lateW : ∀ p ∈ D0, ∀ t ∈ p.o.looksAt ops, ∀ m, dstOf ops m = some t → bef ops p.j m = true → p.env t = s0.env t
  noW : ∀ p ∈ D0, ∀ t ∈ p.o.looksAt ops, (∀ m, m < ops.size → dstOf ops m ≠ some t) → p.env t = s0.env t
  earlyW : ∀ p ∈ D0, ∀ t ∈ p.o.looksAt ops, ∀ m, dstOf ops m = some t → bef ops m p.j = true → s.env t = p.env t
  val : ∀ p ∈ D0, ∀ t, p.o.dst = some t → s.env t = p.v
  envD : ∀ p ∈ D0, ∀ t, p.o.dst = some t → VR i (s0.env t) (a.tmps.getD t undef)
  envN : ∀ t, (∀ p ∈ D0, p.o.dst ≠ some t) → VR i (s.env t) (a.tmps.getD t undef)
  size : a.tmps.size = n
  ds : DefsR i s.ds a.defers
  rel : Rel i H w
  ext : Ext i0 i H0 H w0 w
  quiet : ∀ p ∈ D0, p.kind = .quiet → OpSim P p.o p.vs H p.v H
  pur : ∀ p ∈ D0, p.kind = .pur → ∀ H, OpSim P p.o p.vs H p.v H
  okx : ∀ p ∈ D0, p.kind ≠ .skip → p.o.op.operands.toList.all okX = true
  want : ∀ p ∈ D0, (p.kind = .skip → wantedA ops ⟨p.env, []⟩ p.o = false ∧ p.v = undef) ∧ (p.kind ≠ .skip → wantedA ops ⟨p.env, []⟩ p.o = true)
  alloc : ∀ p ∈ D0, ∀ id c e mk, p.kind = .alloc id c e mk → i id = none ∧ H[id]? = some (.cells c e none false) ∧ NewSim P p.o p.vs c e mk ∧ H0.length ≤ id ∧ p.v = mk id
  ids : ∀ p ∈ D0, ∀ q ∈ D0, ∀ id c e mk c' e' mk', p.kind = .alloc id c e mk → q.kind = .alloc id c' e' mk' → p.j = q.j

theorem wantedA_congr {ops : Array Oper} {s s' : St} {o : Oper} (h : ∀ j want d, o.guard = some (j, want) → (ops[j]?).bind (·.dst) = some d → s.env d = s'.env d) : wantedA ops s o = wantedA ops s' o := by
  unfold wantedA
  cases hg : o.guard with
  | none => rfl
  | some g =>
    obtain ⟨j, want⟩ := g
    simp only
    cases hd : (ops[j]?).bind (·.dst) with
    | none => rfl
    | some d => simp only; rw [h j want d hg hd]

theorem put_other {s : St} {dst : Option Tmp} {v : Value} {t : Nat} (h : dst ≠ some t) : (s.put dst v).env t = s.env t := by
  cases dst with
  | none => rfl
  | some d =>
    simp only [St.put]
    rw [if_neg (fun e => h (by rw [e]))]
theorem put_same {s : St} {v : Value} {t : Nat} : (s.put (some t) v).env t = v := by simp [St.put]
theorem put_ds {s : St} {dst : Option Tmp} {v : Value} : (s.put dst v).ds = s.ds := by cases dst <;> rfl

section
variable {P : Program} {n : Nat} {ops : Array Oper} {ord ch : List Nat} {L : Nat → Bool} {s0 : St} {H0 : AH} {i0 : Inj} {w0 : World}

/-- An operation that does not act is taken ahead on the abstract side; in the world it is still to come. -/
theorem DI.advance (hk : DOK ops ord ch) {done rest : List Nat} {D D0 : List Pend} {s : St} {H : AH} {i : Inj} {w : World} {a : Act} {j : Nat}
    (I : DI P n ops ord ch L s0 H0 i0 w0 done (j :: rest) D D0 s H i w a) {s' : St} {H' : AH} (T : DTrace P n ops ch (j :: rest) D s H s' H') (hj : j ∉ ch) :
    ∃ p D1 s1 H1, p.j = j ∧ DI P n ops ord ch L s0 H0 i0 w0 (done ++ [j]) rest D1 (p :: D0) s1 H1 i w a ∧ DTrace P n ops ch rest D1 s1 H1 s' H' := by
  have hjN : j < ops.size := (hk.mem j).1 (by rw [← I.spl]; simp)
  have hpw := hk.pw
  rw [← I.spl] at hpw
  have hdone : ∀ m ∈ done, bef ops j m = false ∧ m ≠ j := fun m hm => by
    have := (List.pairwise_append.1 hpw).2.2 m hm j (by simp)
    exact ⟨this.1, this.2.1⟩
  have hjnd : ∀ q ∈ D0, q.j ≠ j := fun q hq => (hdone q.j (I.djs q hq)).2
  -- what is common to the three kinds
  have common : ∀ (o : Oper) (v : Value) (kd : PK) (H1 : AH), ops[j]? = some o → (∀ d, o.dst = some d → d < n) → Rel i H1 w → Ext i0 i H0 H1 w0 w →
      (∀ p ∈ D0, p.kind = .quiet → OpSim P p.o p.vs H1 p.v H1) → (∀ p ∈ D0, ∀ id c e mk, p.kind = .alloc id c e mk → H1[id]? = some (.cells c e none false)) →
      (kd = .quiet → OpSim P o (o.op.operands.toList.map (ev s)) H1 v H1) → (kd = .pur → ∀ H, OpSim P o (o.op.operands.toList.map (ev s)) H v H) → (kd ≠ .skip → o.op.operands.toList.all okX = true) → ((kd = .skip → wantedA ops s o = false ∧ v = undef) ∧ (kd ≠ .skip → wantedA ops s o = true)) →
      (∀ id c e mk, kd = .alloc id c e mk → i id = none ∧ H1[id]? = some (.cells c e none false) ∧ NewSim P o (o.op.operands.toList.map (ev s)) c e mk ∧ H0.length ≤ id ∧ v = mk id ∧ ∀ p ∈ D0, ∀ c' e' mk', p.kind ≠ .alloc id c' e' mk') →
      DI P n ops ord ch L s0 H0 i0 w0 (done ++ [j]) rest (⟨j, o, s.env, v, kd⟩ :: D) (⟨j, o, s.env, v, kd⟩ :: D0) (s.put o.dst v) H1 i w a := by
    intro o v kd H1 ho hd hrel hext hq hal hkq hkp hkx hkw hka
    have hdst : dstOf ops j = o.dst := by simp [dstOf, ho]
    have hlook : looks ops j = o.looksAt ops := by simp [looks, ho]
    have nodst : ∀ q ∈ D0, ∀ t, o.dst = some t → q.o.dst ≠ some t := by
      intro q hq t h1 h2
      have hqN : q.j < ops.size := (hk.mem q.j).1 (by rw [← I.spl]; simp [I.djs q hq])
      exact hjnd q hq (hk.uniq q.j j t hqN hjN (by simp [dstOf, I.op q hq, h2]) (by rw [hdst, h1]))
    refine ⟨I.clo, by rw [← I.spl]; simp, fun m hm => ?_, fun p hp => ?_, fun p hp => ?_, ?_, fun p hp => ?_, fun p hp => ?_, fun p hp => ?_, fun t ht => ?_, fun p hp t ht m hm hb => ?_, fun p hp t ht hno => ?_, fun p hp t ht m hm hb => ?_, fun p hp t ht => ?_, fun p hp t ht => ?_, fun t ht => ?_, I.size, by rw [put_ds]; exact I.ds, hrel, hext, fun p hp hpk => ?_, fun p hp hpk => ?_, fun p hp hpk => ?_, fun p hp => ?_, fun p hp id c e mk hpk => ?_, fun p hp q hq' id c e mk c' e' mk' h1 h2 => ?_⟩
    · rw [I.unl m hm]
      simp only [List.mem_cons, exists_eq_or_imp]
      constructor
      · rintro ((h | h) | h)
        · exact .inr (.inl h.symm)
        · exact .inl h
        · exact .inr (.inr h)
      · rintro (h | h | h)
        · exact .inl (.inr h)
        · exact .inl (.inl h.symm)
        · exact .inr h
    · rcases List.mem_cons.1 hp with rfl | hp
      · simp
      · exact List.mem_cons_of_mem _ (I.sub p hp)
    · rcases List.mem_cons.1 hp with rfl | hp
      · simp
      · simp [I.djs p hp]
    · simp only [List.map_cons, List.nodup_cons, List.mem_map, not_exists, not_and]
      exact ⟨fun q hq => hjnd q hq, I.nod⟩
    · rcases List.mem_cons.1 hp with rfl | hp
      · exact ho
      · exact I.op p hp
    · rcases List.mem_cons.1 hp with rfl | hp
      · exact hj
      · exact I.nch p hp
    · rcases List.mem_cons.1 hp with rfl | hp
      · exact hd
      · exact I.dstb p hp
    · have hne : o.dst ≠ some t := by rw [← hdst]; exact ht j (by simp)
      rw [put_other hne]
      exact I.same t (fun m hm => ht m (by simp [hm]))
    · rcases List.mem_cons.1 hp with rfl | hp
      · refine I.same t (fun m' hm' h' => ?_)
        have hm'N : m' < ops.size := (hk.mem m').1 (by rw [← I.spl]; simp [hm'])
        have hmN : m < ops.size := by
          rcases Nat.lt_or_ge m ops.size with h | h
          · exact h
          · simp [dstOf, Array.getElem?_eq_none h] at hm
        have := hk.uniq m m' t hmN hm'N hm h'
        subst this
        have := (hdone m hm').1
        simp only at hb
        rw [hb] at this; cases this
      · exact I.lateW p hp t ht m hm hb
    · rcases List.mem_cons.1 hp with rfl | hp
      · exact I.same t (fun m hm => hno m ((hk.mem m).1 (by rw [← I.spl]; simp [hm])))
      · exact I.noW p hp t ht hno
    · rcases List.mem_cons.1 hp with rfl | hp
      · refine put_other (fun h => ?_)
        have hmN : m < ops.size := by
          rcases Nat.lt_or_ge m ops.size with h | h
          · exact h
          · simp [dstOf, Array.getElem?_eq_none h] at hm
        have := (hk.names j j t hjN hjN (by rw [hdst, h]) (by rw [hlook]; exact ht)).1
        exact this rfl
      · have e1 := I.earlyW p hp t ht m hm hb
        rw [put_other (fun h => ?_)]
        · exact e1
        · have hmN : m < ops.size := by
            rcases Nat.lt_or_ge m ops.size with h | h
            · exact h
            · simp [dstOf, Array.getElem?_eq_none h] at hm
          have := hk.uniq j m t hjN hmN (by rw [hdst, h]) hm
          subst this
          have := (hdone p.j (I.djs p hp)).1
          rw [hb] at this; cases this
    · rcases List.mem_cons.1 hp with rfl | hp
      · simp only at ht
        rw [ht, put_same]
      · rw [put_other (fun h => nodst p hp t h ht)]
        exact I.val p hp t ht
    · rcases List.mem_cons.1 hp with rfl | hp
      · simp only at ht
        have hno : ∀ p ∈ D0, p.o.dst ≠ some t := fun p hp => nodst p hp t ht
        have := I.envN t hno
        rw [I.same t (fun m hm h' => ?_)] at this
        · exact this
        · have hmN : m < ops.size := (hk.mem m).1 (by rw [← I.spl]; simp [hm])
          exact (hdone m hm).2 (hk.uniq m j t hmN hjN h' (by rw [hdst, ht]))
      · exact I.envD p hp t ht
    · rw [put_other (show o.dst ≠ some t from ht ⟨j, o, s.env, v, kd⟩ (by simp))]
      exact I.envN t (fun p hp => ht p (by simp [hp]))
    · rcases List.mem_cons.1 hp with rfl | hp
      · exact hkq hpk
      · exact hq p hp hpk
    · rcases List.mem_cons.1 hp with rfl | hp
      · exact hkp hpk
      · exact I.pur p hp hpk
    · rcases List.mem_cons.1 hp with rfl | hp
      · exact hkx hpk
      · exact I.okx p hp hpk
    · rcases List.mem_cons.1 hp with rfl | hp
      · exact hkw
      · exact I.want p hp
    · rcases List.mem_cons.1 hp with rfl | hp
      · obtain ⟨q1, q2, q3, q4, q5, _⟩ := hka id c e mk hpk
        exact ⟨q1, q2, q3, q4, q5⟩
      · obtain ⟨q1, _, q3, q4, q5⟩ := I.alloc p hp id c e mk hpk
        exact ⟨q1, hal p hp id c e mk hpk, q3, q4, q5⟩
    · rcases List.mem_cons.1 hp with rfl | hp
      · rcases List.mem_cons.1 hq' with rfl | hq'
        · rfl
        · exact absurd h2 ((hka id c e mk h1).2.2.2.2.2 q hq' c' e' mk')
      · rcases List.mem_cons.1 hq' with rfl | hq'
        · exact absurd h1 ((hka id c' e' mk' h2).2.2.2.2.2 p hp c e mk)
        · exact I.ids p hp q hq' id c e mk c' e' mk' h1 h2
  cases T with
  | skip h1 h2 h3 h4 h5 =>
    exact ⟨_, _, _, _, rfl, common _ _ _ H h1 h2 I.rel I.ext I.quiet (fun p hp id c e mk hpk => (I.alloc p hp id c e mk hpk).2.1) (fun h => by cases h) (fun h => by cases h) (fun h => absurd rfl h) ⟨fun _ => ⟨h4, rfl⟩, fun h => absurd rfl h⟩ (fun id c e mk h => by cases h), h5⟩
  | quiet h1 h2 h3 h4 h5 h6 h7 =>
    exact ⟨_, _, _, _, rfl, common _ _ _ H h1 h2 I.rel I.ext I.quiet (fun p hp id c e mk hpk => (I.alloc p hp id c e mk hpk).2.1) (fun _ => h6) (fun h => by cases h) (fun _ => h5) ⟨(fun h => by cases h), fun _ => h4⟩ (fun id c e mk h => by cases h), h7⟩
  | pur h1 h2 h3 h4 h5 h6 h7 =>
    exact ⟨_, _, _, _, rfl, common _ _ _ H h1 h2 I.rel I.ext I.quiet (fun p hp id c e mk hpk => (I.alloc p hp id c e mk hpk).2.1) (fun h => by cases h) (fun _ => h6) (fun _ => h5) ⟨(fun h => by cases h), fun _ => h4⟩ (fun id c e mk h => by cases h), h7⟩
  | @alloc _ _ _ _ _ _ _ o c e mk h1 h2 h3 h4 h5 h6 h7 h8 =>
    have hlt : ∀ p ∈ D0, ∀ id c e mk, p.kind = .alloc id c e mk → id < H.length := fun p hp id c e mk hpk => (List.getElem?_eq_some_iff.1 (I.alloc p hp id c e mk hpk).2.1).1
    refine ⟨_, _, _, _, rfl, common o _ _ (H ++ [.cells c e none false]) h1 h2 (I.rel.grow _) ?_ (fun p hp hpk => h7 p (I.sub p hp) hpk) (fun p hp id c' e' mk' hpk => ?_) (fun h => by cases h) (fun h => by cases h) (fun _ => h5) ⟨(fun h => by cases h), fun _ => h4⟩ (fun id c' e' mk' h => ?_), h8⟩
    · have x := I.ext
      refine ⟨x.dom, x.le, x.os, x.tape, x.output, x.size, by have := x.len; simp; omega, fun b x' hb hx ho => ?_, x.frame, fun b hb hi => ?_, x.fresh⟩
      · rw [List.getElem?_append_left (Nat.lt_of_lt_of_le hb x.len)] at hx; exact x.own b x' hb hx ho
      · rw [List.getElem?_append_left (Nat.lt_of_lt_of_le hb x.len)]; exact x.aframe b hb hi
    · rw [List.getElem?_append_left (hlt p hp id c' e' mk' hpk)]; exact (I.alloc p hp id c' e' mk' hpk).2.1
    · cases h
      exact ⟨I.rel.none_at, by simp, h6, I.ext.len, rfl, fun p hp c' e' mk' hpk => Nat.lt_irrefl _ (hlt p hp _ c' e' mk' hpk)⟩
  | chainSkip h1 h2 h3 => exact absurd h3 hj
  | chain h1 h2 h3 => exact absurd h3 hj

end
end Go.Sim
