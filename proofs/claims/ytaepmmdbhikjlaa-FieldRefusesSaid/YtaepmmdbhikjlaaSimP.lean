/- The semantic simulation logic, part 16: code with all looked up: regions whose order is drawn, functions. -/
import Derived.Test.YtaepmmdbhikjlaaSimO
namespace Go.Sim
open Go

def isLd (P : Program) (ops : Array Oper) (j : Nat) : Bool := match ops[j]? with
  | some o => match cop P o with
    | some x => x.kind == .load
    | none => false
  | none => false

/-- The operations of a region whose order is drawn, in the order ord; before: those that were, the last one first. -/
def cdraw (P : Program) (n : Nat) (ops : Array Oper) (r : Nat → Nat → Bool) (ch : List Nat) : List Nat → List Nat → Option (List XS)
  | _, [] => some []
  | before, j :: rest =>
    match ops[j]? with
    | some o => match cop P o, cguard ops o with
      | some x, some g =>
        if dstOk n o.dst && o.op.operands.toList.all okX then
          match cdraw P n ops r ch (j :: before) rest with
          | some l =>
            if ch.contains j then
              if x.kind == .new || x.kind == .act || x.kind == .call then
                some (⟨g, x, o.op.operands.toList, o.dst, j, false, before.filter fun p => isLd P ops p && !(r p j)⟩ :: l) else none
            else if x.kind == .pur || (x.kind == .new && before.all fun c => !(ch.contains c)) then some (⟨g, x, o.op.operands.toList, o.dst, j, false, []⟩ :: l)
            else if x.kind == .load then some (⟨g, x, o.op.operands.toList, o.dst, j, rest.any fun c => ch.contains c && !(r j c), []⟩ :: l)
            else none
          | none => none
        else none
      | _, _ => none
    | none => none

theorem xload_append {sz : Option Nat} {H : AH} {vs : List Value} {v : Value} (h : xload sz H vs = some v) (Y : AH) : xload sz (H ++ Y) vs = some v := by
  unfold xload at h ⊢
  split at h
  · rename_i a
    split at h
    · rename_i c e o r h1 h2
      have hlt : a.block < H.length := (List.getElem?_eq_some_iff.1 h1).1
      simp only [List.getElem?_append_left hlt, h1, h2]
      exact h
    · cases h
  · cases h

/-- The loads that wait are as they were. -/
structure DLink (P : Program) (ops : Array Oper) (r : Nat → Nat → Bool) (ch before rest : List Nat) (D : List Pend) (DL : List PL) (H : AH) : Prop where
  q : ∀ p ∈ D, p.kind = .quiet → p.j ∈ before ∧ isLd P ops p.j = true ∧ ∃ sz, cop P p.o = some (.ld sz) ∧
    ((∃ c ∈ rest, c ∈ ch ∧ r p.j c = false) → (⟨p.j, sz, p.vs, p.v⟩ : PL) ∈ DL) ∧
    ((∀ c ∈ before, c ∉ ch) → xload sz H p.vs = some p.v)

theorem DLink.other {P : Program} {ops : Array Oper} {r : Nat → Nat → Bool} {ch before rest : List Nat} {D : List Pend} {DL : List PL} {H H' : AH} {j : Nat} (h : DLink P ops r ch before (j :: rest) D DL H)
    (hH : (∀ c ∈ j :: before, c ∉ ch) → ∀ sz vs v, xload sz H vs = some v → xload sz H' vs = some v) {p0 : Pend} (hp0 : p0.kind ≠ .quiet) : DLink P ops r ch (j :: before) rest (p0 :: D) DL H' := by
  refine ⟨fun p hp hk => ?_⟩
  rcases List.mem_cons.1 hp with rfl | hp
  · exact absurd hk hp0
  · obtain ⟨h1, h2, sz, h3, h4, h5⟩ := h.q p hp hk
    exact ⟨List.mem_cons_of_mem _ h1, h2, sz, h3, fun ⟨c, hc, hcc⟩ => h4 ⟨c, List.mem_cons_of_mem _ hc, hcc⟩, fun hb => hH hb _ _ _ (h5 fun c hc => hb c (List.mem_cons_of_mem _ hc))⟩
theorem DLink.chain {P : Program} {ops : Array Oper} {r : Nat → Nat → Bool} {ch before rest : List Nat} {D : List Pend} {DL : List PL} {H H' : AH} {j : Nat} (h : DLink P ops r ch before (j :: rest) D DL H)
    (hj : j ∈ ch) : DLink P ops r ch (j :: before) rest D DL H' := by
  refine ⟨fun p hp hk => ?_⟩
  obtain ⟨h1, h2, sz, h3, h4, h5⟩ := h.q p hp hk
  exact ⟨List.mem_cons_of_mem _ h1, h2, sz, h3, fun ⟨c, hc, hcc⟩ => h4 ⟨c, List.mem_cons_of_mem _ hc, hcc⟩, fun hb => absurd hj (hb j (by simp))⟩

theorem steps_draw {P : Program} {n : Nat} {ops : Array Oper} {ch : List Nat} : ∀ (l before : List Nat) (xl : List XS) (D : List Pend) (DL : List PL) (s : St) (H : AH) (K : St → AH → Prop), cdraw P n ops (bef ops) ch before l = some xl →
    DLink P ops (bef ops) ch before l D DL H → stepsX P xl DL s H K → drawW P n ops ch l D s H K
  | [], before, xl, D, DL, s, H, K, hm, hD, h => by
    simp [cdraw] at hm; subst hm; exact h
  | j :: l, before, xl, D, DL, s, H, K, hm, hD, h => by
    unfold cdraw at hm
    split at hm
    · rename_i o ho
      split at hm
      · rename_i x g hx hg
        split at hm
        · rename_i hok
          simp only [Bool.and_eq_true] at hok
          have hnd := cop_nd hx
          have hw := cguard_want hg s
          split at hm
          · rename_i xl' hl
            refine ⟨o, ho, dstOk_spec hok.1, ?_⟩
            split at hm
            · rename_i hch
              have hjc : j ∈ ch := by simpa using hch
              split at hm
              · rename_i hk
                cases hm
                unfold stepsX at h
                simp only at h
                cases hwx : wantX g s with
                | false =>
                  rw [hwx] at h hw
                  exact .inr (.inl ⟨hw, hjc, steps_draw l _ xl' D DL _ H K hl (hD.chain hjc) (by simpa using h)⟩)
                | true =>
                  rw [hwx] at h hw
                  rw [if_pos rfl] at h
                  refine .inr (.inr ⟨hw, hok.2, .inr (.inr (.inr ⟨hjc, ?_⟩))⟩)
                  have hchk : ∀ H1, chkX (before.filter fun p => isLd P ops p && !(bef ops p j)) DL H1 → ∀ p ∈ D, p.kind = .quiet → bef ops p.j j = false → OpSim P p.o p.vs H1 p.v H1 := by
                    intro H1 hc p hp hpk hb
                    obtain ⟨q1, q2, sz, q3, q4, _⟩ := hD.q p hp hpk
                    have := hc _ (q4 ⟨j, by simp, hjc, hb⟩) (by simp [q1, q2, hb])
                    exact (xload_sim q3 this).op (cop_nd q3)
                  split at h
                  · rename_i hkk; rw [hkk] at hk; simp at hk
                  · rename_i hkk; rw [hkk] at hk; simp at hk
                  · obtain ⟨c, e, mk, q1, q0, q2⟩ := h
                    exact ⟨_, _, (xnew_sim hx q1).run.op hnd, hchk _ q0, steps_draw l _ xl' D DL _ _ K hl (hD.chain hjc) q2⟩
                  · obtain ⟨v, H', q1, q0, q2⟩ := h
                    exact ⟨v, H', (xact_sim hx q1).op hnd, hchk _ q0, steps_draw l _ xl' D DL _ _ K hl (hD.chain hjc) q2⟩
                  · rename_i hk2
                    have hxc : x = .call := by cases x <;> simp [XO.kind] at hk2; rfl
                    subst hxc
                    obtain ⟨v, H', ⟨q0, q2⟩, q1⟩ := callX_op hx h
                    exact ⟨v, H', q1, hchk _ q0, steps_draw l _ xl' D DL _ _ K hl (hD.chain hjc) q2⟩
              · cases hm
            · rename_i hch
              have hjc : j ∉ ch := by simpa using hch
              split at hm
              · rename_i hk
                cases hm
                unfold stepsX at h
                simp only at h
                cases hwx : wantX g s with
                | false =>
                  rw [hwx] at h hw
                  exact .inl ⟨hw, hjc, steps_draw l _ xl' _ DL _ H K hl (hD.other (fun _ _ _ _ h => h) (by simp)) (by simpa using h)⟩
                | true =>
                  rw [hwx] at h hw
                  rw [if_pos rfl] at h
                  refine .inr (.inr ⟨hw, hok.2, ?_⟩)
                  split at h
                  · obtain ⟨v, q1, q2⟩ := h
                    exact .inl ⟨hjc, v, fun H => (xpure_sim hx q1 H).op hnd, steps_draw l _ xl' _ DL _ H K hl (hD.other (fun _ _ _ _ h => h) (by simp)) q2⟩
                  · rename_i hkk; rw [hkk] at hk; simp at hk
                  · rename_i hkk
                    rw [hkk] at hk
                    obtain ⟨c, e, mk, q1, _, q2⟩ := h
                    have hb : ∀ c ∈ before, c ∉ ch := by simpa using hk
                    refine .inr (.inr (.inl ⟨hjc, c, e, mk, xnew_sim hx q1, fun p hp hpk => ?_, steps_draw l _ xl' _ DL _ _ K hl (hD.other (fun _ _ _ _ h => xload_append h _) (by simp)) q2⟩))
                    obtain ⟨_, _, sz, q3, _, q5⟩ := hD.q p hp hpk
                    exact (xload_sim q3 (xload_append (q5 hb) _)).op (cop_nd q3)
                  · rename_i hkk; rw [hkk] at hk; simp at hk
                  · rename_i hkk; rw [hkk] at hk; simp at hk
              · split at hm
                · rename_i hk0 hk
                  cases hm
                  unfold stepsX at h
                  simp only at h
                  cases hwx : wantX g s with
                  | false =>
                    rw [hwx] at h hw
                    exact .inl ⟨hw, hjc, steps_draw l _ xl' _ DL _ H K hl (hD.other (fun _ _ _ _ h => h) (by simp)) (by simpa using h)⟩
                  | true =>
                    rw [hwx] at h hw
                    rw [if_pos rfl] at h
                    refine .inr (.inr ⟨hw, hok.2, ?_⟩)
                    have hk' : x.kind = .load := by simpa using hk
                    rw [hk'] at h
                    obtain ⟨sz, v, rfl, q1, q2⟩ := h
                    refine .inr (.inl ⟨hjc, v, (xload_sim hx q1).op hnd, steps_draw l _ xl' _ _ _ H K hl ⟨fun p hp hpk => ?_⟩ q2⟩)
                    rcases List.mem_cons.1 hp with rfl | hp
                    · refine ⟨by simp, by simp [isLd, ho, hx, XO.kind], sz, hx, fun ⟨c, hc, hcc, hcb⟩ => ?_, fun _ => q1⟩
                      rw [if_pos (by simp only [List.any_eq_true, Bool.and_eq_true, List.contains_eq_mem, decide_eq_true_eq, Bool.not_eq_true']; exact ⟨c, hc, hcc, hcb⟩)]
                      exact List.mem_cons_self ..
                    · obtain ⟨h1, h2, sz', h3, h4, h5⟩ := hD.q p hp hpk
                      refine ⟨List.mem_cons_of_mem _ h1, h2, sz', h3, fun ⟨c, hc, hcc⟩ => ?_, fun hb => h5 fun c hc => hb c (List.mem_cons_of_mem _ hc)⟩
                      have := h4 ⟨c, List.mem_cons_of_mem _ hc, hcc⟩
                      split
                      · exact List.mem_cons_of_mem _ this
                      · exact this
                · cases hm
          · cases hm
        · cases hm
      · cases hm
    · cases hm

/-! ### an order -/
def effK (ks : List XK) (j : Nat) : Bool := match ks[j]? with | some .act => true | some .call => true | _ => false
def readyP (ops : Array Oper) (done : List Nat) (j : Nat) : Bool := (edges ops j).all fun k => done.contains k
def planG (ops : Array Oper) (ks : List XK) : Nat → List Nat → List Nat → List Nat
  | 0, _, _ => []
  | f + 1, done, todo => match todo.find? fun j => !(effK ks j) && readyP ops done j with
    | some j => j :: planG ops ks f (j :: done) (todo.erase j)
    | none => match todo.find? fun j => readyP ops done j with
      | some j => j :: planG ops ks f (j :: done) (todo.erase j)
      | none => []
def chG (ks : List XK) : Bool → List Nat → List Nat
  | _, [] => []
  | seen, j :: l => if effK ks j then j :: chG ks true l else if seen && (match ks[j]? with | some .new => true | _ => false) then j :: chG ks seen l else chG ks seen l

def creg (P : Program) (n : Nat) (ops : Array Oper) (draw : Bool) : Option (List XS) :=
  if draw then
    let ks := ops.toList.map fun o => match cop P o with | some x => x.kind | none => .pur
    let ord := planG ops ks ops.size [] (List.range ops.size)
    let ch := chG ks false ord
    let ms := masksTo ops ops.size
    if lowE ops && okDw (maskR ms) ops ord ch then cdraw P n ops (maskR ms) ch [] ord else none
  else (List.range ops.size).mapM (cstep P n ops)

theorem creg_sound {P : Program} (hm : P.follows .mixedOrders = true) {n : Nat} {ro : Option Nat} {id : Nat} {ops : Array Oper} {draw : Bool} {l : List XS} (h : creg P n ops draw = some l) {s : St} {H : AH} {Q : AX → St → AH → Prop}
    (hs : stepsX P l [] s H (Q .normal)) : W P n ro (.region id ops draw) s H Q := by
  unfold creg at h
  split at h
  · rename_i hd
    subst hd
    simp only at h
    split at h
    · rename_i hok
      simp only [Bool.and_eq_true] at hok
      have e : maskR (masksTo ops ops.size) = bef ops := by
        funext m j
        rw [bef_masks (lowE_spec hok.1)]
        rfl
      have hok2 := okDw_masks hok.1 hok.2
      rw [e] at h
      exact W.draw hm hok2 (steps_draw _ _ _ _ _ _ _ _ h ⟨fun p hp => by cases hp⟩ hs)
    · cases h
  · rename_i hd
    have : draw = false := by simpa using hd
    subst this
    exact W.region (steps_ops _ _ _ _ _ _ h hs)

/-! ### code -/
def comp (P : Program) (n : Nat) : Code → Option XC
  | .skip => some .skip
  | .exit id => some (.exit id)
  | .ret => some .ret
  | .seq a b => match comp P n a, comp P n b with
    | some xa, some xb => some (.seq xa xb)
    | _, _ => none
  | .cond c a b => match okX c, comp P n a, comp P n b with
    | true, some xa, some xb => some (.cond c xa xb)
    | _, _, _ => none
  | .block id a => (comp P n a).map (.block id)
  | .loop a => (comp P n a).map .loop
  | .region _ ops draw => (creg P n ops draw).map .reg
  | .rangeFunc f ps assign body => match okX f, comp P n assign, comp P n body with
    | true, some xa, some xb => some (.range f ps xa xb)
    | _, _, _ => none
  | _ => none

def loopX (body : St → AH → (AX → St → AH → Prop) → Prop) (s : St) (H : AH) (Q : AX → St → AH → Prop) : Prop :=
  ∃ (I : St → AH → Prop) (μ : St → AH → Nat), I s H ∧ ∀ s H, I s H → body s H (AX.then (fun s' H' => I s' H' ∧ μ s' H' < μ s H) Q)

def X (P : Program) (n : Nat) (ro : Option Nat) : XC → St → AH → (AX → St → AH → Prop) → Prop
  | .skip, s, H, Q => Q .normal s H
  | .exit id, s, H, Q => Q (.exit id) s H
  | .ret, s, H, Q => Q .ret s H
  | .seq a b, s, H, Q => X P n ro a s H (AX.then (fun s H => X P n ro b s H Q) Q)
  | .cond c a b, s, H, Q => ∃ t, ev s c = .bool t ∧ if t then X P n ro a s H Q else X P n ro b s H Q
  | .block id a, s, H, Q => X P n ro a s H (AX.inBlock id Q)
  | .loop a, s, H, Q => loopX (X P n ro a) s H Q
  | .reg l, s, H, Q => stepsX P l [] s H (Q .normal)
  | .range f ps xa xb, s, H, Q => ∀ assign body, comp P n assign = some xa → comp P n body = some xb → W P n ro (.rangeFunc f ps assign body) s H Q

theorem comp_sound {P : Program} (hm : P.follows .mixedOrders = true) {n : Nat} {ro : Option Nat} (c : Code) : ∀ (xc : XC) (s : St) (H : AH) (Q : AX → St → AH → Prop), comp P n c = some xc → X P n ro xc s H Q → W P n ro c s H Q := by
  induction c with
  | skip => intro xc s H Q hc h; simp [comp] at hc; subst hc; exact W.skip h
  | exit id => intro xc s H Q hc h; simp [comp] at hc; subst hc; exact W.exit h
  | ret => intro xc s H Q hc h; simp [comp] at hc; subst hc; exact W.ret h
  | seq a b iha ihb =>
    intro xc s H Q hc h
    simp only [comp] at hc
    split at hc
    · rename_i xa xb ha hb
      cases hc
      refine W.seq (W.mono (iha _ _ _ _ ha h) fun x s' H' hx => ?_)
      cases x with
      | normal => exact ihb _ _ _ _ hb hx
      | exit id => exact hx
      | ret => exact hx
    · cases hc
  | cond c a b iha ihb =>
    intro xc s H Q hc h
    simp only [comp] at hc
    split at hc
    · rename_i xa xb hk ha hb
      cases hc
      obtain ⟨t, ht, h⟩ := h
      refine W.cond hk ht ?_
      cases t with
      | true => exact iha _ _ _ _ ha (by simpa using h)
      | false => exact ihb _ _ _ _ hb (by simpa using h)
    · cases hc
  | block id a ih =>
    intro xc s H Q hc h
    simp only [comp, Option.map_eq_some_iff] at hc
    obtain ⟨xa, ha, rfl⟩ := hc
    exact W.block (ih _ _ _ _ ha h)
  | loop a ih =>
    intro xc s H Q hc h
    simp only [comp, Option.map_eq_some_iff] at hc
    obtain ⟨xa, ha, rfl⟩ := hc
    obtain ⟨I, μ, h0, hr⟩ := h
    exact W.loop I μ h0 fun s H hI => ih _ _ _ _ ha (hr s H hI)
  | region id ops draw =>
    intro xc s H Q hc h
    simp only [comp, Option.map_eq_some_iff] at hc
    obtain ⟨l, ha, rfl⟩ := hc
    exact creg_sound hm ha h
  | rangeFunc f ps assign body iha ihb =>
    intro xc s H Q hc h
    simp only [comp] at hc
    split at hc
    · rename_i xa xb _ ha hb
      cases hc; exact h _ _ ha hb
    · cases hc
  | _ => intro xc s H Q hc h; simp [comp] at hc

/-! ### functions -/
inductive XRes where
  | tmp (t : Tmp)
  | cell (a : Tmp) (sz : Option Nat)
structure XF where
  n : Nat
  res : List XRes
  body : XC

def cres (P : Program) : ResultVar → Option XRes
  | .tmp t => some (.tmp t)
  | .cell a t => (partT P t).map (.cell a)
def compF (P : Program) (f : FuncId) : Option XF :=
  match P.funcs[f]? with
  | some fn => if fn.name == "runtime.NumGoroutine" then none else
    match fn.body with
    | some c => match comp P fn.ntmps c, fn.results.toList.mapM (cres P) with
      | some x, some r => some ⟨fn.ntmps, r, x⟩
      | _, _ => none
    | none => none
  | none => none

def xres (H : AH) (s : St) : XRes → Option Value
  | .tmp t => some (s.env t)
  | .cell a sz => xload sz H [s.env a]
def xress (H : AH) (s : St) (l : List XRes) : Option Value :=
  match l.mapM (xres H s) with
  | some [v] => some v
  | some vs => some (.tuple vs.toArray)
  | none => none
def bodyX (res : List XRes) (R : Value → AH → Prop) : AX → St → AH → Prop
  | .exit _, _, _ => False
  | _, s, H => ∃ H' v, unwA s.ds H = some H' ∧ xress H' s res = some v ∧ R v H'

theorem xres_ok {P : Program} {r : ResultVar} {x : XRes} (h : cres P r = some x) {H : AH} {s : St} {v : Value} (hv : xres H s x = some v) : resA P H s r = some v := by
  cases r with
  | tmp t => simp [cres] at h; subst h; exact hv
  | cell a t =>
    simp only [cres, Option.map_eq_some_iff] at h
    obtain ⟨sz, hp, rfl⟩ := h
    simp only [xres, xload] at hv
    split at hv
    · rename_i ad e
      simp only [List.cons.injEq, and_true] at e
      simp only [resA, e]
      split at hv
      · rename_i c el op ro h1 h2
        simp only [eload, h1, h2]
        unfold partT at hp
        split at hp
        · cases hp
        · rename_i hn
          rw [if_neg hn]
          split at hp
          · rename_i hag
            rw [if_pos hag]
            simp only [Option.map_eq_some_iff] at hp
            obtain ⟨n, h3, rfl⟩ := hp
            simp only [h3]
            exact hv
          · rename_i hag
            cases hp
            rw [if_neg hag]
            exact hv
      · cases hv
    · cases hv

theorem xress_ok {P : Program} {H : AH} {s : St} {rs : List ResultVar} {xs : List XRes} (h : rs.mapM (cres P) = some xs) {v : Value} (hv : xress H s xs = some v) : ressA P H s rs = some v := by
  have key : ∀ (rs : List ResultVar) (xs : List XRes) (vs : List Value), rs.mapM (cres P) = some xs → xs.mapM (xres H s) = some vs → rs.mapM (resA P H s) = some vs := by
    intro rs
    induction rs with
    | nil => intro xs vs h1 h2; simp at h1; subst h1; simpa using h2
    | cons r rs ih =>
      intro xs vs h1 h2
      simp only [List.mapM_cons, Option.bind_eq_bind, Option.bind_eq_some_iff] at h1
      obtain ⟨x, q1, y, q2, q3⟩ := h1
      cases q3
      simp only [List.mapM_cons, Option.bind_eq_bind, Option.bind_eq_some_iff] at h2
      obtain ⟨v, p1, w, p2, p3⟩ := h2
      cases p3
      simp only [List.mapM_cons, xres_ok q1 p1, ih _ _ q2 p2]
      rfl
  unfold xress at hv
  unfold ressA
  cases hm : xs.mapM (xres H s) with
  | none => rw [hm] at hv; cases hv
  | some vs =>
    rw [hm] at hv
    rw [key _ _ _ h hm]
    exact hv

theorem FN.of_comp {P : Program} (hm : P.follows .mixedOrders = true) {f : FuncId} {xf : XF} (hf : compF P f = some xf) {args : List Value} {H : AH} {R : Value → AH → Prop} (hn : args.length ≤ xf.n)
    (h : X P xf.n none xf.body ⟨env0 args, []⟩ H (bodyX xf.res R)) : FN P f args H R := by
  unfold compF at hf
  split at hf
  · rename_i fn hfn
    split at hf
    · cases hf
    · rename_i hname
      split at hf
      · rename_i c hb
        split at hf
        · rename_i x r hx hr
          cases hf
          refine ⟨by simp [callable, hfn, hb]; simpa using hname, F.of_body hfn hb hn (W.mono (comp_sound hm c _ _ _ _ hx h) fun x s H hq => ?_)⟩
          cases x with
          | exit id => exact hq
          | normal =>
            obtain ⟨H', v, q1, q2, q3⟩ := hq
            exact ⟨H', v, q1, xress_ok hr q2, q3⟩
          | ret =>
            obtain ⟨H', v, q1, q2, q3⟩ := hq
            exact ⟨H', v, q1, xress_ok hr q2, q3⟩
        · cases hf
      · cases hf
  · cases hf

abbrev nv (n : Nat) : Value := .int .i64 n

end Go.Sim
