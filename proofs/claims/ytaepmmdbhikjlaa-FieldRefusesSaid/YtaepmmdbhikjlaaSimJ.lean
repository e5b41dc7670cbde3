/- The semantic simulation logic, part 10: a range over a function; the bridge to the machine's calls. -/
import Derived.Test.YtaepmmdbhikjlaaSimI
namespace Go.Sim
open Go

/-! ### what a round sees -/
def parEnv (env : Nat → Value) : List Tmp → List Value → Nat → Value
  | t :: ps, v :: vs => parEnv (fun x => if x = t then v else env x) ps vs
  | _, _ => env

theorem parEnv_rel {i : Inj} {n : Nat} : ∀ (ps : List Tmp) (vs vs' : List Value) (env : Nat → Value) (tmps : Array Value), VRs i vs vs' → tmps.size = n → (∀ t ∈ ps, t < n) → (∀ t, VR i (env t) (tmps.getD t undef)) →
    ((ps.zip vs').foldl (fun (tmps : Array Value) (x : Tmp × Value) => tmps.setIfInBounds x.1 x.2) tmps).size = n ∧ ∀ t, VR i (parEnv env ps vs t) (((ps.zip vs').foldl (fun (tmps : Array Value) (x : Tmp × Value) => tmps.setIfInBounds x.1 x.2) tmps).getD t undef)
  | [], _, _, env, tmps, _, hs, _, h => ⟨hs, h⟩
  | _ :: _, [], _, env, tmps, hv, hs, _, h => by cases hv; exact ⟨hs, h⟩
  | p :: ps, v :: vs, _, env, tmps, hv, hs, hp, h => by
    cases hv with
    | cons h1 h2 =>
      rename_i v' l'
      simp only [List.zip_cons_cons, List.foldl_cons, parEnv]
      refine parEnv_rel ps vs l' _ _ h2 (by simpa using hs) (fun t ht => hp t (by simp [ht])) (fun t => ?_)
      have hpn := hp p (by simp)
      by_cases ht : t = p
      · subst ht
        have ht2 : t < tmps.size := by rw [hs]; exact hpn
        simpa [ht2] using h1
      · simp only [ht, if_false]
        have := h t
        simpa [Array.getElem?_setIfInBounds_ne (Ne.symm ht)] using this

def AX.jump : AX → Option Code
  | .normal => none
  | .exit id => some (.exit id)
  | .ret => some .ret
def AX.isN : AX → Bool
  | .normal => true
  | _ => false

/-- yield of the loop l, called with vs, comes to v. -/
def YSim (P : Program) (l : Nat) (vs : List Value) (H : AH) (v : Value) (H' : AH) : Prop :=
  ∀ (o : Oper) (c : Call) (f : Operand), o.op = .call c → c.callee = .value f → OpSim P o (.func (.yield l) #[] #[] :: vs) H v H'

theorem loopR_state {i : Inj} {l : ALoop} {l' : Loop} (h : LoopR i l l') (st : LoopState) (p : Option Code) : LoopR i { l with state := st, pending := p } { l' with state := st, pending := p } :=
  ⟨rfl, rfl, h.params, h.assign, h.body, h.size, h.env, h.defers⟩

theorem rel_loop {i : Inj} {H : AH} {w : World} (h : Rel i H w) {b : Nat} {L : Loc} {r : ALoop} (hb : i b = some L) (hx : H[b]? = some (.loop r)) (st : LoopState) (p : Option Code) :
    ∃ r', w.heap[L.blk]? = some (.loop r') ∧ LoopR i r r' ∧ Rel i (H.set b (.loop { r with state := st, pending := p })) (w.putObj L.blk (.loop { r' with state := st, pending := p })) ∧
      Ext i i H (H.set b (.loop { r with state := st, pending := p })) w (w.putObj L.blk (.loop { r' with state := st, pending := p })) := by
  obtain ⟨r', h1, h2⟩ := h.blk b L _ hb hx
  have hlt : L.blk < w.heap.size := (Array.getElem?_eq_some_iff.1 h1).1
  have := rel_obj h (x' := .loop { r with state := st, pending := p }) (o' := .loop { r' with state := st, pending := p }) hb hx rfl ⟨_, World.putObj_heap_same hlt, loopR_state h2 st p⟩
  exact ⟨r', h1, h2, this.1, this.2⟩

theorem ysim {P : Program} {l : Nat} {vs : List Value} {H H1 H3 : AH} {r r1 r3 : ALoop} {s1 s2 : St} {x : AX} (hl : H[l]? = some (.loop r)) (hps : r.params.size = vs.length) (hpn : ∀ t ∈ r.params.toList, t < r.n)
    (ha : CSim P r.n (some l) r.assign ⟨parEnv r.env r.params.toList vs, []⟩ H .normal s1 H1) (hl1 : H1[l]? = some (.loop r1)) (hst : r1.state = .ready)
    (hb : CSim P r.n (some l) r.body s1 (H1.set l (.loop { r1 with state := .busy, pending := r1.pending })) x s2 H3) (hl3 : H3[l]? = some (.loop r3)) :
    YSim P l vs H (.bool x.isN) (H3.set l (.loop { r3 with state := if x.isN then .ready else .done, pending := x.jump })) := by
  intro o c f ho hc i w vs' hr hvs b a ops j rest k cs ho' hw hρ
  cases hvs with
  | cons hf hrest =>
    rename_i f' us'
    cases hf with
    | func hfn hs1 h1 hs2 h2 =>
      rename_i fn' first' cap'
      cases hfn with
      | yield hi =>
        rename_i L
        have e1 : first' = #[] := by apply Array.eq_empty_of_size_eq_zero; simpa using hs1.symm
        have e2 : cap' = #[] := by apply Array.eq_empty_of_size_eq_zero; simpa using hs2.symm
        subst e1 e2
        have hop : o.op.operands.toList = f :: c.args.toList := by rw [ho]; simp [Op.operands, Call.operands, hc]
        rw [hop] at hρ
        simp only [List.map_cons, List.cons.injEq] at hρ
        obtain ⟨q1, q2⟩ := hρ
        obtain ⟨r', g1, g2⟩ := hr.blk l L _ hi hl
        have hargs : c.args.map a.eval = us'.toArray := by apply Array.ext'; simpa using q2
        have hul := hrest.length
        have hyield := run_yield (P := P) (args := us'.toArray) g1 (by rw [g2.params]; simp [hps, hul])
        have hrun : (execOp a.eval o).run P w = .ok (.round L.blk r'.fn ((r'.params.zip us'.toArray).foldl (fun tmps (t, a) => tmps.setIfInBounds t a) r'.tmps) r'.assign r'.body) w := by
          unfold execOp
          rw [ho]
          simp only [resolve, hc, q1, hargs, Deferred.ofValue, Sem.run_bind, Sem.run_pure, Result.andThen_ok, invoke]
          simpa using hyield
        have hnd : ∀ c, o.op ≠ .defer c := by intro c'; rw [ho]; simp
        have hgs := stepGR_op (P := P) (b := b) (k := k) (cs := cs) (w := w) (rest := rest) ho' hw
        rw [Oper.semAt_eq _ _ _ hnd] at hgs
        have hfold : ((r'.params.zip us'.toArray).foldl (fun tmps (t, a) => tmps.setIfInBounds t a) r'.tmps) = (r.params.toList.zip us').foldl (fun (tmps : Array Value) (x : Tmp × Value) => tmps.setIfInBounds x.1 x.2) r'.tmps := by
          rw [← Array.foldl_toList, g2.params]
          simp
        rw [hfold] at hrun
        obtain ⟨p1, p2⟩ := parEnv_rel r.params.toList vs us' r.env r'.tmps hrest g2.size hpn g2.env
        generalize htm : (r.params.toList.zip us').foldl (fun (tmps : Array Value) (x : Tmp × Value) => tmps.setIfInBounds x.1 x.2) r'.tmps = tm at hrun p1 p2
        let b' : Frame := { (default : Frame) with fn := r'.fn, kind := .normal, roundOf := some L.blk }
        have henter : step P (lone (b.atR a (.inRegion ops (j :: rest) :: k)) cs w) = .next (lone (b'.atR { tmps := tm, defers := [] } [.code r.assign, .beginRound, .code r.body]) (b.atR a (.inRegion ops (j :: rest) :: k) :: cs) w) := by
          rw [← g2.assign, ← g2.body]
          exact step_lone_go (by rw [hgs]; simp [stepG.apply, hrun, Frame.atR, Frame.round, b'])
        obtain ⟨i1, w1, a1, x1, y1, z1, t1⟩ := ha i w b' { tmps := tm, defers := [] } [.beginRound, .code r.body] (b.atR a (.inRegion ops (j :: rest) :: k) :: cs) hr ⟨p1, p2, .nil⟩ ⟨L, hi, rfl⟩
        have hi1 := x1.le _ _ hi
        obtain ⟨r1', m1, m2, m3, m4⟩ := rel_loop y1 hi1 hl1 .busy r1.pending
        have hbr := run_beginRound (P := P) m1 (by rw [m2.state]; exact hst)
        have hbr' : (Instr.beginRound L.blk).run P w1 = .ok () (w1.putObj L.blk (.loop { r1' with state := .busy, pending := r1.pending })) := by
          rw [hbr, ← m2.pending]
        obtain ⟨i2, w2, a2, x2, y2, z2, t2⟩ := hb i1 _ b' a1 [] (b.atR a (.inRegion ops (j :: rest) :: k) :: cs) m3 (z1.mono m4.le) ⟨L, hi1, rfl⟩
        have hi2 := x2.le _ _ hi1
        obtain ⟨r3', n1, n2, n3, n4⟩ := rel_loop y2 hi2 hl3 (if x.isN then .ready else .done) x.jump
        refine ⟨i2, _, .bool x.isN, ((x1.trans m4).trans x2).trans n4, n3, .bool _, ?_⟩
        have hfin : ∀ u, (b.atR a (.inRegion ops (j :: rest) :: k)).finish u = b.atR (a.put o.dst u) (.inRegion ops rest :: k) := by
          intro u; rw [Frame.finish_atR, ho']; rfl
        have s1 := Steps.head henter (Steps.trans t1 (.one (stepR_beginRound (b := b') rfl hbr')))
        cases x with
        | normal =>
          have hend := run_endRound (P := P) none n1
          exact s1.trans (Steps.trans t2 (.one (by rw [← hfin]; exact stepR_round_end (b := b') rfl rfl hend)))
        | ret =>
          have hend := run_endRound (P := P) (some .ret) n1
          obtain ⟨todo, t2⟩ := t2
          exact s1.trans (Steps.trans t2 (.one (by rw [← hfin]; exact stepR_round_ret (b := b') rfl rfl hend)))
        | exit id =>
          have hend := run_endRound (P := P) (some (.exit id)) n1
          obtain ⟨todo, t3, t2⟩ := t2
          exact s1.trans (Steps.trans t2 (.one (by rw [← hfin]; exact stepR_round_exit (b := b') rfl rfl (by rw [t3]; rfl) hend)))

/-- How a loop over a function is left. -/
def AX.of : Option Code → Option AX
  | none => some .normal
  | some .ret => some .ret
  | some (.exit id) => some (.exit id)
  | _ => none

def newLoop (n : Nat) (s : St) (ps : Array Tmp) (assign body : Code) (d : Nat) : ALoop := { state := .ready, pending := none, n := n, env := s.env, params := ps, assign, body, defers := d }

theorem jump_arr {P : Program} {b : Frame} {a : Act} {k : List Item} {cs : List Frame} {w : World} {jump : Option Code} {x : AX} (h : AX.of jump = some x) : Arr P (lone (b.atR a ((jump.map Item.code).toList ++ k)) cs w) b k cs x a w := by
  unfold AX.of at h
  split at h
  · cases h; exact Steps.refl _ _
  · cases h; exact ⟨k, Steps.refl _ _⟩
  · cases h; exact ⟨k, rfl, Steps.refl _ _⟩
  · cases h

/-- A range over a function, not within another one's body. -/
theorem W.rangeFunc {P : Program} {n : Nat} {s : St} {H : AH} {Q : AX → St → AH → Prop} {f : Operand} {ps : Array Tmp} {assign body : Code} (hf : okX f = true) {g : FuncId} {first cap : Array Value} (hev : ev s f = .func (.func g) first cap)
    {fn : Func} (hg : P.funcs[g]? = some fn) (hb : fn.body.isSome = true) (hname : (fn.name == "runtime.NumGoroutine") = false)
    (h : F P g (first.toList ++ [.func (.yield (H.length + 1)) #[] #[]] ++ cap.toList) (H ++ [.defs (some []), .loop (newLoop n s ps assign body H.length)])
      (fun _ H2 => ∃ r x, H2[H.length + 1]? = some (.loop r) ∧ r.state ≠ .busy ∧ AX.of r.pending = some x ∧
        Q x { s with ds := ⟨.collected H.length, #[]⟩ :: s.ds } (H2.set (H.length + 1) (.loop { r with state := .exhausted, pending := r.pending })))) :
    W P n none (.rangeFunc f ps assign body) s H Q := by
  obtain ⟨v, H2, ⟨r, x, hr1, hr2, hr3, hq⟩, hsim⟩ := h
  refine ⟨x, _, _, hq, fun i w b a k cs hr hs hro => ?_⟩
  have hro' : b.roundOf = none := hro
  have hfv := ev_rel hs hf
  rw [hev] at hfv
  generalize hfe : a.eval f = fv at hfv
  cases hfv with
  | func hfn hs1 h1 hs2 h2 =>
    rename_i fn' first' cap'
    cases hfn
    -- the record
    have e1 := ext_new hr (.defs (some [])) (.deferred (some [])) 0 0
    have g1 := rel_push hr (.defs (some [])) (.deferred (some [])) 0 0 ⟨[], heap_alloc_new w _, .nil⟩
    generalize hi1 : i.upd H.length ⟨w.heap.size, 0, 0, 0⟩ = i1 at e1 g1
    have hD : i1 H.length = some ⟨w.heap.size, 0, 0, 0⟩ := by rw [← hi1]; exact Inj.upd_same _ _ _
    let rl : Loop := { state := .ready, pending := none, fn := b.fn, tmps := a.tmps, params := ps, assign, body, defers := w.heap.size }
    have hLR : ∀ j : Inj, i1.le j → LoopR j (newLoop n s ps assign body H.length) rl := fun j hj =>
      ⟨rfl, rfl, rfl, rfl, rfl, hs.size, fun t => (hs.env t).mono (Inj.le_trans e1.le hj), ⟨_, hj _ _ hD, rfl⟩⟩
    have e2 := ext_new g1 (.loop (newLoop n s ps assign body H.length)) (.loop rl) 0 0
    have g2 := rel_push g1 (.loop (newLoop n s ps assign body H.length)) (.loop rl) 0 0 ⟨rl, heap_alloc_new _ _, hLR _ (Inj.le_upd g1.none_at)⟩
    have hlen : (H ++ [AB.defs (some [])]).length = H.length + 1 := by simp
    have hws : (w.alloc (.deferred (some []))).heap.size = w.heap.size + 1 := by simp
    rw [hlen, hws] at e2 g2
    generalize hi2 : i1.upd (H.length + 1) ⟨w.heap.size + 1, 0, 0, 0⟩ = i2 at e2 g2
    have hL : i2 (H.length + 1) = some ⟨w.heap.size + 1, 0, 0, 0⟩ := by rw [← hi2]; exact Inj.upd_same _ _ _
    rw [List.append_assoc] at e2 g2
    have eA := e1.trans e2
    have hy : VR i2 (.func (.yield (H.length + 1)) #[] #[]) (.func (.yield (w.heap.size + 1)) #[] #[]) :=
      VR.func (FnR.yield (L := ⟨w.heap.size + 1, 0, 0, 0⟩) hL) rfl (fun k h => by simp at h) rfl (fun k h => by simp at h)
    have hargs : VRs i2 (first.toList ++ [Value.func (.yield (H.length + 1)) #[] #[]] ++ cap.toList) (first'.toList ++ [Value.func (.yield (w.heap.size + 1)) #[] #[]] ++ cap'.toList) :=
      ((((VRs.of_arr hs1 h1).mono eA.le).append (.cons hy .nil)).append ((VRs.of_arr hs2 h2).mono eA.le))
    obtain ⟨i3, w3, v', fr, e3, g3, hv3, p3, _, hleave⟩ := hsim i2 _ _ g2 hargs (b.atR { a with defers := [{ target := .collected w.heap.size, args := #[] }] ++ a.defers } (.inRangeFunc (w.heap.size + 1) :: k) :: cs)
    -- the call
    have henter := run_enterLoop_outer (P := P) (w := w) b.fn a.tmps ps assign body
    have hres : (resolve a.eval (rangeCall f (w.heap.size + 1)) 0).run P ((w.alloc (.deferred (some []))).alloc (.loop rl)) = .ok { target := .fn (.func g) cap', args := first' ++ #[Value.func (.yield (w.heap.size + 1)) #[] #[]] } ((w.alloc (.deferred (some []))).alloc (.loop rl)) := by
      simp only [resolve, hfe, Deferred.ofValue]
      simp [Act.eval]
    have hinv : (invoke (.fn (.func g) cap') (first' ++ #[Value.func (.yield (w.heap.size + 1)) #[] #[]])).run P ((w.alloc (.deferred (some []))).alloc (.loop rl)) =
        .ok (.enter g (first'.toList ++ [Value.func (.yield (w.heap.size + 1)) #[] #[]] ++ cap'.toList).toArray) ((w.alloc (.deferred (some []))).alloc (.loop rl)) := by
      simp only [invoke, callFunc, program, Sem.run_bind, Sem.run, Result.andThen_ok, hg, hname, Bool.false_eq_true, if_false]
      rw [if_neg (by cases hbb : fn.body <;> simp_all)]
      simp
    have hstep := stepR_rangeFunc (P := P) (b := b) (a := a) (k := k) (cs := cs) (w := w) (g := f) (ps := ps) (assign := assign) (body := body) (by rw [hro']; exact henter) hres hinv
    -- the end
    have hi3 := e3.le _ _ hL
    obtain ⟨r', m1, m2, m3, m4⟩ := rel_loop g3 hi3 hr1 .exhausted r.pending
    have hend := run_endLoop (P := P) m1 (by rw [m2.state]; exact hr2)
    have hend' : (Instr.endLoop (w.heap.size + 1)).run P w3 = .ok r.pending (w3.putObj (w.heap.size + 1) (.loop { r' with state := .exhausted, pending := r.pending })) := by
      rw [hend, ← m2.pending]
    refine ⟨i3, _, { a with defers := [{ target := .collected w.heap.size, args := #[] }] ++ a.defers }, (eA.trans e3).trans m4, m3, ⟨hs.size, fun t => (hs.env t).mono (Inj.le_trans eA.le e3.le), .cons (.collected (L := ⟨w.heap.size, 0, 0, 0⟩) (e3.le _ _ (e2.le _ _ hD))) (hs.ds.mono (Inj.le_trans eA.le e3.le))⟩, ?_⟩
    have s1 : Steps P (lone (b.atR a (.code (.rangeFunc f ps assign body) :: k)) cs w) (lone (b.atR { a with defers := [{ target := .collected w.heap.size, args := #[] }] ++ a.defers } ((r.pending.map Item.code).toList ++ k)) cs (w3.putObj (w.heap.size + 1) (.loop { r' with state := .exhausted, pending := r.pending }))) := by
      refine .head hstep (p3.trans ?_)
      have h1 := step_leave_returned (c := b.atR { a with defers := [{ target := .collected w.heap.size, args := #[] }] ++ a.defers } (.inRangeFunc (w.heap.size + 1) :: k)) (cs := cs) hleave
      rw [finish_atR_inRangeFunc] at h1
      exact .head h1 (.one (stepR_endRangeFunc hend'))
    exact Arr.of_steps s1 (jump_arr hr3)

/-! ### the bridge -/
theorem calls_of_F {P : Program} {f : FuncId} {args : List Value} {R : Value → Prop} (h : F P f args [] (fun v _ => R v)) (hg : ∀ v ∈ args, ground v = true) (w : World) (hR : ∀ v v' (i : Inj), R v → VR i v v' → R v') :
    Calls P f args.toArray w fun e w' => ∃ v, R v ∧ e = .returned v ∧ RowKit.Below w.heap.size w w' := by
  obtain ⟨v, H', r, sim⟩ := h
  intro cs
  have hrel : Rel (fun _ => none) [] w := ⟨(fun b => by simp), (fun b L x h => by cases h), (fun _ _ _ _ _ _ h => by cases h)⟩
  have hv : ∀ l : List Value, (∀ v ∈ l, ground v = true) → VRs (fun _ => none) l l := by
    intro l
    induction l with
    | nil => intro _; exact .nil
    | cons x l ih => intro h; exact .cons (VR.of_ground (h x (by simp)) _) (ih (fun v hv => h v (by simp [hv])))
  obtain ⟨i', w', v', fr, e, g, hv', p, q1, q2⟩ := sim _ w args hrel (hv args hg) cs
  exact ⟨.returned v', w', fr, ⟨v', hR _ _ _ r hv', rfl, ⟨e.os, e.tape, e.output, e.size, (fun k hk => e.frame k hk (fun b L x h => by cases h))⟩⟩, p, q1, q2⟩

end Go.Sim
