/- The semantic simulation logic, part 9: a region whose order is drawn, run. -/
import Derived.Test.YtaepmmdbhikjlaaSimH
namespace Go.Sim
open Go

theorem act_put_other {a : Act} {dst : Option Tmp} {v : Value} {t : Nat} (h : dst ≠ some t) : (a.put dst v).tmps.getD t undef = a.tmps.getD t undef := by
  cases dst with
  | none => rfl
  | some d =>
    have hne : d ≠ t := fun e => h (by rw [e])
    simp [Act.put, Array.getElem?_setIfInBounds_ne hne]
theorem act_put_same {a : Act} {v : Value} {t : Nat} (h : t < a.tmps.size) : (a.put (some t) v).tmps.getD t undef = v := by
  simp [Act.put, h]
theorem act_put_size {a : Act} {dst : Option Tmp} {v : Value} : (a.put dst v).tmps.size = a.tmps.size := by cases dst <;> simp [Act.put]
theorem act_put_defers {a : Act} {dst : Option Tmp} {v : Value} : (a.put dst v).defers = a.defers := by cases dst <;> rfl

open Classical in
noncomputable def valEnv (D0 : List Pend) (s0 s : St) (t : Nat) : Value := if ∃ q ∈ D0, q.o.dst = some t then s0.env t else s.env t

section
variable {P : Program} {n : Nat} {ops : Array Oper} {ord ch : List Nat} {L : Nat → Bool} {s0 : St} {H0 : AH} {i0 : Inj} {w0 : World}
variable {done rest : List Nat} {D D0 : List Pend} {s : St} {H : AH} {i : Inj} {w : World} {a : Act}

theorem DI.envV (I : DI P n ops ord ch L s0 H0 i0 w0 done rest D D0 s H i w a) (t : Nat) : VR i (valEnv D0 s0 s t) (a.tmps.getD t undef) := by
  unfold valEnv
  split
  · rename_i h
    obtain ⟨q, hq, e⟩ := h
    exact I.envD q hq t e
  · rename_i h
    exact I.envN t (fun p hp e => h ⟨p, hp, e⟩)

open Classical in
/-- The abstract frame as the world's stands, where the tmps of T are worth what env says. -/
theorem DI.frame (I : DI P n ops ord ch L s0 H0 i0 w0 done rest D D0 s H i w a) (T : List Tmp) (env : Nat → Value) (h : ∀ t ∈ T, env t = valEnv D0 s0 s t) :
    ∃ sx : St, StR i n sx a ∧ ∀ t ∈ T, sx.env t = env t := by
  refine ⟨⟨fun t => if t ∈ T then env t else valEnv D0 s0 s t, s.ds⟩, ⟨I.size, fun t => ?_, I.ds⟩, fun t ht => by simp [ht]⟩
  by_cases ht : t ∈ T
  · simp only [ht, if_true, h t ht]; exact I.envV t
  · simp only [ht, if_false]; exact I.envV t

theorem dst_lt {m : Nat} {t : Tmp} (h : dstOf ops m = some t) : m < ops.size := by
  rcases Nat.lt_or_ge m ops.size with h1 | h1
  · exact h1
  · simp [dstOf, Array.getElem?_eq_none h1] at h

theorem evs_congr {sx sy : St} {ops : Array Oper} {o : Oper} (h : ∀ t ∈ o.looksAt ops, sx.env t = sy.env t) : o.op.operands.toList.map (ev sx) = o.op.operands.toList.map (ev sy) := by
  refine List.map_congr_left fun x hx => ?_
  cases x with
  | tmp t =>
    refine h t ?_
    unfold Oper.looksAt
    rw [List.mem_append, List.mem_filterMap]
    exact .inl ⟨_, hx, rfl⟩
  | _ => rfl

theorem guard_looks {ops : Array Oper} {o : Oper} {j : Nat} {want : Bool} {d : Tmp} (hg : o.guard = some (j, want)) (hd : (ops[j]?).bind (·.dst) = some d) : d ∈ o.looksAt ops := by
  unfold Oper.looksAt
  rw [List.mem_append]
  right
  simp [hg, hd]

theorem DI.nodup (hk : DOK ops ord ch) : ord.Nodup := hk.pw.imp (fun h => h.2.1)

theorem DI.not_both (hk : DOK ops ord ch) (I : DI P n ops ord ch L s0 H0 i0 w0 done rest D D0 s H i w a) {m : Nat} (h1 : m ∈ done) (h2 : m ∈ rest) : False := by
  have := DI.nodup hk
  rw [← I.spl] at this
  exact (List.nodup_append.1 this).2.2 m h1 m h2 rfl

/-- What a pending operation that may be taken now sees. -/
theorem DI.sees (hk : DOK ops ord ch) (I : DI P n ops ord ch L s0 H0 i0 w0 done rest D D0 s H i w a) {p : Pend} (hp : p ∈ D0) (hr : ∀ k ∈ edges ops p.j, L k = true) : ∀ t ∈ p.o.looksAt ops, p.env t = valEnv D0 s0 s t := by
  intro t ht
  have hpN : p.j < ops.size := (hk.mem p.j).1 (by rw [← I.spl]; simp [I.djs p hp])
  have hlook : looks ops p.j = p.o.looksAt ops := by simp [looks, I.op p hp]
  unfold valEnv
  by_cases hw : ∃ m, dstOf ops m = some t
  · obtain ⟨m, hm⟩ := hw
    have hmN := dst_lt hm
    obtain ⟨hne, hb⟩ := hk.names p.j m t hpN hmN hm (by rw [hlook]; exact ht)
    have hq : ∀ q ∈ D0, q.o.dst = some t → q.j = m := fun q hq e => by
      have hqN : q.j < ops.size := (hk.mem q.j).1 (by rw [← I.spl]; simp [I.djs q hq])
      exact hk.uniq q.j m t hqN hmN (by simp [dstOf, I.op q hq, e]) hm
    rcases hb with hb | hb
    · have hLm := bef_closed I.clo _ _ _ hb hr
      rw [if_neg (fun ⟨q, hq1, e⟩ => by
        have h1 := hq q hq1 e
        have := (I.unl m hmN).2 (.inr ⟨q, hq1, h1⟩)
        rw [hLm] at this; cases this)]
      exact (I.earlyW p hp t ht m hm hb).symm
    · rw [I.lateW p hp t ht m hm hb]
      split
      · rfl
      · rename_i hno
        have hLm : L m = false := by
          cases h : L m with
          | false => rfl
          | true =>
            have h1 := bef_closed I.clo _ _ _ hb (fun k hk' => I.clo m k h hk')
            have h2 := (I.unl p.j hpN).2 (.inr ⟨p, hp, rfl⟩)
            rw [h1] at h2; cases h2
        have hmr : m ∈ rest := by
          rcases (I.unl m hmN).1 hLm with h | ⟨q, hq1, rfl⟩
          · exact h
          · exact absurd ⟨q, hq1, by simpa [dstOf, I.op q hq1] using hm⟩ hno
        refine (I.same t (fun m' hm' e => ?_)).symm
        have := hk.uniq m' m t (dst_lt e) hmN e hm
        subst this
        exact I.not_both hk hm' hmr
  · have hno : ∀ m, dstOf ops m ≠ some t := fun m e => hw ⟨m, e⟩
    rw [if_neg (fun ⟨q, hq, e⟩ => hno q.j (by simp [dstOf, I.op q hq, e])), I.noW p hp t ht (fun m _ => hno m)]
    exact (I.same t (fun m _ => hno m)).symm

/-- What the next operation that acts sees. -/
theorem DI.seesCh (hk : DOK ops ord ch) {j : Nat} (I : DI P n ops ord ch L s0 H0 i0 w0 done (j :: rest) D D0 s H i w a) {o : Oper} (ho : ops[j]? = some o) (hr : ∀ k ∈ edges ops j, L k = true) : ∀ t ∈ o.looksAt ops, s.env t = valEnv D0 s0 s t := by
  intro t ht
  have hjN : j < ops.size := (hk.mem j).1 (by rw [← I.spl]; simp)
  unfold valEnv
  split
  · rename_i h
    obtain ⟨q, hq, e⟩ := h
    have hqN : q.j < ops.size := (hk.mem q.j).1 (by rw [← I.spl]; simp [I.djs q hq])
    have hdst : dstOf ops q.j = some t := by simp [dstOf, I.op q hq, e]
    obtain ⟨hne, hb⟩ := hk.names j q.j t hjN hqN hdst (by simpa [looks, ho] using ht)
    have hunl := (I.unl q.j hqN).2 (.inr ⟨q, hq, rfl⟩)
    rcases hb with hb | hb
    · have := bef_closed I.clo _ _ _ hb hr
      rw [this] at hunl; cases hunl
    · have hpw := hk.pw
      rw [← I.spl] at hpw
      have := ((List.pairwise_append.1 hpw).2.2 q.j (I.djs q hq) j (by simp)).1
      rw [hb] at this; cases this
  · rfl

/-- The state behind a pending operation. -/
theorem DI.after (hk : DOK ops ord ch) (I : DI P n ops ord ch L s0 H0 i0 w0 done rest D D0 s H i w a) {p : Pend} (hp : p ∈ D0) (hr : ∀ k ∈ edges ops p.j, L k = true) {i' : Inj} {w' : World} {v' : Value} (hle : i.le i') (hrel : Rel i' H w') (hext : Ext i0 i' H0 H w0 w') (hv : VR i' p.v v')
    (hal : ∀ q ∈ D0, q.j ≠ p.j → ∀ id c e mk, q.kind = .alloc id c e mk → i' id = none) :
    DI P n ops ord ch (fun j => L j || j == p.j) s0 H0 i0 w0 done rest D (D0.filter fun q => q.j != p.j) s H i' w' (a.put p.o.dst v') := by
  have hpN : p.j < ops.size := (hk.mem p.j).1 (by rw [← I.spl]; simp [I.djs p hp])
  have hmem : ∀ q, q ∈ D0.filter (fun q => q.j != p.j) ↔ q ∈ D0 ∧ q.j ≠ p.j := by intro q; simp
  have hdst : dstOf ops p.j = p.o.dst := by simp [dstOf, I.op p hp]
  have other : ∀ q ∈ D0, q.j ≠ p.j → ∀ t, q.o.dst = some t → p.o.dst ≠ some t := fun q hq hne t h1 h2 => by
    have hqN : q.j < ops.size := (hk.mem q.j).1 (by rw [← I.spl]; simp [I.djs q hq])
    exact hne (hk.uniq q.j p.j t hqN hpN (by simp [dstOf, I.op q hq, h1]) (by rw [hdst, h2]))
  refine ⟨fun j k hj hjk => ?_, I.spl, fun j hj => ?_, fun q hq => I.sub q ((hmem q).1 hq).1, fun q hq => I.djs q ((hmem q).1 hq).1, ?_, fun q hq => I.op q ((hmem q).1 hq).1, fun q hq => I.nch q ((hmem q).1 hq).1, fun q hq => I.dstb q ((hmem q).1 hq).1, I.same, fun q hq => I.lateW q ((hmem q).1 hq).1, fun q hq => I.noW q ((hmem q).1 hq).1, fun q hq => I.earlyW q ((hmem q).1 hq).1, fun q hq => I.val q ((hmem q).1 hq).1, fun q hq t ht => ?_, fun t ht => ?_, by rw [act_put_size]; exact I.size, by rw [act_put_defers]; exact I.ds.mono hle, hrel, hext, fun q hq => I.quiet q ((hmem q).1 hq).1, fun q hq => I.pur q ((hmem q).1 hq).1, fun q hq => I.okx q ((hmem q).1 hq).1, fun q hq => I.want q ((hmem q).1 hq).1, fun q hq id c e mk hk' => ?_, fun q hq q2 hq2 => I.ids q ((hmem q).1 hq).1 q2 ((hmem q2).1 hq2).1⟩
  · simp only [Bool.or_eq_true, beq_iff_eq] at hj ⊢
    rcases hj with hj | rfl
    · exact .inl (I.clo j k hj hjk)
    · exact .inl (hr k hjk)
  · simp only [Bool.or_eq_false_iff, beq_eq_false_iff_ne, I.unl j hj]
    constructor
    · rintro ⟨h | ⟨q, hq, rfl⟩, hne⟩
      · exact .inl h
      · exact .inr ⟨q, (hmem q).2 ⟨hq, hne⟩, rfl⟩
    · rintro (h | ⟨q, hq, rfl⟩)
      · exact ⟨.inl h, fun e => by subst e; exact I.not_both hk (I.djs p hp) h⟩
      · exact ⟨.inr ⟨q, ((hmem q).1 hq).1, rfl⟩, ((hmem q).1 hq).2⟩
  · exact List.Nodup.sublist (List.Sublist.map _ List.filter_sublist) I.nod
  · obtain ⟨h1, h2⟩ := (hmem q).1 hq
    rw [act_put_other (other q h1 h2 t ht)]
    exact (I.envD q h1 t ht).mono hle
  · by_cases hpt : p.o.dst = some t
    · rw [hpt, act_put_same (by rw [I.size]; exact I.dstb p hp t hpt), I.val p hp t hpt]
      exact hv
    · rw [act_put_other hpt]
      refine (I.envN t (fun q hq e => ?_)).mono hle
      by_cases hqp : q.j = p.j
      · have : q.o = p.o := by
          have h1 := I.op q hq
          rw [hqp, I.op p hp] at h1
          simpa using h1.symm
        exact hpt (by rw [← this]; exact e)
      · exact ht q ((hmem q).2 ⟨hq, hqp⟩) e
  · obtain ⟨h1, h2⟩ := (hmem q).1 hq
    obtain ⟨_, g2, g3, g4, g5⟩ := I.alloc q h1 id c e mk hk'
    exact ⟨hal q h1 h2 id c e mk hk', g2, g3, g4, g5⟩

/-- A pending operation is taken. -/
theorem DI.exec (hk : DOK ops ord ch) (I : DI P n ops ord ch L s0 H0 i0 w0 done rest D D0 s H i w a) {p : Pend} (hp : p ∈ D0) (hr : ∀ k ∈ edges ops p.j, L k = true) (b : Frame) (l : List Nat) (k : List Item) (cs : List Frame) :
    ∃ i' w' a', DI P n ops ord ch (fun j => L j || j == p.j) s0 H0 i0 w0 done rest D (D0.filter fun q => q.j != p.j) s H i' w' a' ∧
      Steps P (lone (b.atR a (.inRegion ops (p.j :: l) :: k)) cs w) (lone (b.atR a' (.inRegion ops l :: k)) cs w') := by
  obtain ⟨sx, hsx, hse⟩ := I.frame (p.o.looksAt ops) p.env (I.sees hk hp hr)
  have hop := I.op p hp
  have hwant : Region.wanted p.o (yielded ops a.tmps) = wantedA ops ⟨p.env, []⟩ p.o := by
    rw [wanted_eq hsx.env]
    exact wantedA_congr fun j want d hg hd => hse d (guard_looks hg hd)
  have hvs : p.o.op.operands.toList.map (ev sx) = p.vs := evs_congr (sy := ⟨p.env, []⟩) hse
  by_cases hsk : p.kind = .skip
  · obtain ⟨h1, h2⟩ := (I.want p hp).1 hsk
    refine ⟨i, w, _, I.after hk hp hr (v' := undef) i.le_refl I.rel I.ext (by rw [h2]; exact VR.undef i) (fun q hq _ id c e mk h => (I.alloc q hq id c e mk h).1), .one ?_⟩
    have := stepR_op_skip (P := P) (b := b) (a := a) (k := k) (cs := cs) (w := w) (ops := ops) (i := p.j) (rest := l) (by rw [hop]; simp [hwant, h1])
    rw [hop] at this
    exact this
  · have hw1 := (I.want p hp).2 hsk
    have hrels := evs_rel hsx (I.okx p hp hsk)
    rw [hvs] at hrels
    cases hkd : p.kind with
    | skip => exact absurd hkd hsk
    | quiet =>
      obtain ⟨i', w', v', e1, g1, hv1, p1⟩ := I.quiet p hp hkd i w _ I.rel hrels b a ops p.j l k cs hop (by rw [hwant, hw1]) rfl
      refine ⟨i', w', _, I.after hk hp hr e1.le g1 (I.ext.trans e1) hv1 (fun q hq _ id c e mk h => ?_), p1⟩
      obtain ⟨q1, q2, _⟩ := I.alloc q hq id c e mk h
      have hlt := (List.getElem?_eq_some_iff.1 q2).1
      cases hi : i' id with
      | none => rfl
      | some M =>
        rcases e1.fresh id M hi with h1 | ⟨h1, _⟩
        · rw [q1] at h1; cases h1
        · omega
    | pur =>
      obtain ⟨i', w', v', e1, g1, hv1, p1⟩ := I.pur p hp hkd H i w _ I.rel hrels b a ops p.j l k cs hop (by rw [hwant, hw1]) rfl
      refine ⟨i', w', _, I.after hk hp hr e1.le g1 (I.ext.trans e1) hv1 (fun q hq _ id c e mk h => ?_), p1⟩
      obtain ⟨q1, q2, _⟩ := I.alloc q hq id c e mk h
      have hlt := (List.getElem?_eq_some_iff.1 q2).1
      cases hi : i' id with
      | none => rfl
      | some M =>
        rcases e1.fresh id M hi with h1 | ⟨h1, _⟩
        · rw [q1] at h1; cases h1
        · omega
    | alloc id c e mk =>
      obtain ⟨q1, q2, q3, q4, q5⟩ := I.alloc p hp id c e mk hkd
      obtain ⟨c', hc1, hc2⟩ := q3.2.2 i w _ hrels a.eval rfl
      have hlt := (List.getElem?_eq_some_iff.1 q2).1
      have x := I.ext
      refine ⟨i.upd id ⟨w.heap.size, 0, 0, 0⟩, w.alloc (.cells c'.toArray e), _, I.after hk hp hr (v' := mk w.heap.size) (Inj.le_upd q1) (rel_new I.rel id _ _ 0 0 q1 q2 (blkR_cells (hc1.mono (Inj.le_upd q1)) e w 0)) ?_ ?_ (fun q hq hne id' c2 e2 mk2 h => ?_), .one (step_lone_go ?_)⟩
      · refine ⟨x.dom, Inj.le_trans x.le (Inj.le_upd q1), x.os, x.tape, x.output, by have := x.size; simp; omega, x.len, x.own, fun m hm hno => (heap_alloc_old w _ m (Nat.lt_of_lt_of_le hm x.size)).trans (x.frame m hm hno), x.aframe, fun m M hm => ?_⟩
        by_cases hmi : m = id
        · subst hmi
          simp [Inj.upd] at hm
          subst hm
          exact .inr ⟨q4, .inl x.size⟩
        · simp [Inj.upd, hmi] at hm
          exact x.fresh m M hm
      · rw [q5]; exact q3.1 _ _ _ (Inj.upd_same i _ _)
      · have hne2 : id' ≠ id := fun he => by
          subst he
          exact hne (I.ids q hq p hp id' c2 e2 mk2 c e mk h hkd)
        simp [Inj.upd, hne2, (I.alloc q hq id' c2 e2 mk2 h).1]
      · have hg := stepGR_op (P := P) (b := b) (k := k) (cs := cs) (w := w) (rest := l) hop (by rw [hwant, hw1] : Region.wanted p.o (yielded ops a.tmps) = true)
        have hfin : ∀ u, (b.atR a (.inRegion ops (p.j :: l) :: k)).finish u = b.atR (a.put p.o.dst u) (.inRegion ops l :: k) := by
          intro u; rw [Frame.finish_atR, hop]; rfl
        rw [hg, Oper.semAt_eq _ _ _ q3.2.1, ← hfin]
        simp [stepG.apply, hc2]

/-- The next operation that acts is taken. -/
theorem DI.chain (hk : DOK ops ord ch) {j : Nat} (I : DI P n ops ord ch L s0 H0 i0 w0 done (j :: rest) D D0 s H i w a) (hj : j ∈ ch) (hr : ∀ k ∈ edges ops j, L k = true) {s' : St} {H' : AH} (T : DTrace P n ops ch (j :: rest) D s H s' H')
    (b : Frame) (l : List Nat) (k : List Item) (cs : List Frame) :
    ∃ i' w' a' s1 H1, DI P n ops ord ch (fun m => L m || m == j) s0 H0 i0 w0 (done ++ [j]) rest D D0 s1 H1 i' w' a' ∧ DTrace P n ops ch rest D s1 H1 s' H' ∧
      Steps P (lone (b.atR a (.inRegion ops (j :: l) :: k)) cs w) (lone (b.atR a' (.inRegion ops l :: k)) cs w') := by
  have hjN : j < ops.size := (hk.mem j).1 (by rw [← I.spl]; simp)
  have hpw := hk.pw
  rw [← I.spl] at hpw
  have hdone : ∀ m ∈ done, bef ops j m = false ∧ m ≠ j := fun m hm => by
    have := (List.pairwise_append.1 hpw).2.2 m hm j (by simp)
    exact ⟨this.1, this.2.1⟩
  have hjr : j ∉ rest := fun h => by
    have := (List.pairwise_append.1 hpw).2.1
    exact ((List.pairwise_cons.1 this).1 j h).2.1 rfl
  have common : ∀ (o : Oper) (v v' : Value) (H1 : AH) (i' : Inj) (w' : World), ops[j]? = some o → (∀ d, o.dst = some d → d < n) → Ext i i' H H1 w w' → Rel i' H1 w' → VR i' v v' →
      (∀ p ∈ D0, p.kind = .quiet → OpSim P p.o p.vs H1 p.v H1) →
      DI P n ops ord ch (fun m => L m || m == j) s0 H0 i0 w0 (done ++ [j]) rest D D0 (s.put o.dst v) H1 i' w' (a.put o.dst v') := by
    intro o v v' H1 i' w' ho hd hext hrel hv hq
    have hdst : dstOf ops j = o.dst := by simp [dstOf, ho]
    have nodst : ∀ q ∈ D0, ∀ t, o.dst = some t → q.o.dst ≠ some t := by
      intro q hq t h1 h2
      have hqN : q.j < ops.size := (hk.mem q.j).1 (by rw [← I.spl]; simp [I.djs q hq])
      exact (hdone q.j (I.djs q hq)).2 (hk.uniq q.j j t hqN hjN (by simp [dstOf, I.op q hq, h2]) (by rw [hdst, h1]))
    refine ⟨fun m m' hm hmm => ?_, by rw [← I.spl]; simp, fun m hm => ?_, I.sub, fun q hq => by simp [I.djs q hq], I.nod, I.op, I.nch, I.dstb, fun t ht => ?_, I.lateW, I.noW, fun p hp t ht m hm hb => ?_, fun p hp t ht => ?_, fun p hp t ht => ?_, fun t ht => ?_, by rw [act_put_size]; exact I.size, by rw [act_put_defers, put_ds]; exact I.ds.mono hext.le, hrel, I.ext.trans hext, hq, I.pur, I.okx, I.want, fun p hp id c e mk hpk => ?_, I.ids⟩
    · simp only [Bool.or_eq_true, beq_iff_eq] at hm ⊢
      rcases hm with hm | rfl
      · exact .inl (I.clo m m' hm hmm)
      · exact .inl (hr m' hmm)
    · simp only [Bool.or_eq_false_iff, beq_eq_false_iff_ne, I.unl m hm, List.mem_cons]
      constructor
      · rintro ⟨(h | h) | h, hne⟩
        · exact absurd h hne
        · exact .inl h
        · exact .inr h
      · rintro (h | ⟨q, hq, rfl⟩)
        · exact ⟨.inl (.inr h), fun e => hjr (e ▸ h)⟩
        · exact ⟨.inr ⟨q, hq, rfl⟩, (hdone q.j (I.djs q hq)).2⟩
    · rw [put_other (by rw [← hdst]; exact ht j (by simp))]
      exact I.same t (fun m hm => ht m (by simp [hm]))
    · rw [put_other (fun h => ?_)]
      · exact I.earlyW p hp t ht m hm hb
      · have := hk.uniq j m t hjN (dst_lt hm) (by rw [hdst, h]) hm
        subst this
        have := (hdone p.j (I.djs p hp)).1
        rw [hb] at this; cases this
    · rw [put_other (fun h => nodst p hp t h ht)]
      exact I.val p hp t ht
    · rw [act_put_other (fun h => nodst p hp t h ht)]
      exact (I.envD p hp t ht).mono hext.le
    · by_cases hot : o.dst = some t
      · rw [hot, put_same, act_put_same (by rw [I.size]; exact hd t hot)]
        exact hv
      · rw [put_other hot, act_put_other hot]
        exact (I.envN t ht).mono hext.le
    · obtain ⟨q1, q2, q3, q4, q5⟩ := I.alloc p hp id c e mk hpk
      have hlt := (List.getElem?_eq_some_iff.1 q2).1
      refine ⟨?_, by rw [hext.aframe id hlt q1]; exact q2, q3, q4, q5⟩
      cases hi : i' id with
      | none => rfl
      | some M =>
        rcases hext.fresh id M hi with h1 | ⟨h1, _⟩
        · rw [q1] at h1; cases h1
        · omega
  cases T with
  | skip h1 h2 h3 => exact absurd hj h3
  | quiet h1 h2 h3 => exact absurd hj h3
  | pur h1 h2 h3 => exact absurd hj h3
  | alloc h1 h2 h3 => exact absurd hj h3
  | @chainSkip _ _ _ _ _ _ _ o h1 h2 h3 h4 h5 =>
    obtain ⟨sx, hsx, hse⟩ := I.frame (o.looksAt ops) s.env (I.seesCh hk h1 hr)
    have hwant : Region.wanted o (yielded ops a.tmps) = false := by
      rw [wanted_eq hsx.env, ← h4]
      exact wantedA_congr fun j want d hg hd => hse d (guard_looks hg hd)
    refine ⟨i, w, _, _, _, common o undef undef H i w h1 h2 (.refl I.rel) I.rel (VR.undef i) I.quiet, h5, .one ?_⟩
    have := stepR_op_skip (P := P) (b := b) (a := a) (k := k) (cs := cs) (w := w) (ops := ops) (i := j) (rest := l) (by rw [h1]; simp [hwant])
    rw [h1] at this
    exact this
  | @chain _ _ _ _ _ _ H1 _ o v h1 h2 h3 h4 h5 h6 h7 h8 =>
    obtain ⟨sx, hsx, hse⟩ := I.frame (o.looksAt ops) s.env (I.seesCh hk h1 hr)
    have hwant : Region.wanted o (yielded ops a.tmps) = true := by
      rw [wanted_eq hsx.env, ← h4]
      exact wantedA_congr fun j want d hg hd => hse d (guard_looks hg hd)
    have hrels := evs_rel hsx h5
    rw [evs_congr (sy := s) hse] at hrels
    obtain ⟨i', w', v', e1, g1, hv1, p1⟩ := h6 i w _ I.rel hrels b a ops j l k cs h1 hwant rfl
    refine ⟨i', w', _, _, _, common o v v' H1 i' w' h1 h2 e1 g1 hv1 (fun p hp hpk => h7 p (I.sub p hp) hpk ?_), h8, p1⟩
    cases hb : bef ops p.j j with
    | false => rfl
    | true =>
      have hpN : p.j < ops.size := (hk.mem p.j).1 (by rw [← I.spl]; simp [I.djs p hp])
      have h1 := bef_closed I.clo _ _ _ hb hr
      have h2 := (I.unl p.j hpN).2 (.inr ⟨p, hp, rfl⟩)
      rw [h1] at h2; cases h2

theorem advanceMany (hk : DOK ops ord ch) {s' : St} {H' : AH} {post : List Nat} : ∀ (pre done : List Nat) (D D0 : List Pend) (s : St) (H : AH), (∀ m ∈ pre, m ∉ ch) → DI P n ops ord ch L s0 H0 i0 w0 done (pre ++ post) D D0 s H i w a → DTrace P n ops ch (pre ++ post) D s H s' H' →
    ∃ D1 D2 s1 H1, DI P n ops ord ch L s0 H0 i0 w0 (done ++ pre) post D1 D2 s1 H1 i w a ∧ DTrace P n ops ch post D1 s1 H1 s' H' ∧ D2.length = D0.length + pre.length
  | [], done, D, D0, s, H, _, I, T => ⟨D, D0, s, H, by simpa using I, T, rfl⟩
  | j :: pre, done, D, D0, s, H, hc, I, T => by
    obtain ⟨p, D1, s1, H1, _, I1, T1⟩ := I.advance hk T (hc j (by simp))
    obtain ⟨D2, D3, s2, H2, I2, T2, hl⟩ := advanceMany hk pre (done ++ [j]) D1 (p :: D0) s1 H1 (fun m hm => hc m (by simp [hm])) I1 T1
    exact ⟨D2, D3, s2, H2, by simpa using I2, T2, by simp at hl ⊢; omega⟩

theorem filter_one : ∀ {l : List Pend} {p : Pend}, p ∈ l → (l.map (·.j)).Nodup → (l.filter fun q => q.j != p.j).length + 1 = l.length
  | [], p, h, _ => by simp at h
  | x :: l, p, h, hn => by
    simp only [List.map_cons, List.nodup_cons, List.mem_map, not_exists, not_and] at hn
    rcases List.mem_cons.1 h with rfl | h
    · have : l.filter (fun q => q.j != p.j) = l := List.filter_eq_self.2 (fun q hq => by simpa using hn.1 q hq)
      simp [this]
    · have hne : x.j ≠ p.j := fun e => hn.1 p h e.symm
      have := filter_one h hn.2
      simp [hne, this]

theorem first_false {L : Nat → Bool} : ∀ {l : List Nat}, (∃ u ∈ l, L u = false) → ∃ pre j post, l = pre ++ j :: post ∧ L j = false ∧ ∀ m ∈ pre, L m = true
  | [], h => by obtain ⟨u, hu, _⟩ := h; simp at hu
  | x :: l, h => by
    by_cases hx : L x = false
    · exact ⟨[], x, l, rfl, hx, fun m hm => by simp at hm⟩
    · obtain ⟨u, hu, hf⟩ := h
      rcases List.mem_cons.1 hu with rfl | hu
      · exact absurd hf hx
      · obtain ⟨pre, j, post, rfl, h1, h2⟩ := first_false ⟨u, hu, hf⟩
        refine ⟨x :: pre, j, post, rfl, h1, fun m hm => ?_⟩
        rcases List.mem_cons.1 hm with rfl | hm
        · simpa using hx
        · exact h2 m hm

theorem DI.some_ready (hk : DOK ops ord ch) (I : DI P n ops ord ch L s0 H0 i0 w0 done rest D D0 s H i w a) (h : 0 < rest.length + D0.length) : ∃ j, j < ops.size ∧ L j = false ∧ ∀ k ∈ edges ops j, L k = true := by
  have hu : ∃ u ∈ ord, L u = false := by
    cases hrest : rest with
    | cons x r =>
      have hx : x ∈ ord := by rw [← I.spl, hrest]; simp
      exact ⟨x, hx, (I.unl x ((hk.mem x).1 hx)).2 (.inl (by rw [hrest]; simp))⟩
    | nil =>
      rw [hrest] at h
      cases hD : D0 with
      | nil => rw [hD] at h; simp at h
      | cons p D1 =>
        have hp : p ∈ D0 := by rw [hD]; simp
        have hx : p.j ∈ ord := by rw [← I.spl]; simp [I.djs p hp]
        exact ⟨p.j, hx, (I.unl p.j ((hk.mem p.j).1 hx)).2 (.inr ⟨p, hp, rfl⟩)⟩
  obtain ⟨pre, j, post, e, h1, h2⟩ := first_false hu
  have hj : j ∈ ord := by rw [e]; simp
  have hjN := (hk.mem j).1 hj
  refine ⟨j, hjN, h1, fun k hkk => ?_⟩
  have hkN := hk.low j hjN k hkk
  have hko := (hk.mem k).2 hkN
  rw [e] at hko
  rcases List.mem_append.1 hko with h | h
  · exact h2 k h
  · rcases List.mem_cons.1 h with rfl | h
    · exact absurd hkk (hk.self k hjN)
    · have hpw := hk.pw
      rw [e] at hpw
      exact absurd hkk ((List.pairwise_cons.1 (List.pairwise_append.1 hpw).2.1).1 k h).2.2.2.2

theorem ready_mem {Lst : Array Bool} (hsz : Lst.size = ops.size) {j : Nat} : j ∈ Region.ready .any ops Lst ↔ j < ops.size ∧ Lst.getD j false = false ∧ ∀ k ∈ edges ops j, Lst.getD k false = true := by
  unfold Region.ready edges
  rw [List.mem_filter, List.mem_range]
  refine and_congr_right fun hj => ?_
  rw [Array.getElem?_eq_getElem hj]
  simp only [Option.map_some, Option.getD_some, Bool.and_eq_true, Bool.not_eq_true']
  have hdef : Lst.getD j true = Lst.getD j false := by
    have : j < Lst.size := by omega
    simp [Array.getD_eq_getD_getElem?, Array.getElem?_eq_getElem this]
  rw [hdef]
  refine and_congr_right fun _ => ?_
  rw [← Array.all_toList, List.all_eq_true]
  constructor
  · intro h k hk
    rw [List.mem_map] at hk
    obtain ⟨e, he, rfl⟩ := hk
    rw [List.mem_filter] at he
    have := h e he.1
    simp only [Bool.or_eq_true, Bool.not_eq_true'] at this
    rcases this with h1 | h1
    · rw [he.2] at h1; cases h1
    · exact h1
  · intro h e he
    by_cases hb : Region.binds .any e = true
    · have := h e.on (List.mem_map.2 ⟨e, List.mem_filter.2 ⟨he, hb⟩, rfl⟩)
      simp only [this, Bool.or_true]
    · simp [hb]

theorem set_fun {Lst : Array Bool} {j : Nat} (hj : j < Lst.size) : (fun m => (Lst.setIfInBounds j true).getD m false) = fun m => Lst.getD m false || m == j := by
  funext m
  by_cases h : m = j
  · subst h; simp [hj]
  · simp [Array.getElem?_setIfInBounds_ne (Ne.symm h), h]

theorem drun (hk : DOK ops ord ch) {s' : St} {H' : AH} : ∀ (fuel t : Nat) (Lst : Array Bool) (done rest : List Nat) (D D0 : List Pend) (s : St) (H : AH) (i : Inj) (w : World) (a : Act), Lst.size = ops.size →
    DI P n ops ord ch (fun m => Lst.getD m false) s0 H0 i0 w0 done rest D D0 s H i w a → DTrace P n ops ch rest D s H s' H' → rest.length + D0.length = fuel → ∀ (b : Frame) (k : List Item) (cs : List Frame),
    ∃ i' w' a', Ext i0 i' H0 H' w0 w' ∧ Rel i' H' w' ∧ StR i' n s' a' ∧ Steps P (lone (b.atR a (.inRegion ops (Region.linearise.go .any ops fuel t Lst []) :: k)) cs w) (lone (b.atR a' k) cs w') := by
  intro fuel
  induction fuel with
  | zero =>
    intro t Lst done rest D D0 s H i w a hsz I T hl b k cs
    have h1 : rest = [] := List.eq_nil_of_length_eq_zero (by omega)
    have h2 : D0 = [] := List.eq_nil_of_length_eq_zero (by omega)
    subst h1 h2
    cases T
    exact ⟨i, w, a, I.ext, I.rel, ⟨I.size, fun t => I.envN t (fun p hp => by simp at hp), I.ds⟩, .one (by simp only [Region.linearise.go, List.reverse_nil]; exact stepR_region_end)⟩
  | succ fuel ih =>
    intro t Lst done rest D D0 s H i w a hsz I T hl b k cs
    simp only [Region.linearise.go]
    change ∃ i' w' a', Ext i0 i' H0 H' w0 w' ∧ Rel i' H' w' ∧ StR i' n s' a' ∧ Steps P (lone (b.atR a (.inRegion ops (match (Region.ready .any ops Lst)[t % (Region.ready .any ops Lst).length]? with
      | some i => Region.linearise.go .any ops fuel (t / (Region.ready .any ops Lst).length) (Lst.setIfInBounds i true) [i]
      | none => [].reverse) :: k)) cs w) (lone (b.atR a' k) cs w')
    obtain ⟨r0, hr0, hr1, hr2⟩ := I.some_ready hk (by omega)
    have hne : r0 ∈ Region.ready .any ops Lst := (ready_mem hsz).2 ⟨hr0, hr1, hr2⟩
    have hpos : 0 < (Region.ready .any ops Lst).length := List.length_pos_of_mem hne
    have hlt := Nat.mod_lt t hpos
    rw [List.getElem?_eq_getElem hlt]
    simp only
    generalize hj : (Region.ready .any ops Lst)[t % (Region.ready .any ops Lst).length] = j
    have hjm : j ∈ Region.ready .any ops Lst := by rw [← hj]; exact List.getElem_mem _
    obtain ⟨hjN, hjL, hjr⟩ := (ready_mem hsz).1 hjm
    rw [linearise_go_acc, List.reverse_singleton, List.singleton_append]
    have hjS : j < Lst.size := by omega
    have hsz' : (Lst.setIfInBounds j true).size = ops.size := by simp [hsz]
    -- a pending one is taken
    have goPend : ∀ (done rest : List Nat) (D D0 : List Pend) (s : St) (H : AH), DI P n ops ord ch (fun m => Lst.getD m false) s0 H0 i0 w0 done rest D D0 s H i w a → DTrace P n ops ch rest D s H s' H' → rest.length + D0.length = fuel + 1 → (∃ p ∈ D0, p.j = j) →
        ∃ i' w' a', Ext i0 i' H0 H' w0 w' ∧ Rel i' H' w' ∧ StR i' n s' a' ∧ Steps P (lone (b.atR a (.inRegion ops (j :: Region.linearise.go .any ops fuel (t / (Region.ready .any ops Lst).length) (Lst.setIfInBounds j true) []) :: k)) cs w) (lone (b.atR a' k) cs w') := by
      intro done rest D D0 s H I T hl ⟨p, hp, hpj⟩
      subst hpj
      obtain ⟨i1, w1, a1, I1, p1⟩ := I.exec hk hp hjr b (Region.linearise.go .any ops fuel (t / (Region.ready .any ops Lst).length) (Lst.setIfInBounds p.j true) []) k cs
      have hcnt := filter_one hp I.nod
      obtain ⟨i2, w2, a2, e2, g2, t2, p2⟩ := ih (t / (Region.ready .any ops Lst).length) (Lst.setIfInBounds p.j true) done rest D _ s H i1 w1 a1 hsz' (by rw [set_fun hjS]; exact I1) T (by omega) b k cs
      exact ⟨i2, w2, a2, e2, g2, t2, p1.trans p2⟩
    rcases (I.unl j hjN).1 hjL with hjr' | hjD
    · obtain ⟨pre, post, rfl⟩ := List.append_of_mem hjr'
      have hpre : ∀ m ∈ pre, m ∉ ch := by
        intro m hm hmc
        have hpw := hk.pw
        rw [← I.spl] at hpw
        have hmj := (List.pairwise_append.1 (List.pairwise_append.1 hpw).2.1).2.2 m hm j (by simp)
        have hmN : m < ops.size := (hk.mem m).1 (by rw [← I.spl]; simp [hm])
        have hmL := (I.unl m hmN).2 (.inl (by simp [hm]))
        have hb : bef ops m j = true := by
          rcases hmj.2.2.1 hmc with h | h
          · exact hmj.2.2.2.1 hmc h
          · exact h
        have := bef_closed I.clo _ _ _ hb hjr
        rw [this] at hmL; cases hmL
      obtain ⟨D1, D2, s1, H1, I1, T1, hl1⟩ := advanceMany hk (post := j :: post) pre done D D0 s H hpre I T
      simp only [List.length_append, List.length_cons] at hl
      by_cases hjc : j ∈ ch
      · obtain ⟨i1, w1, a1, s2, H2, I2, T2, p1⟩ := I1.chain hk hjc hjr T1 b (Region.linearise.go .any ops fuel (t / (Region.ready .any ops Lst).length) (Lst.setIfInBounds j true) []) k cs
        obtain ⟨i2, w2, a2, e2, g2, t2, p2⟩ := ih (t / (Region.ready .any ops Lst).length) (Lst.setIfInBounds j true) _ post D1 D2 s2 H2 i1 w1 a1 hsz' (by rw [set_fun hjS]; exact I2) T2 (by omega) b k cs
        exact ⟨i2, w2, a2, e2, g2, t2, p1.trans p2⟩
      · obtain ⟨p, D3, s2, H2, hpj, I2, T2⟩ := I1.advance hk T1 hjc
        exact goPend _ post D3 (p :: D2) s2 H2 I2 T2 (by simp; omega) ⟨p, by simp, hpj⟩
    · exact goPend done rest D D0 s H I T hl hjD

end

/-! ### for use -/
def drawW (P : Program) (n : Nat) (ops : Array Oper) (ch : List Nat) : List Nat → List Pend → St → AH → (St → AH → Prop) → Prop
  | [], _, s, H, K => K s H
  | j :: rest, D, s, H, K => ∃ o, ops[j]? = some o ∧ (∀ d, o.dst = some d → d < n) ∧
      ((wantedA ops s o = false ∧ j ∉ ch ∧ drawW P n ops ch rest (⟨j, o, s.env, undef, .skip⟩ :: D) (s.put o.dst undef) H K) ∨
       (wantedA ops s o = false ∧ j ∈ ch ∧ drawW P n ops ch rest D (s.put o.dst undef) H K) ∨
       (wantedA ops s o = true ∧ o.op.operands.toList.all okX = true ∧
        ((j ∉ ch ∧ ∃ v, (∀ H, OpSim P o (o.op.operands.toList.map (ev s)) H v H) ∧ drawW P n ops ch rest (⟨j, o, s.env, v, .pur⟩ :: D) (s.put o.dst v) H K) ∨
         (j ∉ ch ∧ ∃ v, OpSim P o (o.op.operands.toList.map (ev s)) H v H ∧ drawW P n ops ch rest (⟨j, o, s.env, v, .quiet⟩ :: D) (s.put o.dst v) H K) ∨
         (j ∉ ch ∧ ∃ c e mk, NewSim P o (o.op.operands.toList.map (ev s)) c e mk ∧ (∀ p ∈ D, p.kind = .quiet → OpSim P p.o p.vs (H ++ [.cells c e none false]) p.v (H ++ [.cells c e none false])) ∧
            drawW P n ops ch rest (⟨j, o, s.env, mk H.length, .alloc H.length c e mk⟩ :: D) (s.put o.dst (mk H.length)) (H ++ [.cells c e none false]) K) ∨
         (j ∈ ch ∧ ∃ v H1, OpSim P o (o.op.operands.toList.map (ev s)) H v H1 ∧ (∀ p ∈ D, p.kind = .quiet → bef ops p.j j = false → OpSim P p.o p.vs H1 p.v H1) ∧ drawW P n ops ch rest D (s.put o.dst v) H1 K))))

theorem drawW_trace {P : Program} {n : Nat} {ops : Array Oper} {ch : List Nat} : ∀ (l : List Nat) (D : List Pend) (s : St) (H : AH) (K : St → AH → Prop), drawW P n ops ch l D s H K → ∃ s' H', K s' H' ∧ DTrace P n ops ch l D s H s' H'
  | [], D, s, H, K, h => ⟨s, H, h, .nil⟩
  | j :: rest, D, s, H, K, h => by
    obtain ⟨o, ho, hd, h⟩ := h
    rcases h with ⟨h1, h2, h3⟩ | ⟨h1, h2, h3⟩ | ⟨h1, h2, h3⟩
    · obtain ⟨s', H', q, T⟩ := drawW_trace rest _ _ _ K h3
      exact ⟨s', H', q, .skip ho hd h2 h1 T⟩
    · obtain ⟨s', H', q, T⟩ := drawW_trace rest _ _ _ K h3
      exact ⟨s', H', q, .chainSkip ho hd h2 h1 T⟩
    · rcases h3 with ⟨hc, v, h4, h5⟩ | ⟨hc, v, h4, h5⟩ | ⟨hc, c, e, mk, h4, h5, h6⟩ | ⟨hc, v, H1, h4, h5, h6⟩
      · obtain ⟨s', H', q, T⟩ := drawW_trace rest _ _ _ K h5
        exact ⟨s', H', q, .pur ho hd hc h1 h2 h4 T⟩
      · obtain ⟨s', H', q, T⟩ := drawW_trace rest _ _ _ K h5
        exact ⟨s', H', q, .quiet ho hd hc h1 h2 h4 T⟩
      · obtain ⟨s', H', q, T⟩ := drawW_trace rest _ _ _ K h6
        exact ⟨s', H', q, .alloc ho hd hc h1 h2 h4 h5 T⟩
      · obtain ⟨s', H', q, T⟩ := drawW_trace rest _ _ _ K h6
        exact ⟨s', H', q, .chain ho hd hc h1 h2 h4 h5 T⟩

theorem W.draw {P : Program} {n : Nat} {ro : Option Nat} {s : St} {H : AH} {Q : AX → St → AH → Prop} {id : Nat} {ops : Array Oper} (hm : P.follows .mixedOrders = true) {ord ch : List Nat} (hok : okD ops ord ch = true) (h : drawW P n ops ch ord [] s H (Q .normal)) :
    W P n ro (.region id ops true) s H Q := by
  have hk := okD_spec hok
  obtain ⟨s', H', q, T⟩ := drawW_trace _ _ _ _ _ h
  refine ⟨.normal, s', H', q, fun i w b a k cs hr hs _ => ?_⟩
  have hr1 : Rel i H { w with drawn := w.drawn + 1 } := hr.world rfl
  have hL : ∀ m, (Array.replicate ops.size false).getD m false = false := by
    intro m
    simp only [Array.getD_eq_getD_getElem?, Array.getElem?_replicate]
    split <;> rfl
  have I : DI P n ops ord ch (fun m => (Array.replicate ops.size false).getD m false) s H i { w with drawn := w.drawn + 1 } [] ord [] [] s H i { w with drawn := w.drawn + 1 } a := by
    exact { clo := (fun j k hj => by simp only [hL] at hj; cases hj), spl := rfl, unl := (fun j hj => by simp only [hL, true_iff]; exact .inl ((hk.mem j).2 hj)),
            sub := (fun p hp => by cases hp), djs := (fun p hp => by cases hp), nod := .nil, op := (fun p hp => by cases hp), nch := (fun p hp => by cases hp), dstb := (fun p hp => by cases hp),
            same := (fun _ _ => rfl), lateW := (fun p hp => by cases hp), noW := (fun p hp => by cases hp), earlyW := (fun p hp => by cases hp), val := (fun p hp => by cases hp), envD := (fun p hp => by cases hp),
            envN := (fun t _ => hs.env t), size := hs.size, ds := hs.ds, rel := hr1, ext := .refl hr1, quiet := (fun p hp => by cases hp), pur := (fun p hp => by cases hp), okx := (fun p hp => by cases hp),
            want := (fun p hp => by cases hp), alloc := (fun p hp => by cases hp), ids := (fun p hp => by cases hp) }
  obtain ⟨i2, w2, a2, e2, g2, t2, p2⟩ := drun hk ops.size (w.tape w.drawn (.order b.fn id)) (Array.replicate ops.size false) [] ord [] [] s H i { w with drawn := w.drawn + 1 } a (by simp) I T (by simp [hk.len]) b k cs
  refine ⟨i2, w2, a2, (Ext.drawn hr _).trans e2, g2, t2, .head stepR_region_draw ?_⟩
  simp only [Region.schedule, hm, Bool.true_or, if_true, Region.linearise]
  exact p2

end Go.Sim
