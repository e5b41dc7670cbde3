/- The semantic simulation logic, part 23: functions that are run. -/
import Derived.Test.YtaepmmdbhikjlaaSimV
namespace Go.Sim
open Go

abbrev RunT := Tr → AH → Option (AX × Tr × AH)
noncomputable def seqI (r : Option (AX × Tr × AH)) (f : RunT) : Option (AX × Tr × AH) := Option.rec none (fun p => Prod.rec (fun x q => AX.rec (Prod.rec f q) (fun i => some (.exit i, q)) (some (.ret, q)) x) p) r
noncomputable def iterC (f : RunT) (n : Nat) : RunT := Nat.rec (fun _ _ => none) (fun _ ih t H => seqI (f t H) ih) n
theorem iterC_zero (f : RunT) (t : Tr) (H : AH) : iterC f 0 t H = none := rfl
theorem iterC_succ (f : RunT) (n : Nat) (t : Tr) (H : AH) : iterC f (n + 1) t H = match f t H with
    | some (.normal, t', H') => iterC f n t' H'
    | r => r := by
  change seqI (f t H) (iterC f n) = _
  rcases f t H with _ | ⟨x, t', H'⟩
  · rfl
  · cases x <;> rfl

noncomputable def seqR (r : Option (AX × Tr × AH)) (f : RunT) : Option (AX × Tr × AH) := Option.rec none (fun p => Prod.rec (fun x q => AX.rec (Prod.rec f q) (fun i => some (.exit i, q)) (some (.ret, q)) x) p) r
noncomputable def blockR (id : Nat) (r : Option (AX × Tr × AH)) : Option (AX × Tr × AH) := Option.rec none (fun p => Prod.rec (fun x q => AX.rec (some (.normal, q)) (fun i => Bool.rec (some (.exit i, q)) (some (.normal, q)) (Nat.beq i id)) (some (.ret, q)) x) p) r
noncomputable def condR (v : Value) (a b : Option (AX × Tr × AH)) : Option (AX × Tr × AH) := withB none v fun x => Bool.rec b a x
noncomputable def regR (r : Option (Tr × AH)) : Option (AX × Tr × AH) := Option.rec none (fun q => some (.normal, q)) r
noncomputable def runC (call : CallT) (lo L : Nat) (c : XC) : RunT :=
  XC.rec (motive := fun _ => RunT) (fun t H => some (.normal, t, H)) (fun id t H => some (.exit id, t, H)) (fun t H => some (.ret, t, H))
    (fun _ _ fa fb t H => seqR (fa t H) fb)
    (fun c _ _ fa fb t H => condR (evT t c) (fa t H) (fb t H))
    (fun id _ fa t H => blockR id (fa t H))
    (fun _ fa => iterC fa L)
    (fun l t H => regR (runS call lo l [] t H))
    (fun _ _ _ _ _ _ _ _ => none) c

theorem seqR_eq (r : Option (AX × Tr × AH)) (f : RunT) : seqR r f = match r with
    | some (.normal, t', H') => f t' H'
    | r => r := by
  rcases r with _ | ⟨x, t', H'⟩
  · rfl
  · cases x <;> rfl
theorem blockR_eq (id : Nat) (r : Option (AX × Tr × AH)) : blockR id r = match r with
    | some (.exit i, t', H') => bif Nat.beq i id then some (.normal, t', H') else some (.exit i, t', H')
    | r => r := by
  rcases r with _ | ⟨x, t', H'⟩
  · rfl
  · cases x with
    | exit i =>
      change (Bool.rec (some (.exit i, t', H')) (some (.normal, t', H')) (Nat.beq i id) : Option (AX × Tr × AH)) = _
      rw [recB]
    | _ => rfl

theorem runC_ok {P : Program} {call : CallT} (hc : CallOk P call) {n lo L : Nat} (c : XC) : ∀ (t : Tr) (H : AH) (x : AX) (t' : Tr) (H' : AH), lo ≤ H.length → runC call lo L c t H = some (x, t', H') →
    X P n none c ⟨t.get, []⟩ H (fun x1 s1 H1 => x1 = x ∧ s1 = ⟨t'.get, []⟩ ∧ H1 = H') ∧ Keep lo H H' := by
  induction c with
  | skip => intro t H x t' H' hl h; cases h; exact ⟨⟨rfl, rfl, rfl⟩, .refl hl⟩
  | exit id => intro t H x t' H' hl h; cases h; exact ⟨⟨rfl, rfl, rfl⟩, .refl hl⟩
  | ret => intro t H x t' H' hl h; cases h; exact ⟨⟨rfl, rfl, rfl⟩, .refl hl⟩
  | seq a b iha ihb =>
    intro t H x t' H' hl h
    change seqR (runC call lo L a t H) (runC call lo L b) = _ at h
    rw [seqR_eq] at h
    split at h
    · rename_i t1 H1 ha
      obtain ⟨q1, k1⟩ := iha t H _ t1 H1 hl ha
      obtain ⟨q2, k2⟩ := ihb t1 H1 x t' H' k1.1 h
      refine ⟨X.mono a q1 ?_, k1.trans k2⟩
      rintro _ _ _ ⟨rfl, rfl, rfl⟩
      exact q2
    · rename_i hn
      obtain ⟨q1, k1⟩ := iha t H x t' H' hl h
      refine ⟨X.mono a q1 ?_, k1⟩
      rintro x2 _ _ ⟨rfl, rfl, rfl⟩
      cases x2 with
      | normal => exact absurd h (hn _ _)
      | exit i => exact ⟨rfl, rfl, rfl⟩
      | ret => exact ⟨rfl, rfl, rfl⟩
  | cond c a b iha ihb =>
    intro t H x t' H' hl h
    change condR (evT t c) (runC call lo L a t H) (runC call lo L b t H) = _ at h
    unfold condR at h
    rcases withB_eq (d := none) (v := evT t c) (K := fun x => (Bool.rec (runC call lo L b t H) (runC call lo L a t H) x : Option (AX × Tr × AH))) with ⟨y, hy, e2⟩ | e2
    · rw [evT_eq] at hy
      rw [e2] at h
      cases y with
      | true =>
        obtain ⟨q, k⟩ := iha t H x t' H' hl h
        exact ⟨⟨true, hy, by simpa using q⟩, k⟩
      | false =>
        obtain ⟨q, k⟩ := ihb t H x t' H' hl h
        exact ⟨⟨false, hy, by simpa using q⟩, k⟩
    · rw [e2] at h; cases h
  | block id a ih =>
    intro t H x t' H' hl h
    change blockR id (runC call lo L a t H) = _ at h
    rw [blockR_eq] at h
    split at h
    · rename_i i t1 H1 ha
      obtain ⟨q1, k1⟩ := ih t H _ t1 H1 hl ha
      by_cases hi : i = id
      · subst hi
        simp only [Nat.beq_refl, cond_true] at h
        cases h
        refine ⟨X.mono a q1 ?_, k1⟩
        rintro _ _ _ ⟨rfl, rfl, rfl⟩
        simp [AX.inBlock]
      · have : Nat.beq i id = false := by rw [beq_iff]; simp [hi]
        rw [this] at h
        cases h
        refine ⟨X.mono a q1 ?_, k1⟩
        rintro _ _ _ ⟨rfl, rfl, rfl⟩
        simp [AX.inBlock, hi]
    · rename_i hn
      obtain ⟨q1, k1⟩ := ih t H x t' H' hl h
      refine ⟨X.mono a q1 ?_, k1⟩
      rintro x2 _ _ ⟨rfl, rfl, rfl⟩
      cases x2 with
      | normal => exact ⟨rfl, rfl, rfl⟩
      | exit i => exact absurd h (hn _ _ _)
      | ret => exact ⟨rfl, rfl, rfl⟩
  | loop a ih =>
    intro t H x t' H' hl h
    change iterC (runC call lo L a) L t H = _ at h
    have key : ∀ m t H, lo ≤ H.length → iterC (runC call lo L a) m t H = some (x, t', H') → Keep lo H H' := by
      intro m
      induction m with
      | zero => intro t H _ h; rw [iterC_zero] at h; cases h
      | succ m ihm =>
        intro t H hl h
        rw [iterC_succ] at h
        split at h
        · rename_i t1 H1 ha
          obtain ⟨q1, k1⟩ := ih t H _ t1 H1 hl ha
          exact k1.trans (ihm t1 H1 k1.1 h)
        · exact (ih t H x t' H' hl h).2
    refine ⟨?_, key _ _ _ hl h⟩
    refine loop_ind (fun m s H => ∃ t, s = ⟨t.get, []⟩ ∧ lo ≤ H.length ∧ iterC (runC call lo L a) m t H = some (x, t', H')) L ⟨t, rfl, hl, h⟩ ?_
    rintro m s H1 ⟨t1, rfl, hl1, h1⟩
    cases m with
    | zero => rw [iterC_zero] at h1; cases h1
    | succ m =>
      rw [iterC_succ] at h1
      split at h1
      · rename_i t2 H2 ha
        obtain ⟨q1, k1⟩ := ih t1 H1 _ t2 H2 hl1 ha
        refine X.mono a q1 ?_
        rintro _ _ _ ⟨rfl, rfl, rfl⟩
        exact ⟨m, by omega, t2, rfl, k1.1, h1⟩
      · rename_i hn
        obtain ⟨q1, k1⟩ := ih t1 H1 x t' H' hl1 h1
        refine X.mono a q1 ?_
        rintro x2 _ _ ⟨rfl, rfl, rfl⟩
        cases x2 with
        | normal => exact absurd h1 (hn _ _)
        | exit i => exact ⟨rfl, rfl, rfl⟩
        | ret => exact ⟨rfl, rfl, rfl⟩
  | reg l =>
    intro t H x t' H' hl h
    change regR (runS call lo l [] t H) = _ at h
    obtain ⟨⟨t1, H1⟩, hr, h⟩ := recO h
    · skip
      obtain ⟨q, k⟩ := runS_ok hc l [] t H t1 H1 hl hr
      cases h
      exact ⟨stepsX_mono l _ _ _ _ _ (fun s H h => ⟨rfl, h.1, h.2⟩) q, k⟩
  | range f ps xa xb _ _ => intro t H x t' H' hl h; cases h

/-! ### functions -/
noncomputable def initT : List Value → Nat → Tr → Tr
  | [], _, t => t
  | v :: l, k, t => initT l (k + 1) (forceV v fun v => Tr.setF 4096 t k v)
theorem initT_get : ∀ (l : List Value) (k : Nat) (t : Tr) (x : Nat), k + l.length ≤ 4096 → (initT l k t).get x = if k ≤ x ∧ x < k + l.length then l.getD (x - k) undef else t.get x
  | [], k, t, x, _ => by simp only [initT, List.length_nil]; rw [if_neg (by omega)]
  | v :: l, k, t, x, h => by
    simp only [initT, forceV_eq]
    simp only [List.length_cons] at h ⊢
    rw [initT_get l (k + 1) _ x (by omega), Tr.get_set _ _ _ _ _ (by omega)]
    by_cases h1 : x = k
    · subst h1
      rw [if_neg (by omega), if_pos rfl, if_pos (by omega)]
      simp
    · by_cases h2 : k + 1 ≤ x ∧ x < k + 1 + l.length
      · rw [if_pos h2, if_pos (by omega), show x - k = (x - (k + 1)) + 1 by omega, List.getD_cons_succ]
      · rw [if_neg h2, if_neg h1, if_neg (by omega)]

def resR (xf : XF) (H : AH) (r : Option (AX × Tr × AH)) (get : Tr → Nat → Value) : Option (Value × AH) := match r with
  | some (.exit _, _, _) => none
  | some (_, t', H') => match xress H' ⟨get t', []⟩ xf.res with
    | some v => bif ground v then some (v, H) else some (v, H')
    | none => none
  | none => none

noncomputable def callF (T : FuncId → Option XF) (O : CallT) (L d : Nat) : CallT :=
  Nat.rec (fun _ _ _ => none) (fun _ ih g args H => match O g args H with
    | some r => some r
    | none => match T g with
      | some xf => bif Nat.ble args.length xf.n && Nat.ble args.length 4096 then resR xf H (runC ih H.length L xf.body (initT args 0 .nil) H) Tr.get else none
      | none => none) d

theorem Keep.split {H H' : AH} (h : Keep H.length H H') : ∃ J, H' = H ++ J := by
  refine ⟨H'.drop H.length, ?_⟩
  refine List.ext_getElem? fun b => ?_
  by_cases hb : b < H.length
  · rw [List.getElem?_append_left hb]; exact h.2 b hb
  · rw [List.getElem?_append_right (by omega), List.getElem?_drop]
    congr 1; omega

theorem callF_ok {P : Program} (hm : P.follows .mixedOrders = true) {T : FuncId → Option XF} {O : CallT} (hT : ∀ g xf, T g = some xf → compF P g = some xf)
    (hO : CallOk P O) (L : Nat) : ∀ d, CallOk P (callF T O L d)
  | 0 => by intro g args H v H' h; cases h
  | d + 1 => by
    intro g args H v H' h
    change (match O g args H with
      | some r => some r
      | none => match T g with
        | some xf => bif Nat.ble args.length xf.n && Nat.ble args.length 4096 then resR xf H (runC (callF T O L d) H.length L xf.body (initT args 0 .nil) H) Tr.get else none
        | none => none) = some (v, H') at h
    split at h
    · rename_i u hu
      cases h
      exact hO g args _ _ _ hu
    · split at h
      · rename_i xf hxf
        cases hb : (Nat.ble args.length xf.n && Nat.ble args.length 4096) with
        | false => rw [hb] at h; cases h
        | true =>
          rw [hb] at h
          simp only [Bool.and_eq_true] at hb
          have b1 : args.length ≤ xf.n := Nat.le_of_ble_eq_true hb.1
          have b2 : args.length ≤ 4096 := Nat.le_of_ble_eq_true hb.2
          have henv : (⟨env0 args, []⟩ : St) = ⟨(initT args 0 .nil).get, []⟩ := by
            congr 1
            funext x
            rw [initT_get _ _ _ _ (by omega)]
            simp only [env0, Nat.zero_le, Nat.zero_add, true_and, Nat.sub_zero]
            split
            · rfl
            · rename_i hx
              rw [List.getD_eq_getElem?_getD, List.getElem?_eq_none (by omega)]
              rfl
          simp only [cond_true] at h
          unfold resR at h
          split at h
          · cases h
          · rename_i x t' H1 hne hr
            split at h
            · rename_i u hu
              obtain ⟨q, k⟩ := runC_ok (callF_ok hm hT hO L d) (n := xf.n) xf.body _ H _ t' H1 (Nat.le_refl _) hr
              have hF : ∀ R : Value → AH → Prop, R u H1 → FN P g args H R := by
                intro R hR
                refine FN.of_comp hm (hT g xf hxf) b1 ?_
                rw [henv]
                refine X.mono xf.body q ?_
                rintro x2 _ _ ⟨rfl, rfl, rfl⟩
                cases x2 with
                | exit i => exact (hne _ rfl).elim
                | normal => exact ⟨_, _, rfl, hu, hR⟩
                | ret => exact ⟨_, _, rfl, hu, hR⟩
              cases hg : ground u with
              | true =>
                rw [hg] at h
                cases h
                refine ⟨FN.gc0 (R := fun v1 => v1 = _) (hF _ ⟨rfl, hg, k.split⟩), Keep.refl (Nat.le_refl _)⟩
              | false =>
                rw [hg] at h
                cases h
                exact ⟨hF _ ⟨rfl, rfl⟩, k⟩
            · cases h
          · cases h
      · cases h

theorem noO {P : Program} : CallOk P (fun _ _ _ => none) := by intro g args H v H' h; cases h

/-! ### from the empty heap to any one -/
theorem VRs.ground {i : Inj} : ∀ {l : List Value}, l.all ground = true → VRs i l l
  | [], _ => .nil
  | v :: l, h => by
    simp only [List.all_cons, Bool.and_eq_true] at h
    exact .cons (VR.of_ground h.1 i) (VRs.ground h.2)

/-- What a function makes of known arguments, by itself: the same at any heap. -/
theorem FSim.frame {P : Program} {f : FuncId} {args : List Value} {v v2 : Value} {J J2 : AH} (hg : args.all ground = true) (h : FSim P f args [] v J) (H : AH)
    (hv : VR (hat fun b => if H.length ≤ b then some (b - H.length) else none) v2 v) (hlen : J2.length = J.length)
    (hJ : ∀ (k : Nat) x, J[k]? = some x → ∃ x2, J2[k]? = some x2 ∧ AR (fun b => if H.length ≤ b then some (b - H.length) else none) x2 x) : FSim P f args H v2 (H ++ J2) := by
  intro i w args' hr ha cs
  have hrel : Rel (fun _ => none) [] w := ⟨(fun b => by simp), (fun b L x h => by cases h), (fun _ _ _ _ _ _ h => by cases h)⟩
  have hga : VRs (fun _ => none) args args' := by
    clear h
    induction ha with
    | nil => exact .nil
    | cons x _ ih =>
      simp only [List.all_cons, Bool.and_eq_true] at hg
      refine .cons ?_ (ih hg.2)
      have h1 := VR.of_ground hg.1 (fun _ => none)
      have h2 := (h1.old (σ := fun _ => none) (fun b L h => by cases h)).cmp x
      exact h2.mono (fun b L e => by simp [cmp] at e)
  obtain ⟨i', w', v', fr, e, g, q1, q2, q3, q4⟩ := h _ w args' hrel hga cs
  generalize hσ : (fun b => if H.length ≤ b then some (b - H.length) else none : Nat → Option Nat) = σ at hv hJ
  have hs : ∀ b, H.length ≤ b → σ b = some (b - H.length) := fun b hb => by rw [← hσ]; simp [hb]
  have hs0 : ∀ b, b < H.length → σ b = none := fun b hb => by rw [← hσ]; simp [Nat.not_le.2 hb]
  let i2 : Inj := fun b => if b < H.length then i b else cmp σ i' b
  have hle : (cmp σ i').le i2 := by
    intro b L hb
    have : ¬ b < H.length := fun hlt => by simp [cmp, hs0 b hlt] at hb
    simp only [i2, if_neg this]
    exact hb
  have hle2 : i.le i2 := by
    intro b L hb
    have := hr.dom b L hb
    simp only [i2, if_pos this]
    exact hb
  have hold : ∀ c, c < w.heap.size → w'.heap[c]? = w.heap[c]? := fun c hc => e.frame c hc (fun b L x h => by cases h)
  have hnew : ∀ b L, ¬ b < H.length → i2 b = some L → ∃ k, b = H.length + k ∧ i' k = some L := by
    intro b L hb h
    simp only [i2, if_neg hb] at h
    simp only [cmp, hs b (by omega), Option.bind_some] at h
    exact ⟨b - H.length, by omega, h⟩
  have hk : ∀ k L, i' k = some L → ∃ x x2, J[k]? = some x ∧ J2[k]? = some x2 ∧ AR σ x2 x ∧ w.heap.size ≤ L.blk := by
    intro k L hk
    have hlt := g.dom k L hk
    obtain ⟨x2, p1, p2⟩ := hJ k _ (List.getElem?_eq_getElem hlt)
    refine ⟨_, x2, List.getElem?_eq_getElem hlt, p1, p2, ?_⟩
    rcases e.fresh k L hk with h | ⟨_, h | ⟨b0, L0, x0, h, _⟩⟩
    · cases h
    · exact h
    · cases h
  refine ⟨i2, w', v', fr, ⟨hr.dom, hle2, e.os, e.tape, e.output, e.size, by simp, fun b x' hb hx ho => ?_, fun c hc _ => hold c hc, fun b hb _ => List.getElem?_append_left hb, fun b L hb => ?_⟩, ⟨fun b L hb => ?_, fun b L x hb hx => ?_, fun b1 b2 L1 L2 x1 x2 f1 f2 g1 g2 o1 l2 hL => ?_⟩, (hv.cmp q1).mono hle, q2, q3, q4⟩
  · rw [List.getElem?_append_left hb] at hx
    exact ⟨x', hx, ho⟩
  · by_cases hbl : b < H.length
    · simp only [i2, if_pos hbl] at hb; exact .inl hb
    · obtain ⟨k, rfl, hk'⟩ := hnew b L hbl hb
      obtain ⟨_, _, _, _, _, hsz⟩ := hk k L hk'
      exact .inr ⟨by omega, .inl hsz⟩
  · by_cases hbl : b < H.length
    · simp; omega
    · obtain ⟨k, rfl, hk'⟩ := hnew b L hbl hb
      have := g.dom k L hk'
      simp; omega
  · by_cases hbl : b < H.length
    · simp only [i2, if_pos hbl] at hb
      rw [List.getElem?_append_left hbl] at hx
      have hB := hr.blk b L x hb hx
      by_cases hl : x.live = true
      · exact (hB.heap (hold _ (hB.lt hl))).mono hle2
      · cases x <;> simp [AB.live] at hl
        trivial
    · obtain ⟨k, rfl, hk'⟩ := hnew b L hbl hb
      rw [get_new] at hx
      obtain ⟨y, y2, p1, p2, p3, _⟩ := hk k L hk'
      rw [hx] at p2; cases p2
      exact (p3.blk (g.blk k L y hk' p1)).mono hle
  · by_cases hb1 : b1 < H.length <;> by_cases hb2 : b2 < H.length
    · simp only [i2, if_pos hb1] at f1
      simp only [i2, if_pos hb2] at f2
      rw [List.getElem?_append_left hb1] at g1
      rw [List.getElem?_append_left hb2] at g2
      exact hr.inj b1 b2 L1 L2 x1 x2 f1 f2 g1 g2 o1 l2 hL
    · simp only [i2, if_pos hb1] at f1
      rw [List.getElem?_append_left hb1] at g1
      have hB := hr.blk b1 L1 x1 f1 g1
      have := hB.lt (AB.owned_live o1)
      obtain ⟨k, rfl, hk'⟩ := hnew b2 L2 hb2 f2
      obtain ⟨_, _, _, _, _, hsz⟩ := hk k L2 hk'
      omega
    · simp only [i2, if_pos hb2] at f2
      rw [List.getElem?_append_left hb2] at g2
      have hB := hr.blk b2 L2 x2 f2 g2
      have := hB.lt l2
      obtain ⟨k, rfl, hk'⟩ := hnew b1 L1 hb1 f1
      obtain ⟨_, _, _, _, _, hsz⟩ := hk k L1 hk'
      omega
    · obtain ⟨k, rfl, hk'⟩ := hnew b1 L1 hb1 f1
      obtain ⟨m, rfl, hm'⟩ := hnew b2 L2 hb2 f2
      rw [get_new] at g1 g2
      obtain ⟨y1, z1, p1, p2, p3, _⟩ := hk k L1 hk'
      obtain ⟨y2, z2, r1, r2, r3, _⟩ := hk m L2 hm'
      rw [g1] at p2; cases p2
      rw [g2] at r2; cases r2
      have := g.inj k m L1 L2 y1 y2 hk' hm' p1 r1 (p3.owned ▸ o1) (r3.live ▸ l2) hL
      omega

/-- A known result, at any heap. -/
theorem FN.ground {P : Program} {f : FuncId} {args : List Value} {v : Value} (hg : args.all ground = true) (hv : ground v = true) (h : FN P f args [] (fun v1 H1 => v1 = v ∧ H1 = [])) (H : AH) : FN P f args H (fun v1 H1 => v1 = v ∧ H1 = H) := by
  obtain ⟨hc, v1, H1, ⟨rfl, rfl⟩, hs⟩ := h
  refine ⟨hc, v1, H ++ [], ⟨rfl, by simp⟩, hs.frame hg H (VR.ground_hat hv _) rfl (fun k x hk => by simp at hk)⟩

end Go.Sim
