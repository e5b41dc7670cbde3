/- Part of the proof: SimW, SimQ2, SimY, SimZ, SimX, SimX2, SimST, ShA, ShB, ShC. -/
import Derived.Test.YtgcoidbhikfdkaaPSimOToSimV
import Derived.KernelRfl
set_option linter.all false
namespace Go.Sim
open Go
abbrev RunT := Tr → AH → Option (AX × Tr × AH)
noncomputable def seqI (r : Option (AX × Tr × AH)) (f : RunT) : Option (AX × Tr × AH) := Option.rec none (fun p => Prod.rec (fun x q => AX.rec (Prod.rec f q) (fun i => some (.exit i, q)) (some (.ret, q)) x) p) r
noncomputable def iterC (f : RunT) (n : Nat) : RunT := Nat.rec (fun _ _ => none) (fun _ ih t H => seqI (f t H) ih) n
theorem iterC_zero (f : RunT) (t : Tr) (H : AH) : iterC f 0 t H = none := rfl
theorem iterC_succ (f : RunT) (n : Nat) (t : Tr) (H : AH) : iterC f (n + 1) t H = match f t H with
    | some (.normal, t', H') => iterC f n t' H'
    | r => r := by
  change seqI (f t H) (iterC f n) = _
  rcases f t H with _ | ⟨x, t', H'⟩
  · rfl
  · cases x <;> rfl
noncomputable def seqR (r : Option (AX × Tr × AH)) (f : RunT) : Option (AX × Tr × AH) := Option.rec none (fun p => Prod.rec (fun x q => AX.rec (Prod.rec f q) (fun i => some (.exit i, q)) (some (.ret, q)) x) p) r
noncomputable def blockR (id : Nat) (r : Option (AX × Tr × AH)) : Option (AX × Tr × AH) := Option.rec none (fun p => Prod.rec (fun x q => AX.rec (some (.normal, q)) (fun i => Bool.rec (some (.exit i, q)) (some (.normal, q)) (Nat.beq i id)) (some (.ret, q)) x) p) r
noncomputable def condR (v : Value) (a b : Option (AX × Tr × AH)) : Option (AX × Tr × AH) := withB none v fun x => Bool.rec b a x
noncomputable def regR (r : Option (Tr × AH)) : Option (AX × Tr × AH) := Option.rec none (fun q => some (.normal, q)) r
noncomputable def runC (call : CallT) (lo L : Nat) (c : XC) : RunT :=
  XC.rec (motive := fun _ => RunT) (fun t H => some (.normal, t, H)) (fun id t H => some (.exit id, t, H)) (fun t H => some (.ret, t, H))
    (fun _ _ fa fb t H => seqR (fa t H) fb)
    (fun c _ _ fa fb t H => condR (evT t c) (fa t H) (fb t H))
    (fun id _ fa t H => blockR id (fa t H))
    (fun _ fa => iterC fa L)
    (fun l t H => regR (runS call lo l [] t H))
    (fun _ _ _ _ _ _ _ _ => none) c
theorem seqR_eq (r : Option (AX × Tr × AH)) (f : RunT) : seqR r f = match r with
    | some (.normal, t', H') => f t' H'
    | r => r := by
  rcases r with _ | ⟨x, t', H'⟩
  · rfl
  · cases x <;> rfl
theorem blockR_eq (id : Nat) (r : Option (AX × Tr × AH)) : blockR id r = match r with
    | some (.exit i, t', H') => bif Nat.beq i id then some (.normal, t', H') else some (.exit i, t', H')
    | r => r := by
  rcases r with _ | ⟨x, t', H'⟩
  · rfl
  · cases x with
    | exit i =>
      change (Bool.rec (some (.exit i, t', H')) (some (.normal, t', H')) (Nat.beq i id) : Option (AX × Tr × AH)) = _
      rw [recB]
    | _ => rfl
theorem runC_ok {P : Program} {call : CallT} {n lo L : Nat} (hc : CallOkL P lo call) (c : XC) : ∀ (t : Tr) (H : AH) (x : AX) (t' : Tr) (H' : AH), lo ≤ H.length → runC call lo L c t H = some (x, t', H') →
    X P n none c ⟨t.get, []⟩ H (fun x1 s1 H1 => x1 = x ∧ s1 = ⟨t'.get, []⟩ ∧ H1 = H') ∧ Keep lo H H' := by
  induction c with
  | skip => intro t H x t' H' hl h; cases h; exact ⟨⟨rfl, rfl, rfl⟩, .refl hl⟩
  | exit id => intro t H x t' H' hl h; cases h; exact ⟨⟨rfl, rfl, rfl⟩, .refl hl⟩
  | ret => intro t H x t' H' hl h; cases h; exact ⟨⟨rfl, rfl, rfl⟩, .refl hl⟩
  | seq a b iha ihb =>
    intro t H x t' H' hl h
    change seqR (runC call lo L a t H) (runC call lo L b) = _ at h
    rw [seqR_eq] at h
    split at h
    · rename_i t1 H1 ha
      obtain ⟨q1, k1⟩ := iha t H _ t1 H1 hl ha
      obtain ⟨q2, k2⟩ := ihb t1 H1 x t' H' k1.1 h
      refine ⟨X.mono a q1 ?_, k1.trans k2⟩
      rintro _ _ _ ⟨rfl, rfl, rfl⟩
      exact q2
    · rename_i hn
      obtain ⟨q1, k1⟩ := iha t H x t' H' hl h
      refine ⟨X.mono a q1 ?_, k1⟩
      rintro x2 _ _ ⟨rfl, rfl, rfl⟩
      cases x2 with
      | normal => exact absurd h (hn _ _)
      | exit i => exact ⟨rfl, rfl, rfl⟩
      | ret => exact ⟨rfl, rfl, rfl⟩
  | cond c a b iha ihb =>
    intro t H x t' H' hl h
    change condR (evT t c) (runC call lo L a t H) (runC call lo L b t H) = _ at h
    unfold condR at h
    rcases withB_eq (d := none) (v := evT t c) (K := fun x => (Bool.rec (runC call lo L b t H) (runC call lo L a t H) x : Option (AX × Tr × AH))) with ⟨y, hy, e2⟩ | e2
    · rw [evT_eq] at hy
      rw [e2] at h
      cases y with
      | true =>
        obtain ⟨q, k⟩ := iha t H x t' H' hl h
        exact ⟨⟨true, hy, by simpa using q⟩, k⟩
      | false =>
        obtain ⟨q, k⟩ := ihb t H x t' H' hl h
        exact ⟨⟨false, hy, by simpa using q⟩, k⟩
    · rw [e2] at h; cases h
  | block id a ih =>
    intro t H x t' H' hl h
    change blockR id (runC call lo L a t H) = _ at h
    rw [blockR_eq] at h
    split at h
    · rename_i i t1 H1 ha
      obtain ⟨q1, k1⟩ := ih t H _ t1 H1 hl ha
      by_cases hi : i = id
      · subst hi
        simp only [Nat.beq_refl, cond_true] at h
        cases h
        refine ⟨X.mono a q1 ?_, k1⟩
        rintro _ _ _ ⟨rfl, rfl, rfl⟩
        simp [AX.inBlock]
      · have : Nat.beq i id = false := by rw [beq_iff]; simp [hi]
        rw [this] at h
        cases h
        refine ⟨X.mono a q1 ?_, k1⟩
        rintro _ _ _ ⟨rfl, rfl, rfl⟩
        simp [AX.inBlock, hi]
    · rename_i hn
      obtain ⟨q1, k1⟩ := ih t H x t' H' hl h
      refine ⟨X.mono a q1 ?_, k1⟩
      rintro x2 _ _ ⟨rfl, rfl, rfl⟩
      cases x2 with
      | normal => exact ⟨rfl, rfl, rfl⟩
      | exit i => exact absurd h (hn _ _ _)
      | ret => exact ⟨rfl, rfl, rfl⟩
  | loop a ih =>
    intro t H x t' H' hl h
    change iterC (runC call lo L a) L t H = _ at h
    have key : ∀ m t H, lo ≤ H.length → iterC (runC call lo L a) m t H = some (x, t', H') → Keep lo H H' := by
      intro m
      induction m with
      | zero => intro t H _ h; rw [iterC_zero] at h; cases h
      | succ m ihm =>
        intro t H hl h
        rw [iterC_succ] at h
        split at h
        · rename_i t1 H1 ha
          obtain ⟨q1, k1⟩ := ih t H _ t1 H1 hl ha
          exact k1.trans (ihm t1 H1 k1.1 h)
        · exact (ih t H x t' H' hl h).2
    refine ⟨?_, key _ _ _ hl h⟩
    refine loop_ind (fun m s H => ∃ t, s = ⟨t.get, []⟩ ∧ lo ≤ H.length ∧ iterC (runC call lo L a) m t H = some (x, t', H')) L ⟨t, rfl, hl, h⟩ ?_
    rintro m s H1 ⟨t1, rfl, hl1, h1⟩
    cases m with
    | zero => rw [iterC_zero] at h1; cases h1
    | succ m =>
      rw [iterC_succ] at h1
      split at h1
      · rename_i t2 H2 ha
        obtain ⟨q1, k1⟩ := ih t1 H1 _ t2 H2 hl1 ha
        refine X.mono a q1 ?_
        rintro _ _ _ ⟨rfl, rfl, rfl⟩
        exact ⟨m, by omega, t2, rfl, k1.1, h1⟩
      · rename_i hn
        obtain ⟨q1, k1⟩ := ih t1 H1 x t' H' hl1 h1
        refine X.mono a q1 ?_
        rintro x2 _ _ ⟨rfl, rfl, rfl⟩
        cases x2 with
        | normal => exact absurd h1 (hn _ _)
        | exit i => exact ⟨rfl, rfl, rfl⟩
        | ret => exact ⟨rfl, rfl, rfl⟩
  | reg l =>
    intro t H x t' H' hl h
    change regR (runS call lo l [] t H) = _ at h
    obtain ⟨⟨t1, H1⟩, hr, h⟩ := recO h
    · skip
      obtain ⟨q, k⟩ := runS_ok hc l [] t H t1 H1 hl hr
      cases h
      exact ⟨stepsX_mono l _ _ _ _ _ (fun s H h => ⟨rfl, h.1, h.2⟩) q, k⟩
  | range f ps xa xb _ _ => intro t H x t' H' hl h; cases h
noncomputable def initT : List Value → Nat → Tr → Tr
  | [], _, t => t
  | v :: l, k, t => initT l (k + 1) (forceV v fun v => Tr.setF 4096 t k v)
theorem initT_get : ∀ (l : List Value) (k : Nat) (t : Tr) (x : Nat), k + l.length ≤ 4096 → (initT l k t).get x = if k ≤ x ∧ x < k + l.length then l.getD (x - k) undef else t.get x
  | [], k, t, x, _ => by simp only [initT, List.length_nil]; rw [if_neg (by omega)]
  | v :: l, k, t, x, h => by
    simp only [initT, forceV_eq]
    simp only [List.length_cons] at h ⊢
    rw [initT_get l (k + 1) _ x (by omega), Tr.get_set _ _ _ _ _ (by omega)]
    by_cases h1 : x = k
    · subst h1
      rw [if_neg (by omega), if_pos rfl, if_pos (by omega)]
      simp
    · by_cases h2 : k + 1 ≤ x ∧ x < k + 1 + l.length
      · rw [if_pos h2, if_pos (by omega), show x - k = (x - (k + 1)) + 1 by omega, List.getD_cons_succ]
      · rw [if_neg h2, if_neg h1, if_neg (by omega)]
def resR (xf : XF) (H : AH) (r : Option (AX × Tr × AH)) (get : Tr → Nat → Value) : Option (Value × AH) := match r with
  | some (.exit _, _, _) => none
  | some (_, t', H') => match xress H' ⟨get t', []⟩ xf.res with
    | some v => bif ground v then some (v, H) else some (v, H')
    | none => none
  | none => none
def resM (xf : XF) (r : Option (AX × Tr × AH)) (get : Tr → Nat → Value) : Option (Value × AH) := match r with
  | some (.exit _, _, _) => none
  | some (_, t', H') => match xress H' ⟨get t', []⟩ xf.res with
    | some v => some (v, H')
    | none => none
  | none => none
noncomputable def callF (T : FuncId → Option XF) (O : CallT) (L d : Nat) : CallT :=
  Nat.rec (fun _ _ _ => none) (fun _ ih g args H => match O g args H with
    | some r => some r
    | none => match T g with
      | some xf => bif Nat.ble args.length xf.n && Nat.ble args.length 4096 then resR xf H (runC ih H.length L xf.body (initT args 0 .nil) H) Tr.get else none
      | none => none) d
theorem Keep.split {H H' : AH} (h : Keep H.length H H') : ∃ J, H' = H ++ J := by
  refine ⟨H'.drop H.length, ?_⟩
  refine List.ext_getElem? fun b => ?_
  by_cases hb : b < H.length
  · rw [List.getElem?_append_left hb]; exact h.2 b hb
  · rw [List.getElem?_append_right (by omega), List.getElem?_drop]
    congr 1; omega
theorem callF_ok {P : Program} (hm : P.follows .mixedOrders = true) {T : FuncId → Option XF} {O : CallT} (hT : ∀ g xf, T g = some xf → compF P g = some xf)
    (hO : CallOk P O) (L : Nat) : ∀ d, CallOk P (callF T O L d)
  | 0 => by intro g args H v H' h; cases h
  | d + 1 => by
    intro g args H v H' h
    change (match O g args H with
      | some r => some r
      | none => match T g with
        | some xf => bif Nat.ble args.length xf.n && Nat.ble args.length 4096 then resR xf H (runC (callF T O L d) H.length L xf.body (initT args 0 .nil) H) Tr.get else none
        | none => none) = some (v, H') at h
    split at h
    · rename_i u hu
      cases h
      exact hO g args _ _ _ hu
    · split at h
      · rename_i xf hxf
        cases hb : (Nat.ble args.length xf.n && Nat.ble args.length 4096) with
        | false => rw [hb] at h; cases h
        | true =>
          rw [hb] at h
          simp only [Bool.and_eq_true] at hb
          have b1 : args.length ≤ xf.n := Nat.le_of_ble_eq_true hb.1
          have b2 : args.length ≤ 4096 := Nat.le_of_ble_eq_true hb.2
          have henv : (⟨env0 args, []⟩ : St) = ⟨(initT args 0 .nil).get, []⟩ := by
            congr 1
            funext x
            rw [initT_get _ _ _ _ (by omega)]
            simp only [env0, Nat.zero_le, Nat.zero_add, true_and, Nat.sub_zero]
            split
            · rfl
            · rename_i hx
              rw [List.getD_eq_getElem?_getD, List.getElem?_eq_none (by omega)]
              rfl
          simp only [cond_true] at h
          unfold resR at h
          split at h
          · cases h
          · rename_i x t' H1 hne hr
            split at h
            · rename_i u hu
              obtain ⟨q, k⟩ := runC_ok ((callF_ok hm hT hO L d).toL _) (n := xf.n) xf.body _ H _ t' H1 (Nat.le_refl _) hr
              have hF : ∀ R : Value → AH → Prop, R u H1 → FN P g args H R := by
                intro R hR
                refine FN.of_comp hm (hT g xf hxf) b1 ?_
                rw [henv]
                refine X.mono xf.body q ?_
                rintro x2 _ _ ⟨rfl, rfl, rfl⟩
                cases x2 with
                | exit i => exact (hne _ rfl).elim
                | normal => exact ⟨_, _, rfl, hu, hR⟩
                | ret => exact ⟨_, _, rfl, hu, hR⟩
              cases hg : ground u with
              | true =>
                rw [hg] at h
                cases h
                refine ⟨FN.gc0 (R := fun v1 => v1 = _) (hF _ ⟨rfl, hg, k.split⟩), Keep.refl (Nat.le_refl _)⟩
              | false =>
                rw [hg] at h
                cases h
                exact ⟨hF _ ⟨rfl, rfl⟩, k⟩
            · cases h
          · cases h
      · cases h
noncomputable def callM (T : FuncId → Option XF) (O : CallT) (wr : FuncId → Bool) (L d : Nat) : Nat → CallT :=
  Nat.rec (fun _ _ _ _ => none) (fun _ ih lo g args H => match O g args H with
    | some r => some r
    | none => match T g with
      | some xf => bif Nat.ble args.length xf.n && Nat.ble args.length 4096 then
          (bif wr g then resM xf (runC (ih lo) lo L xf.body (initT args 0 .nil) H) Tr.get else resR xf H (runC (ih H.length) H.length L xf.body (initT args 0 .nil) H) Tr.get) else none
      | none => none) d
theorem callM_ok {P : Program} (hm : P.follows .mixedOrders = true) {T : FuncId → Option XF} {O : CallT} {wr : FuncId → Bool} (hT : ∀ g xf, T g = some xf → compF P g = some xf)
    (hO : CallOk P O) (L : Nat) : ∀ d lo, CallOkL P lo (callM T O wr L d lo)
  | 0, _ => by intro g args H v H' hl h; cases h
  | d + 1, lo => by
    intro g args H v H' hl h
    change (match O g args H with
      | some r => some r
      | none => match T g with
        | some xf => bif Nat.ble args.length xf.n && Nat.ble args.length 4096 then
          (bif wr g then resM xf (runC (callM T O wr L d lo) lo L xf.body (initT args 0 .nil) H) Tr.get else resR xf H (runC (callM T O wr L d H.length) H.length L xf.body (initT args 0 .nil) H) Tr.get) else none
        | none => none) = some (v, H') at h
    split at h
    · rename_i u hu
      cases h
      exact hO.toL lo g args _ _ _ hl hu
    · split at h
      · rename_i xf hxf
        cases hb : (Nat.ble args.length xf.n && Nat.ble args.length 4096) with
        | false => rw [hb] at h; cases h
        | true =>
          rw [hb] at h
          simp only [Bool.and_eq_true] at hb
          have b1 : args.length ≤ xf.n := Nat.le_of_ble_eq_true hb.1
          have b2 : args.length ≤ 4096 := Nat.le_of_ble_eq_true hb.2
          have henv : (⟨env0 args, []⟩ : St) = ⟨(initT args 0 .nil).get, []⟩ := by
            congr 1
            funext x
            rw [initT_get _ _ _ _ (by omega)]
            simp only [env0, Nat.zero_le, Nat.zero_add, true_and, Nat.sub_zero]
            split
            · rfl
            · rename_i hx
              rw [List.getD_eq_getElem?_getD, List.getElem?_eq_none (by omega)]
              rfl
          have hend : ∀ {x : AX} {t' : Tr} {H1 : AH} {u : Value}, (∀ i, x ≠ .exit i) → X P xf.n none xf.body ⟨(initT args 0 .nil).get, []⟩ H (fun x1 s1 H2 => x1 = x ∧ s1 = ⟨t'.get, []⟩ ∧ H2 = H1) → xress H1 ⟨t'.get, []⟩ xf.res = some u → ∀ R : Value → AH → Prop, R u H1 → FN P g args H R := by
            intro x t' H1 u hne q hu R hR
            refine FN.of_comp hm (hT g xf hxf) b1 ?_
            rw [henv]
            refine X.mono xf.body q ?_
            rintro x2 _ _ ⟨rfl, rfl, rfl⟩
            cases x2 with
            | exit i => exact (hne _ rfl).elim
            | normal => exact ⟨_, _, rfl, hu, hR⟩
            | ret => exact ⟨_, _, rfl, hu, hR⟩
          simp only [cond_true] at h
          cases hmut : wr g with
          | true =>
            rw [hmut] at h
            simp only [cond_true] at h
            unfold resM at h
            split at h
            · cases h
            · rename_i x t' H1 hne hr
              split at h
              · rename_i u hu
                obtain ⟨q, k⟩ := runC_ok (callM_ok hm hT hO L d lo) (n := xf.n) xf.body _ H _ t' H1 hl hr
                cases h
                exact ⟨hend (fun i hi => hne i hi) q hu _ ⟨rfl, rfl⟩, k⟩
              · cases h
            · cases h
          | false =>
            rw [hmut] at h
            simp only [cond_false] at h
            unfold resR at h
            split at h
            · cases h
            · rename_i x t' H1 hne hr
              split at h
              · rename_i u hu
                obtain ⟨q, k⟩ := runC_ok (callM_ok hm hT hO L d H.length) (n := xf.n) xf.body _ H _ t' H1 (Nat.le_refl _) hr
                have kk : Keep lo H H1 := ⟨by have := k.1; omega, fun b hb => k.2 b (by omega)⟩
                cases hg : ground u with
                | true =>
                  rw [hg] at h
                  cases h
                  exact ⟨FN.gc0 (R := fun v1 => v1 = _) (hend (fun i hi => hne i hi) q hu _ ⟨rfl, hg, k.split⟩), Keep.refl hl⟩
                | false =>
                  rw [hg] at h
                  cases h
                  exact ⟨hend (fun i hi => hne i hi) q hu _ ⟨rfl, rfl⟩, kk⟩
              · cases h
            · cases h
      · cases h
theorem VRs.ground {i : Inj} : ∀ {l : List Value}, l.all ground = true → VRs i l l
  | [], _ => .nil
  | v :: l, h => by
    simp only [List.all_cons, Bool.and_eq_true] at h
    exact .cons (VR.of_ground h.1 i) (VRs.ground h.2)
theorem FSim.frame {P : Program} {f : FuncId} {args : List Value} {v v2 : Value} {J J2 : AH} (hg : args.all ground = true) (h : FSim P f args [] v J) (H : AH)
    (hv : VR (hat fun b => if H.length ≤ b then some (b - H.length) else none) v2 v) (hlen : J2.length = J.length)
    (hJ : ∀ (k : Nat) x, J[k]? = some x → ∃ x2, J2[k]? = some x2 ∧ AR (fun b => if H.length ≤ b then some (b - H.length) else none) x2 x) : FSim P f args H v2 (H ++ J2) := by
  intro i w args' hr ha cs
  have hrel : Rel (fun _ => none) [] w := ⟨(fun b => by simp), (fun b L x h => by cases h), (fun _ _ _ _ _ _ h => by cases h)⟩
  have hga : VRs (fun _ => none) args args' := by
    clear h
    induction ha with
    | nil => exact .nil
    | cons x _ ih =>
      simp only [List.all_cons, Bool.and_eq_true] at hg
      refine .cons ?_ (ih hg.2)
      have h1 := VR.of_ground hg.1 (fun _ => none)
      have h2 := (h1.old (σ := fun _ => none) (fun b L h => by cases h)).cmp x
      exact h2.mono (fun b L e => by simp [cmp] at e)
  obtain ⟨i', w', v', fr, e, g, q1, q2, q3, q4⟩ := h _ w args' hrel hga cs
  generalize hσ : (fun b => if H.length ≤ b then some (b - H.length) else none : Nat → Option Nat) = σ at hv hJ
  have hs : ∀ b, H.length ≤ b → σ b = some (b - H.length) := fun b hb => by rw [← hσ]; simp [hb]
  have hs0 : ∀ b, b < H.length → σ b = none := fun b hb => by rw [← hσ]; simp [Nat.not_le.2 hb]
  let i2 : Inj := fun b => if b < H.length then i b else cmp σ i' b
  have hle : (cmp σ i').le i2 := by
    intro b L hb
    have : ¬ b < H.length := fun hlt => by simp [cmp, hs0 b hlt] at hb
    simp only [i2, if_neg this]
    exact hb
  have hle2 : i.le i2 := by
    intro b L hb
    have := hr.dom b L hb
    simp only [i2, if_pos this]
    exact hb
  have hold : ∀ c, c < w.heap.size → w'.heap[c]? = w.heap[c]? := fun c hc => e.frame c hc (fun b L x h => by cases h)
  have hnew : ∀ b L, ¬ b < H.length → i2 b = some L → ∃ k, b = H.length + k ∧ i' k = some L := by
    intro b L hb h
    simp only [i2, if_neg hb] at h
    simp only [cmp, hs b (by omega), Option.bind_some] at h
    exact ⟨b - H.length, by omega, h⟩
  have hk : ∀ k L, i' k = some L → ∃ x x2, J[k]? = some x ∧ J2[k]? = some x2 ∧ AR σ x2 x ∧ w.heap.size ≤ L.blk := by
    intro k L hk
    have hlt := g.dom k L hk
    obtain ⟨x2, p1, p2⟩ := hJ k _ (List.getElem?_eq_getElem hlt)
    refine ⟨_, x2, List.getElem?_eq_getElem hlt, p1, p2, ?_⟩
    rcases e.fresh k L hk with h | ⟨_, h | ⟨b0, L0, x0, h, _⟩⟩
    · cases h
    · exact h
    · cases h
  refine ⟨i2, w', v', fr, ⟨hr.dom, hle2, e.os, e.tape, e.output, e.size, by simp, fun b x' hb hx ho => ?_, fun c hc _ => hold c hc, fun b hb _ => List.getElem?_append_left hb, fun b L hb => ?_⟩, ⟨fun b L hb => ?_, fun b L x hb hx => ?_, fun b1 b2 L1 L2 x1 x2 f1 f2 g1 g2 o1 l2 hL => ?_⟩, (hv.cmp q1).mono hle, q2, q3, q4⟩
  · rw [List.getElem?_append_left hb] at hx
    exact ⟨x', hx, ho⟩
  · by_cases hbl : b < H.length
    · simp only [i2, if_pos hbl] at hb; exact .inl hb
    · obtain ⟨k, rfl, hk'⟩ := hnew b L hbl hb
      obtain ⟨_, _, _, _, _, hsz⟩ := hk k L hk'
      exact .inr ⟨by omega, .inl hsz⟩
  · by_cases hbl : b < H.length
    · simp; omega
    · obtain ⟨k, rfl, hk'⟩ := hnew b L hbl hb
      have := g.dom k L hk'
      simp; omega
  · by_cases hbl : b < H.length
    · simp only [i2, if_pos hbl] at hb
      rw [List.getElem?_append_left hbl] at hx
      have hB := hr.blk b L x hb hx
      by_cases hl : x.live = true
      · exact (hB.heap (hold _ (hB.lt hl))).mono hle2
      · cases x <;> simp [AB.live] at hl
        trivial
    · obtain ⟨k, rfl, hk'⟩ := hnew b L hbl hb
      rw [get_new] at hx
      obtain ⟨y, y2, p1, p2, p3, _⟩ := hk k L hk'
      rw [hx] at p2; cases p2
      exact (p3.blk (g.blk k L y hk' p1)).mono hle
  · by_cases hb1 : b1 < H.length <;> by_cases hb2 : b2 < H.length
    · simp only [i2, if_pos hb1] at f1
      simp only [i2, if_pos hb2] at f2
      rw [List.getElem?_append_left hb1] at g1
      rw [List.getElem?_append_left hb2] at g2
      exact hr.inj b1 b2 L1 L2 x1 x2 f1 f2 g1 g2 o1 l2 hL
    · simp only [i2, if_pos hb1] at f1
      rw [List.getElem?_append_left hb1] at g1
      have hB := hr.blk b1 L1 x1 f1 g1
      have := hB.lt (AB.owned_live o1)
      obtain ⟨k, rfl, hk'⟩ := hnew b2 L2 hb2 f2
      obtain ⟨_, _, _, _, _, hsz⟩ := hk k L2 hk'
      omega
    · simp only [i2, if_pos hb2] at f2
      rw [List.getElem?_append_left hb2] at g2
      have hB := hr.blk b2 L2 x2 f2 g2
      have := hB.lt l2
      obtain ⟨k, rfl, hk'⟩ := hnew b1 L1 hb1 f1
      obtain ⟨_, _, _, _, _, hsz⟩ := hk k L1 hk'
      omega
    · obtain ⟨k, rfl, hk'⟩ := hnew b1 L1 hb1 f1
      obtain ⟨m, rfl, hm'⟩ := hnew b2 L2 hb2 f2
      rw [get_new] at g1 g2
      obtain ⟨y1, z1, p1, p2, p3, _⟩ := hk k L1 hk'
      obtain ⟨y2, z2, r1, r2, r3, _⟩ := hk m L2 hm'
      rw [g1] at p2; cases p2
      rw [g2] at r2; cases r2
      have := g.inj k m L1 L2 y1 y2 hk' hm' p1 r1 (p3.owned ▸ o1) (r3.live ▸ l2) hL
      omega
end Go.Sim

namespace Go.Sim
open Go
class Kb (α : Type) where
  f : α
def bindO (o : Option Value) [k : Kb (Value → Prop)] : Prop := ∃ v, o = some v ∧ k.f v
def bindP (o : Option (Value × AH)) [k : Kb (Value → AH → Prop)] : Prop := ∃ v H, o = some (v, H) ∧ k.f v H
def bindN (o : Option (List Value × TypeId × (Nat → Value))) [k : Kb (List Value → TypeId → (Nat → Value) → Prop)] : Prop := ∃ c e mk, o = some (c, e, mk) ∧ k.f c e mk
def bindU (o : Option AH) [k : Kb (AH → Prop)] : Prop := ∃ H, o = some H ∧ k.f H
def bindL (o : Option (List Value)) [k : Kb (List Value → Prop)] : Prop := ∃ H, o = some H ∧ k.f H
def letV (v : Value) [k : Kb (Value → Prop)] : Prop := k.f v
def letH (H : AH) [k : Kb (AH → Prop)] : Prop := k.f H
def condK (v : Value) [k : Kb (Bool → Prop)] : Prop := ∃ t, v = .bool t ∧ k.f t
def guardK (b : Bool) [k : Kb (Bool → Prop)] : Prop := k.f b
def pickK (v x y : Value) [k : Kb (Value → Prop)] : Prop := ∃ t, v = .bool t ∧ k.f (if t then x else y)
def XZ (P : Program) (n : Nat) (ro : Option Nat) (c : XC) [s : Kb St] [H : Kb AH] [Q : Kb (AX → St → AH → Prop)] : Prop := X P n ro c s.f H.f Q.f
def SZ (P : Program) (l : List XS) [D : Kb (List PL)] [s : Kb St] [H : Kb AH] [K : Kb (St → AH → Prop)] : Prop := stepsX P l D.f s.f H.f K.f
def callZ (P : Program) (vs : List Value) (H : AH) [R : Kb (Value → AH → Prop)] : Prop := callX P vs H R.f
def FZ (P : Program) (g : FuncId) (args : List Value) (H : AH) [R : Kb (Value → AH → Prop)] : Prop := FN P g args H R.f
def YZ (P : Program) (g : Nat) (args : List Value) (H : AH) [R : Kb (Value → AH → Prop)] : Prop := YN P g args H R.f
def LZ (P : Program) (n : Nat) (ro : Option Nat) (c : XC) [s : Kb St] [H : Kb AH] [Q : Kb (AX → St → AH → Prop)] : Prop := loopX (X P n ro c) s.f H.f Q.f
def EZ (Q : AX → St → AH → Prop) (x : AX) (s : St) (H : AH) : Prop := Q x s H
theorem bindO_some {v : Value} {k : Value → Prop} : @bindO (some v) ⟨k⟩ = k v := by simp [bindO]
theorem bindP_some {v : Value} {H : AH} {k : Value → AH → Prop} : @bindP (some (v, H)) ⟨k⟩ = k v H := ex_pair
theorem bindN_some {c : List Value} {e : TypeId} {mk : Nat → Value} {k : List Value → TypeId → (Nat → Value) → Prop} : @bindN (some (c, e, mk)) ⟨k⟩ = k c e mk := ex_trip
theorem bindU_some {H : AH} {k : AH → Prop} : @bindU (some H) ⟨k⟩ = k H := by simp [bindU]
theorem bindL_some {H : List Value} {k : List Value → Prop} : @bindL (some H) ⟨k⟩ = k H := by simp [bindL]
theorem letV_eq {v : Value} {k : Value → Prop} : @letV v ⟨k⟩ = k v := _root_.id rfl
theorem letH_eq {H : AH} {k : AH → Prop} : @letH H ⟨k⟩ = k H := _root_.id rfl
theorem condK_bool {b : Bool} {k : Bool → Prop} : @condK (.bool b) ⟨k⟩ = @guardK b ⟨k⟩ := by simp [condK, guardK]
theorem guardK_true {k : Bool → Prop} : @guardK true ⟨k⟩ = k true := _root_.id rfl
theorem guardK_false {k : Bool → Prop} : @guardK false ⟨k⟩ = k false := _root_.id rfl
theorem pickK_true {x y : Value} {k : Value → Prop} : @pickK (.bool true) x y ⟨k⟩ = k x := by simp [pickK]
theorem pickK_false {x y : Value} {k : Value → Prop} : @pickK (.bool false) x y ⟨k⟩ = k y := by simp [pickK]
section
variable {P : Program} {n : Nat} {ro : Option Nat} {s : St} {H : AH} {Q : AX → St → AH → Prop} {K : St → AH → Prop} {l : List XS} {D : List PL} {g : Option (Tmp × Bool)} {xs : List Operand} {d : Option Tmp} {j : Nat} {kp : Bool} {chk : List Nat} {a b c : Operand} {x : XO}
theorem X0_skip : @XZ P n ro (.skip) ⟨s⟩ ⟨H⟩ ⟨Q⟩ = EZ Q .normal s H := _root_.id rfl
theorem X0_exit {id : Nat} : @XZ P n ro (.exit id) ⟨s⟩ ⟨H⟩ ⟨Q⟩ = EZ Q (.exit id) s H := _root_.id rfl
theorem X0_ret : @XZ P n ro (.ret) ⟨s⟩ ⟨H⟩ ⟨Q⟩ = EZ Q .ret s H := _root_.id rfl
theorem X0_seq {a b : XC} : @XZ P n ro (.seq a b) ⟨s⟩ ⟨H⟩ ⟨Q⟩ = @XZ P n ro a ⟨s⟩ ⟨H⟩ ⟨AX.then (fun s H => @XZ P n ro b ⟨s⟩ ⟨H⟩ ⟨Q⟩) Q⟩ := _root_.id rfl
theorem X0_cond {c : Operand} {a b : XC} : @XZ P n ro (.cond c a b) ⟨s⟩ ⟨H⟩ ⟨Q⟩ = @condK (ev s c) ⟨fun t => if t = true then @XZ P n ro a ⟨s⟩ ⟨H⟩ ⟨Q⟩ else @XZ P n ro b ⟨s⟩ ⟨H⟩ ⟨Q⟩⟩ := _root_.id rfl
theorem X0_block {id : Nat} {a : XC} : @XZ P n ro (.block id a) ⟨s⟩ ⟨H⟩ ⟨Q⟩ = @XZ P n ro a ⟨s⟩ ⟨H⟩ ⟨AX.inBlock id Q⟩ := _root_.id rfl
theorem X0_loop {a : XC} : @XZ P n ro (.loop a) ⟨s⟩ ⟨H⟩ ⟨Q⟩ = @LZ P n ro a ⟨s⟩ ⟨H⟩ ⟨Q⟩ := _root_.id rfl
theorem X0_reg {l : List XS} : @XZ P n ro (.reg l) ⟨s⟩ ⟨H⟩ ⟨Q⟩ = @SZ P l ⟨[]⟩ ⟨s⟩ ⟨H⟩ ⟨Q .normal⟩ := _root_.id rfl
theorem E_then_normal {Q : AX → St → AH → Prop} : EZ (AX.then K Q) .normal s H = K s H := _root_.id rfl
theorem E_then_exit {Q : AX → St → AH → Prop} {id : Nat} : EZ (AX.then K Q) (.exit id) s H = EZ Q (.exit id) s H := _root_.id rfl
theorem E_then_ret {Q : AX → St → AH → Prop} : EZ (AX.then K Q) .ret s H = EZ Q .ret s H := _root_.id rfl
theorem E_inBlock_normal {id : Nat} : EZ (AX.inBlock id Q) .normal s H = EZ Q .normal s H := _root_.id rfl
theorem E_inBlock_exit {id i : Nat} : EZ (AX.inBlock id Q) (.exit i) s H = if i = id then EZ Q .normal s H else EZ Q (.exit i) s H := _root_.id rfl
theorem E_inBlock_ret {id : Nat} : EZ (AX.inBlock id Q) .ret s H = EZ Q .ret s H := _root_.id rfl
theorem E_normal {res : List XRes} {R : Value → AH → Prop} : EZ (bodyX res R) .normal s H = @bindU (unwA s.ds H) ⟨fun H' => @bindO (xress H' s res) ⟨fun v => R v H'⟩⟩ := bodyX_normal
theorem E_ret {res : List XRes} {R : Value → AH → Prop} : EZ (bodyX res R) .ret s H = @bindU (unwA s.ds H) ⟨fun H' => @bindO (xress H' s res) ⟨fun v => R v H'⟩⟩ := bodyX_ret
theorem S0_nil {Q : AX → St → AH → Prop} : @SZ P [] ⟨D⟩ ⟨s⟩ ⟨H⟩ ⟨Q .normal⟩ = EZ Q .normal s H := _root_.id rfl
theorem S0_guardT {t : Tmp} : @SZ P (⟨some (t, true), x, xs, d, j, kp, chk⟩ :: l) ⟨D⟩ ⟨s⟩ ⟨H⟩ ⟨K⟩ = @guardK (asB (s.env t)) ⟨fun q => if q = true then @SZ P (⟨none, x, xs, d, j, kp, chk⟩ :: l) ⟨D⟩ ⟨s⟩ ⟨H⟩ ⟨K⟩ else @SZ P l ⟨D⟩ ⟨s.put d undef⟩ ⟨H⟩ ⟨K⟩⟩ := by
  refine (steps_guardI (P := P) (t := t) (w := true)).trans ?_
  rw [wantX_true]; rfl
theorem S0_guardF {t : Tmp} : @SZ P (⟨some (t, false), x, xs, d, j, kp, chk⟩ :: l) ⟨D⟩ ⟨s⟩ ⟨H⟩ ⟨K⟩ = @guardK (asNB (s.env t)) ⟨fun q => if q = true then @SZ P (⟨none, x, xs, d, j, kp, chk⟩ :: l) ⟨D⟩ ⟨s⟩ ⟨H⟩ ⟨K⟩ else @SZ P l ⟨D⟩ ⟨s.put d undef⟩ ⟨H⟩ ⟨K⟩⟩ := by
  refine (steps_guardI (P := P) (t := t) (w := false)).trans ?_
  rw [wantX_false]; rfl
theorem S0_mov : @SZ P (⟨none, .mov, [a], d, j, kp, chk⟩ :: l) ⟨D⟩ ⟨s⟩ ⟨H⟩ ⟨K⟩ = @letV (ev s a) ⟨fun v => @SZ P l ⟨D⟩ ⟨s.put d v⟩ ⟨H⟩ ⟨K⟩⟩ := _root_.id steps_mov
theorem S0_pick : @SZ P (⟨none, .pick, [c, a, b], d, j, kp, chk⟩ :: l) ⟨D⟩ ⟨s⟩ ⟨H⟩ ⟨K⟩ = @pickK (ev s c) (ev s a) (ev s b) ⟨fun v => @SZ P l ⟨D⟩ ⟨s.put d v⟩ ⟨H⟩ ⟨K⟩⟩ := steps_pick
theorem S0_lenA {n : Nat} : @SZ P (⟨none, .lenA n, [a], d, j, kp, chk⟩ :: l) ⟨D⟩ ⟨s⟩ ⟨H⟩ ⟨K⟩ = @SZ P l ⟨D⟩ ⟨s.put d (nv n)⟩ ⟨H⟩ ⟨K⟩ := steps_lenA
theorem S0_bld {init : List Value} {pl : List (Nat × Nat)} : @SZ P (⟨none, .bld init pl, xs, d, j, kp, chk⟩ :: l) ⟨D⟩ ⟨s⟩ ⟨H⟩ ⟨K⟩ = @bindL (xfill init pl (xs.map (ev s))) ⟨fun v => @SZ P l ⟨D⟩ ⟨s.put d (.agg v.toArray)⟩ ⟨H⟩ ⟨K⟩⟩ := steps_bld
theorem S0_ldF {sz : Option Nat} : @SZ P (⟨none, .ld sz, [a], d, j, false, chk⟩ :: l) ⟨D⟩ ⟨s⟩ ⟨H⟩ ⟨K⟩ = @bindO (xload sz H [ev s a]) ⟨fun v => @SZ P l ⟨D⟩ ⟨s.put d v⟩ ⟨H⟩ ⟨K⟩⟩ := by
  unfold SZ; rw [steps_ld]; rfl
theorem S0_ldT {sz : Option Nat} : @SZ P (⟨none, .ld sz, [a], d, j, true, chk⟩ :: l) ⟨D⟩ ⟨s⟩ ⟨H⟩ ⟨K⟩ = @bindO (xload sz H [ev s a]) ⟨fun v => @SZ P l ⟨⟨j, sz, [ev s a], v⟩ :: D⟩ ⟨s.put d v⟩ ⟨H⟩ ⟨K⟩⟩ := by
  unfold SZ; rw [steps_ld]; rfl
theorem S0_new {c : List Value} {e : TypeId} : @SZ P (⟨none, .new c e, [], d, j, kp, []⟩ :: l) ⟨D⟩ ⟨s⟩ ⟨H⟩ ⟨K⟩ = @letV (.pointer (some ⟨H.length, 0, none⟩)) ⟨fun v => @letH (H ++ [.cells c e none false]) ⟨fun H' => @SZ P l ⟨D⟩ ⟨s.put d v⟩ ⟨H'⟩ ⟨K⟩⟩⟩ := by
  unfold SZ; rw [steps_new, chkX_nil]; simp [letH, letV]
theorem S0_box {e : TypeId} : @SZ P (⟨none, .box e, [a], d, j, kp, []⟩ :: l) ⟨D⟩ ⟨s⟩ ⟨H⟩ ⟨K⟩ = @letV (.pointer (some ⟨H.length, 0, none⟩)) ⟨fun v => @letH (H ++ [.cells (cellsL (ev s a)) e none false]) ⟨fun H' => @SZ P l ⟨D⟩ ⟨s.put d v⟩ ⟨H'⟩ ⟨K⟩⟩⟩ := by
  unfold SZ; rw [steps_box, chkX_nil]; simp [letH, letV]
theorem S0_make {z : Value} {sz bytes : Nat} {e : TypeId} : @SZ P (⟨none, .make z sz bytes e, [a, b], d, j, kp, []⟩ :: l) ⟨D⟩ ⟨s⟩ ⟨H⟩ ⟨K⟩ = @bindN (xnew (.make z sz bytes e) [ev s a, ev s b]) ⟨fun c e' mk => @letV (mk H.length) ⟨fun v => @letH (H ++ [.cells c e' none false]) ⟨fun H' => @SZ P l ⟨D⟩ ⟨s.put d v⟩ ⟨H'⟩ ⟨K⟩⟩⟩⟩ := by
  unfold SZ; rw [steps_make]; simp only [chkX_nil, true_and]; rfl
theorem S0_bsl {init : List Value} {len : Nat} {pl : List (Nat × Nat)} {e : TypeId} : @SZ P (⟨none, .bsl init len pl e, xs, d, j, kp, []⟩ :: l) ⟨D⟩ ⟨s⟩ ⟨H⟩ ⟨K⟩ = @bindL (xfill init pl (xs.map (ev s))) ⟨fun c => @letV (.slice (some ⟨H.length, 0, none⟩) len len) ⟨fun v => @letH (H ++ [.cells c e none false]) ⟨fun H' => @SZ P l ⟨D⟩ ⟨s.put d v⟩ ⟨H'⟩ ⟨K⟩⟩⟩⟩ := by
  unfold SZ; rw [steps_bsl]; simp only [chkX_nil, true_and]; rfl
theorem S0_st {sz : Nat} : @SZ P (⟨none, .st sz, [a, b], d, j, kp, []⟩ :: l) ⟨D⟩ ⟨s⟩ ⟨H⟩ ⟨K⟩ = @bindP (xact (.st sz) H [ev s a, ev s b]) ⟨fun v H' => @SZ P l ⟨D⟩ ⟨s.put d v⟩ ⟨H'⟩ ⟨K⟩⟩ := by
  unfold SZ; rw [steps_st]; simp only [chkX_nil, true_and]; rfl
theorem S0_app {e : TypeId} {sz bytes : Nat} : @SZ P (⟨none, .app e sz bytes, [a, b], d, j, kp, []⟩ :: l) ⟨D⟩ ⟨s⟩ ⟨H⟩ ⟨K⟩ = @bindP (xact (.app e sz bytes) H [ev s a, ev s b]) ⟨fun v H' => @SZ P l ⟨D⟩ ⟨s.put d v⟩ ⟨H'⟩ ⟨K⟩⟩ := by
  unfold SZ; rw [steps_app]; simp only [chkX_nil, true_and]; rfl
theorem S0_appC {e : TypeId} {sz bytes c : Nat} {cs : List Nat} : @SZ P (⟨none, .app e sz bytes, [a, b], d, j, kp, c :: cs⟩ :: l) ⟨D⟩ ⟨s⟩ ⟨H⟩ ⟨K⟩ = @bindP (xact (.app e sz bytes) H [ev s a, ev s b]) ⟨fun v H' => chkX (c :: cs) D H' ∧ @SZ P l ⟨D⟩ ⟨s.put d v⟩ ⟨H'⟩ ⟨K⟩⟩ := steps_app
theorem S0_stC {sz c : Nat} {cs : List Nat} : @SZ P (⟨none, .st sz, [a, b], d, j, kp, c :: cs⟩ :: l) ⟨D⟩ ⟨s⟩ ⟨H⟩ ⟨K⟩ = @bindP (xact (.st sz) H [ev s a, ev s b]) ⟨fun v H' => chkX (c :: cs) D H' ∧ @SZ P l ⟨D⟩ ⟨s.put d v⟩ ⟨H'⟩ ⟨K⟩⟩ := steps_st
theorem chkX_D0 {c : List Nat} : chkX c [] H = True := by simp [chkX]
theorem chkX_D1 {c : List Nat} {j : Nat} {sz : Option Nat} {vs : List Value} {v : Value} : chkX c (⟨j, sz, vs, v⟩ :: D) H = ((j ∈ c → xload sz H vs = some v) ∧ chkX c D H) := by simp [chkX]
theorem S0_call {f : Operand} : @SZ P (⟨none, .call, f :: xs, d, j, kp, []⟩ :: l) ⟨D⟩ ⟨s⟩ ⟨H⟩ ⟨K⟩ = @callZ P (ev s f :: xs.map (ev s)) H ⟨fun v H' => @SZ P l ⟨D⟩ ⟨s.put d v⟩ ⟨H'⟩ ⟨K⟩⟩ := by
  unfold SZ callZ; rw [steps_call]; simp only [chkX_nil, true_and]
theorem S0_callC {f : Operand} {c : Nat} {cs : List Nat} : @SZ P (⟨none, .call, f :: xs, d, j, kp, c :: cs⟩ :: l) ⟨D⟩ ⟨s⟩ ⟨H⟩ ⟨K⟩ = @callZ P (ev s f :: xs.map (ev s)) H ⟨fun v H' => chkX (c :: cs) D H' ∧ @SZ P l ⟨D⟩ ⟨s.put d v⟩ ⟨H'⟩ ⟨K⟩⟩ := steps_call
theorem callZ_f {g : FuncId} {args : List Value} {R : Value → AH → Prop} : @callZ P (.func (.func g) #[] #[] :: args) H ⟨R⟩ = @FZ P g args H ⟨R⟩ := callX_f
theorem callZ_y {g : Nat} {args : List Value} {R : Value → AH → Prop} : @callZ P (.func (.yield g) #[] #[] :: args) H ⟨R⟩ = @YZ P g args H ⟨R⟩ := callX_y
theorem S0_bin {op : BinOp} {m : Nat} : @SZ P (⟨none, .bin op m, [a, b], d, j, kp, chk⟩ :: l) ⟨D⟩ ⟨s⟩ ⟨H⟩ ⟨K⟩ = @bindO (xbin op m (ev s a) (ev s b)) ⟨fun v => @SZ P l ⟨D⟩ ⟨s.put d v⟩ ⟨H⟩ ⟨K⟩⟩ := steps_bin
theorem S0_un {op : UnOp} : @SZ P (⟨none, .un op, [a], d, j, kp, chk⟩ :: l) ⟨D⟩ ⟨s⟩ ⟨H⟩ ⟨K⟩ = @bindO (eun op (ev s a)) ⟨fun v => @SZ P l ⟨D⟩ ⟨s.put d v⟩ ⟨H⟩ ⟨K⟩⟩ := steps_un
theorem S0_conv {k : IntKind} : @SZ P (⟨none, .conv k, [a], d, j, kp, chk⟩ :: l) ⟨D⟩ ⟨s⟩ ⟨H⟩ ⟨K⟩ = @bindO (xpure (.conv k) [ev s a]) ⟨fun v => @SZ P l ⟨D⟩ ⟨s.put d v⟩ ⟨H⟩ ⟨K⟩⟩ := steps_conv
theorem S0_ext {ix : Nat} : @SZ P (⟨none, .ext ix, [a], d, j, kp, chk⟩ :: l) ⟨D⟩ ⟨s⟩ ⟨H⟩ ⟨K⟩ = @bindO (xpure (.ext ix) [ev s a]) ⟨fun v => @SZ P l ⟨D⟩ ⟨s.put d v⟩ ⟨H⟩ ⟨K⟩⟩ := steps_ext
theorem S0_fld {off : Nat} : @SZ P (⟨none, .fld off, [a], d, j, kp, chk⟩ :: l) ⟨D⟩ ⟨s⟩ ⟨H⟩ ⟨K⟩ = @bindO (xpure (.fld off) [ev s a]) ⟨fun v => @SZ P l ⟨D⟩ ⟨s.put d v⟩ ⟨H⟩ ⟨K⟩⟩ := steps_fld
theorem S0_ixA {n sz : Nat} : @SZ P (⟨none, .ixA n sz, [a, b], d, j, kp, chk⟩ :: l) ⟨D⟩ ⟨s⟩ ⟨H⟩ ⟨K⟩ = @bindO (xpure (.ixA n sz) [ev s a, ev s b]) ⟨fun v => @SZ P l ⟨D⟩ ⟨s.put d v⟩ ⟨H⟩ ⟨K⟩⟩ := steps_ixA
theorem S0_ixS {sz : Nat} : @SZ P (⟨none, .ixS sz, [a, b], d, j, kp, chk⟩ :: l) ⟨D⟩ ⟨s⟩ ⟨H⟩ ⟨K⟩ = @bindO (xpure (.ixS sz) [ev s a, ev s b]) ⟨fun v => @SZ P l ⟨D⟩ ⟨s.put d v⟩ ⟨H⟩ ⟨K⟩⟩ := steps_ixS
theorem S0_slA {n sz : Nat} {lo hi : Bool} : @SZ P (⟨none, .slA n sz lo hi, xs, d, j, kp, chk⟩ :: l) ⟨D⟩ ⟨s⟩ ⟨H⟩ ⟨K⟩ = @bindO (xpure (.slA n sz lo hi) (xs.map (ev s))) ⟨fun v => @SZ P l ⟨D⟩ ⟨s.put d v⟩ ⟨H⟩ ⟨K⟩⟩ := steps_slA
theorem S0_slS {sz : Nat} {lo hi : Bool} : @SZ P (⟨none, .slS sz lo hi, xs, d, j, kp, chk⟩ :: l) ⟨D⟩ ⟨s⟩ ⟨H⟩ ⟨K⟩ = @bindO (xpure (.slS sz lo hi) (xs.map (ev s))) ⟨fun v => @SZ P l ⟨D⟩ ⟨s.put d v⟩ ⟨H⟩ ⟨K⟩⟩ := steps_slS
theorem S0_fn {g : FuncId} {nf nc : Nat} : @SZ P (⟨none, .fn g nf nc, xs, d, j, kp, chk⟩ :: l) ⟨D⟩ ⟨s⟩ ⟨H⟩ ⟨K⟩ = @bindO (xpure (.fn g nf nc) (xs.map (ev s))) ⟨fun v => @SZ P l ⟨D⟩ ⟨s.put d v⟩ ⟨H⟩ ⟨K⟩⟩ := steps_fn
theorem S0_lenS  : @SZ P (⟨none, .lenS, [a], d, j, kp, chk⟩ :: l) ⟨D⟩ ⟨s⟩ ⟨H⟩ ⟨K⟩ = @bindO (xpure .lenS [ev s a]) ⟨fun v => @SZ P l ⟨D⟩ ⟨s.put d v⟩ ⟨H⟩ ⟨K⟩⟩ := steps_lenS
theorem S0_lenT  : @SZ P (⟨none, .lenT, [a], d, j, kp, chk⟩ :: l) ⟨D⟩ ⟨s⟩ ⟨H⟩ ⟨K⟩ = @bindO (xpure .lenT [ev s a]) ⟨fun v => @SZ P l ⟨D⟩ ⟨s.put d v⟩ ⟨H⟩ ⟨K⟩⟩ := steps_lenT
theorem S0_min2  : @SZ P (⟨none, .min2, [a, b], d, j, kp, chk⟩ :: l) ⟨D⟩ ⟨s⟩ ⟨H⟩ ⟨K⟩ = @bindO (xpure .min2 [ev s a, ev s b]) ⟨fun v => @SZ P l ⟨D⟩ ⟨s.put d v⟩ ⟨H⟩ ⟨K⟩⟩ := steps_min2
theorem S0_max2  : @SZ P (⟨none, .max2, [a, b], d, j, kp, chk⟩ :: l) ⟨D⟩ ⟨s⟩ ⟨H⟩ ⟨K⟩ = @bindO (xpure .max2 [ev s a, ev s b]) ⟨fun v => @SZ P l ⟨D⟩ ⟨s.put d v⟩ ⟨H⟩ ⟨K⟩⟩ := steps_max2
theorem S0_prt {sz : Option Nat} {off : Nat} : @SZ P (⟨none, .prt sz off, [a], d, j, kp, chk⟩ :: l) ⟨D⟩ ⟨s⟩ ⟨H⟩ ⟨K⟩ = @bindO (xpure (.prt sz off) [ev s a]) ⟨fun v => @SZ P l ⟨D⟩ ⟨s.put d v⟩ ⟨H⟩ ⟨K⟩⟩ := steps_prt
theorem S0_ixV {len es : Nat} {sz : Option Nat} : @SZ P (⟨none, .ixV len es sz, [a, b], d, j, kp, chk⟩ :: l) ⟨D⟩ ⟨s⟩ ⟨H⟩ ⟨K⟩ = @bindO (xpure (.ixV len es sz) [ev s a, ev s b]) ⟨fun v => @SZ P l ⟨D⟩ ⟨s.put d v⟩ ⟨H⟩ ⟨K⟩⟩ := steps_ixV
end
theorem FN.of_compZ {P : Program} (hm : P.follows .mixedOrders = true) {f : FuncId} {xf : XF} (hf : compF P f = some xf) {args : List Value} {H : AH} {R : Value → AH → Prop} (hn : args.length ≤ xf.n)
    (h : @XZ P xf.n none xf.body ⟨⟨env0 args, []⟩⟩ ⟨H⟩ ⟨bodyX xf.res R⟩) : FN P f args H R := FN.of_comp hm hf hn h
theorem FZ.mono {P : Program} {g : FuncId} {args : List Value} {H : AH} {R R' : Value → AH → Prop} (h : FN P g args H R) (hR : ∀ v H', R v H' → R' v H') : @FZ P g args H ⟨R'⟩ := FN.mono h hR
theorem FZ.use {P : Program} {g : FuncId} {args : List Value} {H H' : AH} {v : Value} {R : Value → AH → Prop} (h : FN P g args H (fun v1 H1 => v1 = v ∧ H1 = H')) (hR : R v H') : @FZ P g args H ⟨R⟩ :=
  FN.mono h fun _ _ ⟨e1, e2⟩ => by rw [e1, e2]; exact hR
theorem LZ.nat {P : Program} {n : Nat} {ro : Option Nat} {c : XC} {s : St} {H : AH} {Q : AX → St → AH → Prop} (N : Nat) (I : Nat → St → AH → Prop) (h0 : I 0 s H)
    (hr : ∀ k s H, k < N → I k s H → @XZ P n ro c ⟨s⟩ ⟨H⟩ ⟨AX.then (I (k + 1)) Q⟩) (hN : ∀ s H, I N s H → @XZ P n ro c ⟨s⟩ ⟨H⟩ ⟨AX.then (fun _ _ => False) Q⟩) : @LZ P n ro c ⟨s⟩ ⟨H⟩ ⟨Q⟩ := loop_nat N I h0 hr hN
end Go.Sim

namespace Go.Sim
open Go
theorem hat_slice {σ : Nat → Option Nat} {b2 b o l c : Nat} (h : σ b2 = some b) : VR (hat σ) (.slice (some ⟨b2, o, none⟩) l c) (.slice (some ⟨b, o, none⟩) l c) := by
  have := VR.slice (i := hat σ) (a := ⟨b2, o, none⟩) (L := ⟨b, 0, 0, 0⟩) (l := l) (c := c) (by simp [hat, h]) rfl (.inl rfl)
  simpa using this
theorem madeL_zero (n : Nat) : madeL (nv 0) n = (List.replicate n 0).map nv := by
  unfold madeL madeCells
  refine List.ext_getElem (by simp) fun i h1 h2 => ?_
  simp [Value.cells, Nat.mod_one]
theorem xnew_makeN {e : TypeId} {bytes a : Nat} (h : bytes * a ≤ 281474976710656) (h2 : a ≤ 9223372036854775807) : xnew (.make (nv 0) 1 bytes e) [nv a, nv a] = some ((List.replicate a 0).map nv, e, fun b => .slice (some ⟨b, 0, none⟩) a a) := by
  simp only [xnew]
  rw [if_pos ⟨by omega, by omega, by omega, by omega⟩]
  simp only [Int.toNat_natCast, Nat.mul_one, madeL_zero]
end Go.Sim

namespace Go.Sim
open Go
theorem X_gen {P : Program} {n : Nat} {ro : Option Nat} {c : XC} {s : St} {H : AH} {Q : AX → St → AH → Prop} (I : St → AH → Prop) (h0 : I s H) (h : ∀ s H, I s H → X P n ro c s H Q) : X P n ro c s H Q := h s H h0
theorem parEnv_one {env : Nat → Value} {t0 : Tmp} {v : Value} {ds : List Deferred} (t : Tmp) : (⟨parEnv env [t0] [v], ds⟩ : St).env t = if t = t0 then v else env t := _root_.id rfl
theorem parEnv_at {env : Nat → Value} {t0 : Tmp} {v : Value} (t : Tmp) : parEnv env [t0] [v] t = if t = t0 then v else env t := _root_.id rfl
def ynB (l : Nat) (R : Value → AH → Prop) : AX → St → AH → Prop := fun x _ H3 => ∃ r3, H3[l]? = some (.loop r3) ∧
  R (.bool x.isN) (H3.set l (.loop { r3 with state := if x.isN then .ready else .done, pending := x.jump }))
def ynA (P : Program) (l n : Nat) (xb : XC) (R : Value → AH → Prop) : AX → St → AH → Prop := fun x s1 H1 => x = .normal ∧ ∃ r1, H1[l]? = some (.loop r1) ∧ r1.state = .ready ∧
  X P n (some l) xb s1 (H1.set l (.loop { r1 with state := .busy, pending := r1.pending })) (ynB l R)
theorem E_ynA {P : Program} {l n : Nat} {xb : XC} {R : Value → AH → Prop} {s : St} {H : AH} : EZ (ynA P l n xb R) .normal s H = ∃ r1, H[l]? = some (.loop r1) ∧ r1.state = .ready ∧
    @XZ P n (some l) xb ⟨s⟩ ⟨H.set l (.loop { r1 with state := .busy, pending := r1.pending })⟩ ⟨ynB l R⟩ := by
  simp [EZ, ynA, XZ]
theorem E_ynB {l : Nat} {R : Value → AH → Prop} {x : AX} {s : St} {H : AH} : EZ (ynB l R) x s H = ∃ r3, H[l]? = some (.loop r3) ∧
    R (.bool x.isN) (H.set l (.loop { r3 with state := if x.isN then .ready else .done, pending := x.jump })) := _root_.id rfl
theorem YN.introZ {P : Program} (hm : P.follows .mixedOrders = true) {l : Nat} {vs : List Value} {H : AH} {R : Value → AH → Prop} {r : ALoop} {xa xb : XC} (hl : H[l]? = some (.loop r)) (ha : comp P r.n r.assign = some xa) (hb : comp P r.n r.body = some xb)
    (hps : r.params.size = vs.length) (hpn : ∀ t ∈ r.params.toList, t < r.n)
    (h : @XZ P r.n (some l) xa ⟨⟨parEnv r.env r.params.toList vs, []⟩⟩ ⟨H⟩ ⟨ynA P l r.n xb R⟩) : YN P l vs H R :=
  YN.intro hm hl ha hb hps hpn h
theorem EZ_of {Q : AX → St → AH → Prop} {x : AX} {s : St} {H : AH} (h : EZ Q x s H) : Q x s H := h
theorem unwA_col {r : Nat} {ds : List Deferred} {H : AH} (h : H[r]? = some (.defs (some []))) : unwA (⟨.collected r, #[]⟩ :: ds) H = unwA ds (H.set r (.defs none)) := by
  simp [unwA, h]
end Go.Sim

namespace Go.Sim
open Go
def clo : Value → Bool
  | .tuple a => a.toList.all ground
  | v => ground v
theorem VR.of_clo {v : Value} (h : clo v = true) (i : Inj) : VR i v v := by
  unfold clo at h
  split at h
  · rename_i a
    have := VRs.tup (VRs.ground (i := i) h)
    simpa using this
  · exact VR.of_ground h i
theorem VRs.aggL {i : Inj} {l l' : List Value} (h : VRs i l l') : VR i (.agg l.toArray) (.agg l'.toArray) :=
  .agg (by simp [h.length]) (fun k h1 h2 => by simpa using h.at_ k (by simpa using h1) (by simpa using h2))
inductive KRes
  | val (v : Value)
  | row (l c : Nat) (x : AB)
  | fld (p e n c er : Nat) (x : AB)
def KRes.mk : KRes → Nat → Value
  | .val v, _ => v
  | .row l c _, b => .slice (some ⟨b, 0, none⟩) l c
  | .fld p e n c er _, b => .tuple [.agg [nv p, nv e, .slice (some ⟨b, 0, none⟩) n c].toArray, nv er].toArray
def KRes.hp : KRes → AH → AH
  | .val _, H => H
  | .row _ _ x, H => H ++ [x]
  | .fld _ _ _ _ _ x, H => H ++ [x]
def KnownOk (P : Program) (g : FuncId) (args : List Value) (r : KRes) : Prop := ∀ H, FN P g args H (fun v H' => v = r.mk H.length ∧ H' = r.hp H)
theorem known_val {P : Program} {g : FuncId} {args : List Value} {v : Value} {J : AH} (hg : args.all ground = true) (hv : clo v = true) (h : FN P g args [] (fun v1 H1 => v1 = v ∧ H1 = J)) (H : AH) : FN P g args H (fun v1 H' => v1 = v ∧ H' = H) := by
  obtain ⟨hc, v1, H1, ⟨rfl, rfl⟩, hs⟩ := h
  have h2 : FSim P g args [] v1 [] := hs.rename (fun _ => none) (fun b hb => by simp at hb) (fun b o _ ho => by cases ho) (fun b b' o h1 => by cases h1) (VR.of_clo hv _) (Nat.le_refl _) (fun b hb => by simp at hb)
  exact ⟨hc, v1, H ++ [], ⟨rfl, by simp⟩, h2.frame hg H (VR.of_clo hv _) rfl (fun k x hk => by simp at hk)⟩
theorem known_blk {P : Program} {g : FuncId} {args : List Value} {mk : Nat → Value} {x : AB} {J : AH} {k : Nat} (hg : args.all ground = true) (hmk : ∀ (σ : Nat → Option Nat) b2 b, σ b2 = some b → VR (hat σ) (mk b2) (mk b))
    (hx : ∀ σ, AR σ x x) (hJ : J[k]? = some x) (h : FN P g args [] (fun v1 H1 => v1 = mk k ∧ H1 = J)) (H : AH) : FN P g args H (fun v1 H' => v1 = mk H.length ∧ H' = H ++ [x]) := by
  have h1 : FN P g args [] (fun v H' => ∃ x1, H' = [] ++ [x1] ∧ v = mk 0 ∧ x1 = x) := FN.gc1 (R := fun v x1 => v = mk 0 ∧ x1 = x) (h.mono (by
    rintro _ _ ⟨rfl, rfl⟩
    exact ⟨_, k, mk 0, x, (List.nil_append _).symm, hJ, fun σ _ h => ⟨hmk σ 0 k (by simpa using h), hx σ⟩, rfl, rfl⟩))
  obtain ⟨hc, v1, H1, ⟨x1, rfl, rfl, rfl⟩, hs⟩ := h1
  refine ⟨hc, mk H.length, H ++ [x1], ⟨rfl, rfl⟩, hs.frame hg H (hmk _ _ _ (by simp)) rfl (fun k x hk => ?_)⟩
  cases k with
  | zero => simp at hk; subst hk; exact ⟨_, rfl, hx _⟩
  | succ k => simp at hk
theorem KRes.mk_row {l c : Nat} {x : AB} (σ : Nat → Option Nat) (b2 b : Nat) (h : σ b2 = some b) : VR (hat σ) ((KRes.row l c x).mk b2) ((KRes.row l c x).mk b) := hat_slice h
theorem KRes.mk_fld {p e n c er : Nat} {x : AB} (σ : Nat → Option Nat) (b2 b : Nat) (h : σ b2 = some b) : VR (hat σ) ((KRes.fld p e n c er x).mk b2) ((KRes.fld p e n c er x).mk b) :=
  VRs.tup (.cons (VRs.aggL (.cons (.int _ _) (.cons (.int _ _) (.cons (hat_slice h) .nil)))) (.cons (.int _ _) .nil))
def blkOf : Value → Nat
  | .slice (some a) _ _ => a.block
  | .tuple a => match a.toList with
    | .agg c :: _ => match c.toList with
      | [_, _, .slice (some a) _ _] => a.block
      | _ => 0
    | _ => 0
  | _ => 0
def eqVL : List Value → List Value → Bool
  | [], [] => true
  | a :: l, b :: m => eqV a b && eqVL l m
  | _, _ => false
theorem eqVL_eq : ∀ {a b : List Value}, eqVL a b = true → a = b
  | [], [], _ => rfl
  | a :: l, b :: m, h => by
    simp only [eqVL, Bool.and_eq_true] at h
    rw [eqV_eq h.1, eqVL_eq h.2]
  | [], _ :: _, h => by simp [eqVL] at h
  | _ :: _, [], h => by simp [eqVL] at h
def eqW : Value → Value → Bool
  | .tuple a, .tuple b => eqVL a.toList b.toList
  | a, b => eqV a b
theorem eqW_eq {a b : Value} (h : eqW a b = true) : a = b := by
  unfold eqW at h
  split at h
  · have := eqVL_eq h
    congr 1
    exact Array.ext' this
  · exact eqV_eq h
def eqB : Option AB → AB → Bool
  | some (.cells c e o r), .cells c' e' o' r' => eqL c c' && e == e' && o == o' && r == r' && c'.all ground
  | _, _ => false
theorem eqB_eq {a : Option AB} {x : AB} (h : eqB a x = true) : a = some x ∧ ∀ σ, AR σ x x := by
  unfold eqB at h
  split at h
  · simp only [Bool.and_eq_true, beq_iff_eq] at h
    obtain ⟨⟨⟨⟨h1, rfl⟩, rfl⟩, rfl⟩, h2⟩ := h
    rw [eqL_eq h1]
    exact ⟨rfl, fun σ => .cells _ _ _ (VRs.ground h2)⟩
  · cases h
def kChk (r : Option (Value × AH)) (kr : KRes) : Bool := match r with
  | none => false
  | some (v, J) => match kr with
    | .val w => eqW v w && clo w
    | .row l c x => eqW v ((KRes.row l c x).mk (blkOf v)) && eqB J[blkOf v]? x
    | .fld p e n c er x => eqW v ((KRes.fld p e n c er x).mk (blkOf v)) && eqB J[blkOf v]? x
end Go.Sim

namespace Go.Sim
open Go
theorem u8_of_wf {n : Int} (h : (Lit.int .u8 n).wf = true) : ∃ k : Nat, n = (k : Int) ∧ k < 256 := by
  simp [Lit.wf, IntKind.min, IntKind.max, IntKind.signed, IntKind.bits] at h
  exact ⟨n.toNat, by omega, by omega⟩
end Go.Sim

set_option maxRecDepth 100000
namespace Go.Sim
open Go
theorem stPre : (type_of% @X0_skip) ∧ (type_of% @X0_exit) ∧ (type_of% @X0_ret) ∧ (type_of% @X0_seq) ∧ (type_of% @X0_cond) ∧ (type_of% @X0_block) ∧ (type_of% @X0_loop) ∧ (type_of% @X0_reg) ∧ (type_of% @E_then_normal) ∧ (type_of% @E_then_exit) ∧ (type_of% @E_then_ret) ∧ (type_of% @E_inBlock_normal) ∧ (type_of% @E_inBlock_exit) ∧ (type_of% @E_inBlock_ret) ∧ (type_of% @E_normal) ∧ (type_of% @E_ret) ∧ (type_of% @S0_mov) ∧ (type_of% @S0_pick) ∧ (type_of% @S0_bin) ∧ (type_of% @S0_un) ∧ (type_of% @S0_conv) ∧ (type_of% @S0_ext) ∧ (type_of% @S0_fld) ∧ (type_of% @S0_ixA) ∧ (type_of% @S0_ixS) ∧ (type_of% @S0_slA) ∧ (type_of% @S0_slS) ∧ (type_of% @S0_fn) ∧ (type_of% @S0_lenA) ∧ (type_of% @S0_lenS) ∧ (type_of% @S0_lenT) ∧ (type_of% @S0_min2) ∧ (type_of% @S0_max2) ∧ (type_of% @S0_bld) ∧ (type_of% @S0_prt) ∧ (type_of% @S0_ixV) ∧ (type_of% @S0_ldF) ∧ (type_of% @S0_ldT) ∧ (type_of% @S0_new) ∧ (type_of% @S0_box) ∧ (type_of% @S0_make) ∧ (type_of% @S0_bsl) ∧ (type_of% @S0_st) ∧ (type_of% @S0_app) ∧ (type_of% @S0_appC) ∧ (type_of% @S0_stC) ∧ (type_of% @S0_call) ∧ (type_of% @S0_callC) ∧ (type_of% @S0_guardT) ∧ (type_of% @S0_guardF) ∧ (type_of% @S0_nil) := ⟨@X0_skip, @X0_exit, @X0_ret, @X0_seq, @X0_cond, @X0_block, @X0_loop, @X0_reg, @E_then_normal, @E_then_exit, @E_then_ret, @E_inBlock_normal, @E_inBlock_exit, @E_inBlock_ret, @E_normal, @E_ret, @S0_mov, @S0_pick, @S0_bin, @S0_un, @S0_conv, @S0_ext, @S0_fld, @S0_ixA, @S0_ixS, @S0_slA, @S0_slS, @S0_fn, @S0_lenA, @S0_lenS, @S0_lenT, @S0_min2, @S0_max2, @S0_bld, @S0_prt, @S0_ixV, @S0_ldF, @S0_ldT, @S0_new, @S0_box, @S0_make, @S0_bsl, @S0_st, @S0_app, @S0_appC, @S0_stC, @S0_call, @S0_callC, @S0_guardT, @S0_guardF, @S0_nil⟩
theorem stOwn : (type_of% @callZ_f) ∧ (type_of% @callZ_y) ∧ (type_of% @chkX_nil) ∧ (type_of% @chkX_D0) ∧ (type_of% @chkX_D1) ∧ (type_of% @asB_bool) ∧ (type_of% @asNB_bool) ∧ (type_of% @bindO_some) ∧ (type_of% @bindP_some) ∧ (type_of% @bindN_some) ∧ (type_of% @bindU_some) ∧ (type_of% @bindL_some) ∧ (type_of% @letV_eq) ∧ (type_of% @letH_eq) ∧ (type_of% @condK_bool) ∧ (type_of% @guardK_true) ∧ (type_of% @guardK_false) ∧ (type_of% @pickK_true) ∧ (type_of% @pickK_false) ∧ (type_of% @xbin_eqlB) ∧ (type_of% @xbin_neqB) ∧ (type_of% @eun_not) ∧ (type_of% @eun_neg) ∧ (type_of% @xp_conv') ∧ (type_of% @xp_ext') ∧ (type_of% @xp_ext'') ∧ (type_of% @xp_fld') ∧ (type_of% @xp_lenS') ∧ (type_of% @xp_lenT') ∧ (type_of% @xload_ptr) ∧ (type_of% @xact_st) ∧ (type_of% @loadB_nv) ∧ (type_of% @loadB_c0) ∧ (type_of% @loadB_c1) ∧ (type_of% @loadB_c2) ∧ (type_of% @loadB_c3) ∧ (type_of% @loadB_cs) ∧ (type_of% @loadB_all) ∧ (type_of% @stB_nv) ∧ (type_of% @stB_intL) ∧ (type_of% @stB_bool) ∧ (type_of% @stB_slice) ∧ (type_of% @stB_all) ∧ (type_of% @get_new) ∧ (type_of% @get_new0) ∧ (type_of% @set_new) ∧ (type_of% @set_new0) ∧ (type_of% @cellsL_agg) ∧ (type_of% @cellsL_int) ∧ (type_of% @cellsL_bool) ∧ (type_of% @cellsL_slice) ∧ (type_of% @ev_tmp) ∧ (type_of% @ev_const) ∧ (type_of% @ev_func) ∧ (type_of% @put_env) ∧ (type_of% @put_none) ∧ (type_of% @put_dsS) ∧ (type_of% @env0_env) ∧ (type_of% @env0_at) ∧ (type_of% @unwA_nil) ∧ (type_of% @xress_one) ∧ (type_of% @xress_two) ∧ (type_of% @tup2_some) ∧ (type_of% @xres_cell) ∧ (type_of% @xres_tmp) := ⟨@callZ_f, @callZ_y, @chkX_nil, @chkX_D0, @chkX_D1, @asB_bool, @asNB_bool, @bindO_some, @bindP_some, @bindN_some, @bindU_some, @bindL_some, @letV_eq, @letH_eq, @condK_bool, @guardK_true, @guardK_false, @pickK_true, @pickK_false, @xbin_eqlB, @xbin_neqB, @eun_not, @eun_neg, @xp_conv', @xp_ext', @xp_ext'', @xp_fld', @xp_lenS', @xp_lenT', @xload_ptr, @xact_st, @loadB_nv, @loadB_c0, @loadB_c1, @loadB_c2, @loadB_c3, @loadB_cs, @loadB_all, @stB_nv, @stB_intL, @stB_bool, @stB_slice, @stB_all, @get_new, @get_new0, @set_new, @set_new0, @cellsL_agg, @cellsL_int, @cellsL_bool, @cellsL_slice, @ev_tmp, @ev_const, @ev_func, @put_env, @put_none, @put_dsS, @env0_env, @env0_at, @unwA_nil, @xress_one, @xress_two, @tup2_some, @xres_cell, @xres_tmp⟩
theorem stNat : (type_of% @xbin_addN) ∧ (type_of% @xbin_subN) ∧ (type_of% @xbin_mulN) ∧ (type_of% @xbin_quoN) ∧ (type_of% @xbin_remN) ∧ (type_of% @xbin_eqlN) ∧ (type_of% @xbin_neqN) ∧ (type_of% @xbin_lssN) ∧ (type_of% @xbin_leqN) ∧ (type_of% @xbin_gtrN) ∧ (type_of% @xbin_geqN) ∧ (type_of% @xp_ixAN) ∧ (type_of% @xp_ixSN) ∧ (type_of% @xp_convN) ∧ (type_of% @xp_min2N) ∧ (type_of% @xp_max2N) := ⟨@xbin_addN, @xbin_subN, @xbin_mulN, @xbin_quoN, @xbin_remN, @xbin_eqlN, @xbin_neqN, @xbin_lssN, @xbin_leqN, @xbin_gtrN, @xbin_geqN, @xp_ixAN, @xp_ixSN, @xp_convN, @xp_min2N, @xp_max2N⟩
theorem stList : (type_of% @List.mem_cons.{0}) ∧ (type_of% @List.not_mem_nil.{0}) ∧ (type_of% @List.map_cons.{0,0}) ∧ (type_of% @List.map_nil.{0,0}) ∧ (type_of% @List.getD_cons_zero.{0}) ∧ (type_of% @List.getD_cons_succ.{0}) ∧ (type_of% @List.getElem?_cons_zero.{0}) ∧ (type_of% @List.getElem?_cons_succ.{0}) ∧ (type_of% @List.set_cons_zero.{0}) ∧ (type_of% @List.set_cons_succ.{0}) ∧ (type_of% @List.append_assoc.{0}) ∧ (type_of% @List.cons_append.{0}) ∧ (type_of% @List.nil_append.{0}) ∧ (type_of% @List.length_append.{0}) ∧ (type_of% @List.length_cons.{0}) ∧ (type_of% @List.length_nil.{0}) := ⟨@List.mem_cons.{0}, @List.not_mem_nil.{0}, @List.map_cons.{0,0}, @List.map_nil.{0,0}, @List.getD_cons_zero.{0}, @List.getD_cons_succ.{0}, @List.getElem?_cons_zero.{0}, @List.getElem?_cons_succ.{0}, @List.set_cons_zero.{0}, @List.set_cons_succ.{0}, @List.append_assoc.{0}, @List.cons_append.{0}, @List.nil_append.{0}, @List.length_append.{0}, @List.length_cons.{0}, @List.length_nil.{0}⟩
theorem stProp : (type_of% @or_false) ∧ (type_of% @true_or) ∧ (type_of% @or_true) ∧ (type_of% @Nat.zero_add) ∧ (type_of% @Nat.add_zero) ∧ (type_of% @Nat.mul_one) ∧ (type_of% @decide_eq_true_eq) ∧ (type_of% @decide_eq_false_iff_not) ∧ (type_of% @Bool.not_eq_true') ∧ (type_of% @Bool.false_eq_true) ∧ (type_of% @Bool.true_eq_false) ∧ (type_of% @Bool.not_true) ∧ (type_of% @Bool.not_false) ∧ (type_of% @decide_true) ∧ (type_of% @decide_false) ∧ (type_of% @Nat.lt_irrefl) ∧ (type_of% @Nat.zero_le) ∧ (type_of% @not_true_eq_false) ∧ (type_of% @true_and) ∧ (type_of% @and_true) ∧ (type_of% @and_self) ∧ (type_of% @not_false_eq_true) := ⟨@or_false, @true_or, @or_true, @Nat.zero_add, @Nat.add_zero, @Nat.mul_one, @decide_eq_true_eq, @decide_eq_false_iff_not, @Bool.not_eq_true', @Bool.false_eq_true, @Bool.true_eq_false, @Bool.not_true, @Bool.not_false, @decide_true, @decide_false, @Nat.lt_irrefl, @Nat.zero_le, @not_true_eq_false, @true_and, @and_true, @and_self, @not_false_eq_true⟩
end Go.Sim

namespace Go.Sim
open Go
def dstIn (p : Nat → Bool) : Option Tmp → Bool
  | none => true
  | some d => p d
def XC.within (p : Nat → Bool) : XC → Bool
  | .skip => true
  | .exit _ => true
  | .ret => true
  | .seq a b => a.within p && b.within p
  | .cond _ a b => a.within p && b.within p
  | .block _ a => a.within p
  | .loop a => a.within p
  | .reg l => l.all fun i => dstIn p i.dst
  | .range _ _ _ _ => false
def Agree (p : Nat → Bool) (s s' : St) : Prop := s'.ds = s.ds ∧ ∀ t, p t = false → s'.env t = s.env t
theorem Agree.refl (p : Nat → Bool) (s : St) : Agree p s s := ⟨rfl, fun _ _ => rfl⟩
theorem Agree.trans {p : Nat → Bool} {a b c : St} (h : Agree p a b) (k : Agree p b c) : Agree p a c := ⟨k.1.trans h.1, fun t ht => (k.2 t ht).trans (h.2 t ht)⟩
theorem Agree.put {p : Nat → Bool} {s : St} {d : Option Tmp} {v : Value} (h : dstIn p d = true) : Agree p s (s.put d v) := by
  cases d with
  | none => exact .refl p s
  | some d =>
    refine ⟨rfl, fun t ht => ?_⟩
    rw [put_env, if_neg]
    rintro rfl
    rw [show p t = true from h] at ht; cases ht
theorem callX_mono {P : Program} {vs : List Value} {H : AH} {R R' : Value → AH → Prop} (h : callX P vs H R) (hr : ∀ v H, R v H → R' v H) : callX P vs H R' := by
  unfold callX at h ⊢
  split at h
  · exact h.mono hr
  · exact ⟨h.1, h.2.1, h.2.2.mono hr⟩
  · exact h.elim
theorem steps_frame {P : Program} {p : Nat → Bool} : ∀ (l : List XS) (D : List PL) (s0 s : St) (H : AH) (K : St → AH → Prop), (l.all fun i => dstIn p i.dst) = true → Agree p s0 s → stepsX P l D s H K → stepsX P l D s H (fun s' H' => K s' H' ∧ Agree p s0 s')
  | [], D, s0, s, H, K, _, ha, h => ⟨h, ha⟩
  | i :: l, D, s0, s, H, K, hp, ha, h => by
    simp only [List.all_cons, Bool.and_eq_true] at hp
    have hput := fun v => ha.trans (Agree.put (p := p) (s := s) (v := v) hp.1)
    unfold stepsX at h ⊢
    split at h
    · rename_i hw
      rw [if_pos hw]
      split at h
      · obtain ⟨v, h1, h2⟩ := h
        exact ⟨v, h1, steps_frame l _ _ _ _ K hp.2 (hput v) h2⟩
      · obtain ⟨sz, v, h0, h1, h2⟩ := h
        exact ⟨sz, v, h0, h1, steps_frame l _ _ _ _ K hp.2 (hput v) h2⟩
      · obtain ⟨c, e, mk, h0, h1, h2⟩ := h
        exact ⟨c, e, mk, h0, h1, steps_frame l _ _ _ _ K hp.2 (hput _) h2⟩
      · obtain ⟨v, H', h0, h1, h2⟩ := h
        exact ⟨v, H', h0, h1, steps_frame l _ _ _ _ K hp.2 (hput v) h2⟩
      · exact callX_mono h fun v H' h => ⟨h.1, steps_frame l _ _ _ _ K hp.2 (hput v) h.2⟩
    · rename_i hw
      rw [if_neg hw]
      exact steps_frame l _ _ _ _ K hp.2 (hput _) h
theorem X.frame {P : Program} {n : Nat} {ro : Option Nat} {p : Nat → Bool} (c : XC) : ∀ {s0 s : St} {H : AH} {Q : AX → St → AH → Prop}, c.within p = true → Agree p s0 s → X P n ro c s H Q → X P n ro c s H (fun x s' H' => Q x s' H' ∧ Agree p s0 s') := by
  induction c with
  | skip => intro s0 s H Q _ ha h; exact ⟨h, ha⟩
  | exit id => intro s0 s H Q _ ha h; exact ⟨h, ha⟩
  | ret => intro s0 s H Q _ ha h; exact ⟨h, ha⟩
  | seq a b iha ihb =>
    intro s0 s H Q hw ha h
    simp only [XC.within, Bool.and_eq_true] at hw
    refine X.mono a (iha hw.1 ha h) fun x s1 H1 hx => ?_
    cases x with
    | normal => exact ihb hw.2 hx.2 hx.1
    | exit id => exact hx
    | ret => exact hx
  | cond c a b iha ihb =>
    intro s0 s H Q hw ha h
    simp only [XC.within, Bool.and_eq_true] at hw
    obtain ⟨t, h1, h2⟩ := h
    refine ⟨t, h1, ?_⟩
    cases t with
    | true => simp only [if_true] at h2 ⊢; exact iha hw.1 ha h2
    | false => exact ihb hw.2 ha h2
  | block id a ih =>
    intro s0 s H Q hw ha h
    refine X.mono a (ih hw ha h) fun x s1 H1 hx => ?_
    cases x with
    | normal => exact hx
    | exit i =>
      obtain ⟨hx, hy⟩ := hx
      simp only [AX.inBlock] at hx ⊢
      split
      · rename_i e; rw [if_pos e] at hx; exact ⟨hx, hy⟩
      · rename_i e; rw [if_neg e] at hx; exact ⟨hx, hy⟩
    | ret => exact hx
  | loop a ih =>
    intro s0 s H Q hw ha h
    obtain ⟨I, μ, h0, hr⟩ := h
    refine ⟨fun s H => I s H ∧ Agree p s0 s, μ, ⟨h0, ha⟩, fun s H hI => X.mono a (ih hw hI.2 (hr s H hI.1)) fun x s1 H1 hx => ?_⟩
    cases x with
    | normal => exact ⟨⟨hx.1.1, hx.2⟩, hx.1.2⟩
    | exit i => exact hx
    | ret => exact hx
  | reg l =>
    intro s0 s H Q hw ha h
    exact steps_frame l _ _ _ _ _ hw ha h
  | range f ps xa xb _ _ => intro s0 s H Q hw; cases hw
inductive XD where
  | skip
  | exit (id : Nat)
  | ret
  | seq (a b : XD)
  | join (live : List Tmp) (mods : Nat) (a b : XD)
  | cond (c : Operand) (a b : XD)
  | block (id : Nat) (a : XD)
  | loop (live : List Tmp) (mods : Nat) (a : XD)
  | reg (l : List XS)
def XD.er : XD → XC
  | .skip => .skip
  | .exit id => .exit id
  | .ret => .ret
  | .seq a b => .seq a.er b.er
  | .join _ _ a b => .seq a.er b.er
  | .cond c a b => .cond c a.er b.er
  | .block id a => .block id a.er
  | .loop _ _ a => .loop a.er
  | .reg l => .reg l
def XD.ok : XD → Bool
  | .seq a b => a.ok && b.ok
  | .join _ m a b => a.er.within m.testBit && a.ok && b.ok
  | .cond _ a b => a.ok && b.ok
  | .block _ a => a.ok
  | .loop _ m a => a.er.within m.testBit && a.ok
  | _ => true
def look : List Tmp → List Value → (Nat → Value) → Nat → Value
  | t :: ts, v :: vs, e, x => bif Nat.beq x t then v else look ts vs e x
  | _, _, e, x => e x
def havoc (m : Nat) (ρ e : Nat → Value) : Nat → Value := fun t => bif m.testBit t then ρ t else e t
theorem look_self (e0 e : Nat → Value) : ∀ (l : List Tmp) (x : Nat), (e0 x = e x) → look l (l.map e) e0 x = e x
  | [], x, h => h
  | t :: l, x, h => by
    simp only [List.map_cons, look]
    by_cases hx : x = t
    · subst hx; simp
    · rw [show Nat.beq x t = false by rw [beq_iff]; simp [hx]]
      exact look_self e0 e l x h
theorem look_eq {m : Nat} {s s' : St} (h : Agree m.testBit s s') (live : List Tmp) : (⟨look live (live.map s'.env) (havoc m s'.env s.env), s.ds⟩ : St) = s' := by
  have e : look live (live.map s'.env) (havoc m s'.env s.env) = s'.env := by
    funext x
    refine look_self _ _ _ _ ?_
    unfold havoc
    cases hb : m.testBit x with
    | true => rfl
    | false => exact (h.2 x hb).symm
  rw [e, ← h.1]
def allN : (n : Nat) → (List Value → Prop) → Prop
  | 0, p => p []
  | n + 1, p => ∀ x, allN n (fun l => p (x :: l))
theorem allN_of {p : List Value → Prop} : ∀ n, (∀ l, p l) → allN n p
  | 0, h => h []
  | n + 1, h => fun x => allN_of n fun l => h (x :: l)
theorem of_allN : ∀ (n : Nat) {p : List Value → Prop}, allN n p → ∀ l, l.length = n → p l
  | 0, p, h, [], _ => h
  | n + 1, p, h, x :: l, hl => of_allN n (p := fun l => p (x :: l)) (h x) l (by simpa using hl)
def un0 (vs : List Value) (p : Prop) : Prop := match vs with
  | [] => p
  | _ => False
theorem un0_of {vs : List Value} {p : Prop} (h : un0 vs p) : vs = [] ∧ p := by
  unfold un0 at h; split at h
  · exact ⟨rfl, h⟩
  · exact h.elim
def un1 (vs : List Value) (f : Value → Prop) : Prop := match vs with
  | [a] => f a
  | _ => False
def un2 (vs : List Value) (f : Value → Value → Prop) : Prop := match vs with
  | [a, b] => f a b
  | _ => False
def un3 (vs : List Value) (f : Value → Value → Value → Prop) : Prop := match vs with
  | [a, b, c] => f a b c
  | _ => False
theorem un1_of {vs : List Value} {f : Value → Prop} (h : un1 vs f) : ∃ a, vs = [a] ∧ f a := by
  unfold un1 at h; split at h
  · exact ⟨_, rfl, h⟩
  · exact h.elim
theorem un2_of {vs : List Value} {f : Value → Value → Prop} (h : un2 vs f) : ∃ a b, vs = [a, b] ∧ f a b := by
  unfold un2 at h; split at h
  · exact ⟨_, _, rfl, h⟩
  · exact h.elim
theorem un3_of {vs : List Value} {f : Value → Value → Value → Prop} (h : un3 vs f) : ∃ a b c, vs = [a, b, c] ∧ f a b c := by
  unfold un3 at h; split at h
  · exact ⟨_, _, _, rfl, h⟩
  · exact h.elim
def chkY (c : List Nat) (D : List PL) (H : AH) (p : Prop) : Prop := match c with
  | [] => p
  | _ => chkX c D H ∧ p
theorem chkY_of {c : List Nat} {D : List PL} {H : AH} {p : Prop} (h : chkY c D H p) : chkX c D H ∧ p := by
  cases c with
  | nil => exact ⟨by simp [chkX], h⟩
  | cons x l => exact h
def op2 (P : Program) (i : XS) (D : List PL) (vs : List Value) (H : AH) (k : Value → List PL → AH → Prop) : Prop :=
  match i.x with
  | .mov => un1 vs fun a => k a D H
  | .pick => un3 vs fun c a b => ∃ t, c = .bool t ∧ k (if t then a else b) D H
  | .lenA n => un1 vs fun _ => k (nv n) D H
  | .bin op m => un2 vs fun a b => ∃ v, xbin op m a b = some v ∧ k v D H
  | .un op => un1 vs fun a => ∃ v, eun op a = some v ∧ k v D H
  | .bld init pl => ∃ v, xfill init pl vs = some v ∧ k (.agg v.toArray) D H
  | .ld sz => match i.keep with
    | true => ∃ v, xload sz H vs = some v ∧ k v (⟨i.j, sz, vs, v⟩ :: D) H
    | false => ∃ v, xload sz H vs = some v ∧ k v D H
  | .new c e => un0 vs <| (fun H' => chkY i.chk D H' (k (.pointer (some ⟨H.length, 0, none⟩)) D H')) (H ++ [.cells c e none false])
  | .box e => un1 vs fun a => (fun H' => chkY i.chk D H' (k (.pointer (some ⟨H.length, 0, none⟩)) D H')) (H ++ [.cells (cellsL a) e none false])
  | .make z sz bytes e => ∃ c e' mk, xnew (.make z sz bytes e) vs = some (c, e', mk) ∧ (fun H' => chkY i.chk D H' (k (mk H.length) D H')) (H ++ [.cells c e' none false])
  | .bsl init len pl e => ∃ c, xfill init pl vs = some c ∧ (fun H' => chkY i.chk D H' (k (.slice (some ⟨H.length, 0, none⟩) len len) D H')) (H ++ [.cells c e none false])
  | .st sz => ∃ v H', xact (.st sz) H vs = some (v, H') ∧ chkY i.chk D H' (k v D H')
  | .app e sz bytes => ∃ v H', xact (.app e sz bytes) H vs = some (v, H') ∧ chkY i.chk D H' (k v D H')
  | .cpy sz => ∃ v H', xact (.cpy sz) H vs = some (v, H') ∧ chkY i.chk D H' (k v D H')
  | .apz z sz bytes e => ∃ v H', xact (.apz z sz bytes e) H vs = some (v, H') ∧ chkY i.chk D H' (k v D H')
  | .call => callX P vs H fun v H' => chkY i.chk D H' (k v D H')
  | x => ∃ v, xpure x vs = some v ∧ k v D H
def guardJ (b : Bool) (f : (Value → AH → Prop) → Prop) (H : AH) [k : Kb (Value → AH → Prop)] : Prop := ∀ J : Value → AH → Prop, (∀ v H', k.f v H' → J v H') → if b = true then f J else J undef H
def dl (i : XS) (D : List PL) (b : Bool) (vs : List Value) (v : Value) : List PL := match i.x with
  | .ld sz => match i.keep with
    | true => bif b then ⟨i.j, sz, vs, v⟩ :: D else D
    | false => D
  | _ => D
def evE (e : Nat → Value) : Operand → Value
  | .tmp t => e t
  | .const v => v
  | .func f => .func (.func f) #[] #[]
  | .global _ => undef
theorem evE_eq (s : St) : ev s = evE s.env := by funext x; cases x <;> rfl
def putE (e : Nat → Value) (d : Option Tmp) (v : Value) : Nat → Value := match d with
  | none => e
  | some d => fun t => bif Nat.beq t d then v else e t
theorem putE_eq (s : St) (d : Option Tmp) (v : Value) : s.put d v = ⟨putE s.env d v, s.ds⟩ := by
  cases d with
  | none => rfl
  | some d =>
    have : (s.put (some d) v).env = putE s.env (some d) v := by
      funext t
      rw [put_env]
      unfold putE
      simp only [beq_iff]
      by_cases h : t = d <;> simp [h]
    rw [← this]; rfl
def steps2 (P : Program) : List XS → List PL → (Nat → Value) → AH → ((Nat → Value) → AH → Prop) → Prop
  | [], _, s, H, K => K s H
  | i :: l, D, s, H, K =>
    match i.g with
    | none => op2 P i D (i.xs.map (evE s)) H fun v D' H' => steps2 P l D' (putE s i.dst v) H' K
    | some (t, w) => ∀ J : Value → AH → Prop, (∀ v H', steps2 P l (dl i D (bif w then asB (s t) else asNB (s t)) (i.xs.map (evE s)) v) (putE s i.dst v) H' K → J v H') →
        if (bif w then asB (s t) else asNB (s t)) = true then op2 P i D (i.xs.map (evE s)) H fun v _ H' => J v H' else J undef H
def op1 (P : Program) (i : XS) (D : List PL) (vs : List Value) (H : AH) (k : Value → List PL → AH → Prop) : Prop :=
  match i.x.kind with
  | .pur => ∃ v, xpure i.x vs = some v ∧ k v D H
  | .load => ∃ sz v, i.x = .ld sz ∧ xload sz H vs = some v ∧ k v (if i.keep then ⟨i.j, sz, vs, v⟩ :: D else D) H
  | .new => ∃ c e mk, xnew i.x vs = some (c, e, mk) ∧ chkX i.chk D (H ++ [.cells c e none false]) ∧ k (mk H.length) D (H ++ [.cells c e none false])
  | .act => ∃ v H', xact i.x H vs = some (v, H') ∧ chkX i.chk D H' ∧ k v D H'
  | .call => callX P vs H fun v H' => chkX i.chk D H' ∧ k v D H'
theorem stepsX_op1 {P : Program} {i : XS} {l : List XS} {D : List PL} {s : St} {H : AH} {K : St → AH → Prop} : stepsX P (i :: l) D s H K = if wantX i.g s then op1 P i D (i.xs.map (ev s)) H (fun v D' H' => stepsX P l D' (s.put i.dst v) H' K) else stepsX P l D (s.put i.dst undef) H K := by
  rw [stepsX]; rfl
theorem op2_op1 {P : Program} {i : XS} {D : List PL} {vs : List Value} {H : AH} {k k' : Value → List PL → AH → Prop} (hk : ∀ v D' H, D' = dl i D true vs v → k v D' H → k' v D' H) (h : op2 P i D vs H k) : op1 P i D vs H k' := by
  obtain ⟨g, x, xs, dst, j, keep, chk⟩ := i
  cases x
  case mov => obtain ⟨a, rfl, h⟩ := un1_of h; exact ⟨a, rfl, hk _ _ _ rfl h⟩
  case pick =>
    obtain ⟨c, a, b, e1, h1⟩ := un3_of h
    obtain ⟨t, e2, h2⟩ := h1
    subst e2
    subst e1
    exact ⟨_, rfl, hk _ _ _ rfl h2⟩
  case lenA n => obtain ⟨a, rfl, h⟩ := un1_of h; exact ⟨_, rfl, hk _ _ _ rfl h⟩
  case bin op m => obtain ⟨a, b, rfl, v, h1, h⟩ := un2_of h; exact ⟨v, h1, hk _ _ _ rfl h⟩
  case un op => obtain ⟨a, rfl, v, h1, h⟩ := un1_of h; exact ⟨v, h1, hk _ _ _ rfl h⟩
  case bld init pl =>
    obtain ⟨v, h1, h⟩ := h
    refine ⟨_, ?_, hk _ _ _ rfl h⟩
    unfold xpure
    split
    all_goals first
      | (simp only [h1]; rfl)
      | (rename_i h2; cases h2; simp only [h1]; rfl)
      | (rename_i h2 _; cases h2; done)
      | skip
    all_goals simp_all
  case ld sz =>
    cases keep with
    | true =>
      obtain ⟨v, h1, h⟩ := h
      exact ⟨sz, v, rfl, h1, hk _ _ _ rfl h⟩
    | false =>
      obtain ⟨v, h1, h⟩ := h
      exact ⟨sz, v, rfl, h1, hk _ _ _ rfl h⟩
  case new c e =>
    obtain ⟨rfl, h⟩ := un0_of h
    obtain ⟨h1, h2⟩ := chkY_of h
    exact ⟨c, e, mkPtr, rfl, h1, hk _ _ _ rfl h2⟩
  case box e =>
    obtain ⟨a, rfl, h⟩ := un1_of h
    obtain ⟨h1, h2⟩ := chkY_of h
    exact ⟨_, e, mkPtr, rfl, h1, hk _ _ _ rfl h2⟩
  case make z sz bytes e =>
    obtain ⟨c, e', mk, h0, h⟩ := h
    obtain ⟨h1, h2⟩ := chkY_of h
    exact ⟨c, e', mk, h0, h1, hk _ _ _ rfl h2⟩
  case bsl init len pl e =>
    obtain ⟨c, h0, h⟩ := h
    obtain ⟨h1, h2⟩ := chkY_of h
    refine ⟨c, e, mkSl len len, ?_, h1, hk _ _ _ rfl h2⟩
    unfold xnew
    split
    all_goals simp_all
  case st sz =>
    obtain ⟨v, H', h0, h⟩ := h
    obtain ⟨h1, h2⟩ := chkY_of h
    exact ⟨v, H', h0, h1, hk _ _ _ rfl h2⟩
  case app e sz bytes =>
    obtain ⟨v, H', h0, h⟩ := h
    obtain ⟨h1, h2⟩ := chkY_of h
    exact ⟨v, H', h0, h1, hk _ _ _ rfl h2⟩
  case cpy sz =>
    obtain ⟨v, H', h0, h⟩ := h
    obtain ⟨h1, h2⟩ := chkY_of h
    exact ⟨v, H', h0, h1, hk _ _ _ rfl h2⟩
  case apz z sz bytes e =>
    obtain ⟨v, H', h0, h⟩ := h
    obtain ⟨h1, h2⟩ := chkY_of h
    exact ⟨v, H', h0, h1, hk _ _ _ rfl h2⟩
  case call => exact callX_mono h fun v H' h => let ⟨h1, h2⟩ := chkY_of h; ⟨h1, hk _ _ _ rfl h2⟩
  all_goals (obtain ⟨v, h1, h⟩ := h; exact ⟨v, h1, hk _ _ _ rfl h⟩)
theorem dl_false (i : XS) (D : List PL) (vs : List Value) (v : Value) : dl i D false vs v = D := by
  unfold dl
  split
  · cases i.keep <;> rfl
  · rfl
theorem steps2_sound {P : Program} : ∀ (l : List XS) (D : List PL) (s : St) (H : AH) (K : St → AH → Prop), steps2 P l D s.env H (fun e H' => K ⟨e, s.ds⟩ H') → stepsX P l D s H K
  | [], _, _, _, _, h => h
  | i :: l, D, s, H, K, h => by
    have ih : ∀ v D' H', steps2 P l D' (putE s.env i.dst v) H' (fun e H' => K ⟨e, s.ds⟩ H') → stepsX P l D' (s.put i.dst v) H' K := by
      intro v D' H' h
      rw [putE_eq]
      exact steps2_sound l D' ⟨putE s.env i.dst v, s.ds⟩ H' K h
    rw [stepsX_op1, evE_eq]
    unfold steps2 at h
    split at h
    · rename_i hg
      rw [hg, if_pos (show wantX none s = true from rfl)]
      exact op2_op1 (fun v D' H' _ h => ih _ _ _ h) h
    · rename_i t w hg
      have hw : wantX i.g s = (bif w then asB (s.env t) else asNB (s.env t)) := by
        rw [hg]
        cases w
        · exact wantX_false
        · exact wantX_true
      rw [← hw] at h
      have h' := h _ (fun _ _ h => h)
      split
      · rename_i hwt
        rw [if_pos hwt] at h'
        rw [hwt] at h'
        exact op2_op1 (fun v D' H' e h => by rw [e]; exact ih _ _ _ h) h'
      · rename_i hwt
        rw [if_neg hwt] at h'
        rw [show wantX i.g s = false by simpa using hwt, dl_false] at h'
        exact ih _ _ _ h'
def X2 (P : Program) : XD → St → AH → (AX → St → AH → Prop) → Prop
  | .skip, s, H, Q => Q .normal s H
  | .exit id, s, H, Q => Q (.exit id) s H
  | .ret, s, H, Q => Q .ret s H
  | .seq a b, s, H, Q => X2 P a s H (AX.then (fun s H => X2 P b s H Q) Q)
  | .join live m a b, s, H, Q => ∀ J : List Value → AH → Prop, allN live.length (fun vs => ∀ H, ((ρ : Nat → Value) → X2 P b ⟨look live vs (havoc m ρ s.env), s.ds⟩ H Q) → J vs H) →
      X2 P a s H (AX.then (fun s' H' => J (live.map s'.env) H') Q)
  | .cond c a b, s, H, Q => ∃ t, evE s.env c = .bool t ∧ if t = true then X2 P a s H Q else X2 P b s H Q
  | .block id a, s, H, Q => X2 P a s H (AX.inBlock id Q)
  | .loop live m a, s, H, Q => ∃ (I : List Value → AH → Prop) (μ : List Value → AH → Nat), I (live.map s.env) H ∧
      allN live.length (fun vs => ∀ (ρ : Nat → Value) H, I vs H → ∀ J : List Value → AH → Prop, (∀ vs' H', I vs' H' ∧ μ vs' H' < μ vs H → J vs' H') →
        X2 P a ⟨look live vs (havoc m ρ s.env), s.ds⟩ H (AX.then (fun s' H' => J (live.map s'.env) H') Q))
  | .reg l, s, H, Q => steps2 P l [] s.env H (fun e H' => Q .normal ⟨e, s.ds⟩ H')
theorem X2_sound {P : Program} {n : Nat} {ro : Option Nat} (c : XD) : ∀ {s : St} {H : AH} {Q : AX → St → AH → Prop}, c.ok = true → X2 P c s H Q → X P n ro c.er s H Q := by
  induction c with
  | skip => intro s H Q _ h; exact h
  | exit id => intro s H Q _ h; exact h
  | ret => intro s H Q _ h; exact h
  | seq a b iha ihb =>
    intro s H Q ho h
    simp only [XD.ok, Bool.and_eq_true] at ho
    refine X.mono a.er (iha ho.1 h) fun x s1 H1 hx => ?_
    cases x with
    | normal => exact ihb ho.2 hx
    | exit id => exact hx
    | ret => exact hx
  | join live m a b iha ihb =>
    intro s H Q ho h
    simp only [XD.ok, Bool.and_eq_true] at ho
    have h1 := h (fun vs H => (ρ : Nat → Value) → X2 P b ⟨look live vs (havoc m ρ s.env), s.ds⟩ H Q) (allN_of _ fun vs H h => h)
    refine X.mono a.er (X.frame a.er ho.1.1 (Agree.refl _ s) (iha ho.1.2 h1)) fun x s1 H1 hx => ?_
    obtain ⟨hx, ha⟩ := hx
    cases x with
    | normal =>
      have h2 := hx s1.env
      rw [look_eq ha] at h2
      exact ihb ho.2 h2
    | exit id => exact hx
    | ret => exact hx
  | cond c a b iha ihb =>
    intro s H Q ho h
    simp only [XD.ok, Bool.and_eq_true] at ho
    obtain ⟨t, h1, h2⟩ := h
    rw [← evE_eq] at h1
    refine ⟨t, h1, ?_⟩
    cases t with
    | true => simp only [if_true] at h2 ⊢; exact iha ho.1 h2
    | false => exact ihb ho.2 h2
  | block id a ih => intro s H Q ho h; exact ih ho h
  | loop live m a ih =>
    intro s H Q ho h
    simp only [XD.ok, Bool.and_eq_true] at ho
    obtain ⟨I, μ, h0, hr⟩ := h
    refine ⟨fun s' H' => I (live.map s'.env) H' ∧ Agree m.testBit s s', fun s' H' => μ (live.map s'.env) H', ⟨h0, .refl _ s⟩, fun s1 H1 hI => ?_⟩
    have h1 := of_allN _ hr (live.map s1.env) (by simp) s1.env H1 hI.1 (fun vs' H' => I vs' H' ∧ μ vs' H' < μ (live.map s1.env) H1) (fun vs' H' h => h)
    rw [look_eq hI.2] at h1
    refine X.mono a.er (X.frame a.er ho.1 hI.2 (ih ho.2 h1)) fun x s2 H2 hx => ?_
    cases x with
    | normal => exact ⟨⟨hx.1.1, hx.2⟩, hx.1.2⟩
    | exit id => exact hx.1
    | ret => exact hx.1
  | reg l => intro s H Q _ h; exact steps2_sound l _ _ _ _ h
def resY (H : AH) (env : Nat → Value) : List XRes → (List Value → Prop) → Prop
  | [], k => k []
  | .tmp t :: l, k => resY H env l fun vs => k (env t :: vs)
  | .cell a sz :: l, k => ∃ v, xload sz H [env a] = some v ∧ resY H env l fun vs => k (v :: vs)
def tupY : List Value → Value
  | [v] => v
  | vs => .tuple vs.toArray
def bodyY (res : List XRes) (R : Value → AH → Prop) : AX → St → AH → Prop
  | .exit _, _, _ => False
  | _, s, H => resY H s.env res fun vs => R (tupY vs) H
theorem resY_of {H : AH} {s : St} : ∀ (l : List XRes) {k : List Value → Prop}, resY H s.env l k → ∃ vs, l.mapM (xres H s) = some vs ∧ k vs
  | [], k, h => ⟨[], rfl, h⟩
  | .tmp t :: l, k, h => by
    obtain ⟨vs, h1, h2⟩ := resY_of l h
    exact ⟨_, by simp [h1, xres], h2⟩
  | .cell a sz :: l, k, h => by
    obtain ⟨v, h0, h⟩ := h
    obtain ⟨vs, h1, h2⟩ := resY_of l h
    exact ⟨_, by simp [h1, xres, h0], h2⟩
theorem XD.within_er {p : Nat → Bool} (hp : ∀ t, p t = true) (c : XD) : c.er.within p = true := by
  induction c with
  | seq a b iha ihb => simp [XD.er, XC.within, iha, ihb]
  | join _ _ a b iha ihb => simp [XD.er, XC.within, iha, ihb]
  | cond _ a b iha ihb => simp [XD.er, XC.within, iha, ihb]
  | block _ a ih => simpa [XD.er, XC.within] using ih
  | loop _ _ a ih => simpa [XD.er, XC.within] using ih
  | reg l =>
    simp only [XD.er, XC.within, List.all_eq_true]
    intro i _
    cases i.dst <;> simp [dstIn, hp]
  | _ => rfl
theorem FN.of_XD {P : Program} (hm : P.follows .mixedOrders = true) {f : FuncId} {n : Nat} {xd : XD} {res : List XRes} (hf : compF P f = some ⟨n, res, xd.er⟩) (ho : xd.ok = true) {args : List Value} {H : AH} {R : Value → AH → Prop} (hn : args.length ≤ n)
    (h : X2 P xd ⟨env0 args, []⟩ H (bodyY res R)) : FN P f args H R := by
  refine FN.of_comp hm hf hn (X.mono xd.er (X.frame (p := fun _ => true) xd.er (XD.within_er (fun _ => rfl) xd) (Agree.refl _ _) (X2_sound xd ho h)) fun x s H' hx => ?_)
  obtain ⟨hx, ha⟩ := hx
  have key : resY H' s.env res (fun vs => R (tupY vs) H') → ∃ H'' v, unwA s.ds H' = some H'' ∧ xress H'' s res = some v ∧ R v H'' := by
    intro h
    obtain ⟨vs, h1, h2⟩ := resY_of res h
    refine ⟨H', tupY vs, by rw [ha.1]; rfl, ?_, h2⟩
    unfold xress
    rw [h1]
    rcases vs with _ | ⟨a, _ | ⟨b, l⟩⟩ <;> rfl
  cases x with
  | exit id => exact hx
  | normal => exact key hx
  | ret => exact key hx
end Go.Sim

namespace Go.Sim
open Go
def yS (j d : Nat) (x : XO) (xs : List Operand) : XS := ⟨none, x, xs, some d, j, false, []⟩
def yN (j : Nat) (x : XO) (xs : List Operand) : XS := ⟨none, x, xs, none, j, false, []⟩
def yG (g : Option (Tmp × Bool)) (j : Nat) (d : Option Tmp) (x : XO) (xs : List Operand) : XS := ⟨g, x, xs, d, j, false, []⟩
def oT (t : Nat) : Operand := .tmp t
def oC (v : Value) : Operand := .const v
def oF (g : Nat) : Operand := .func g
def letD (D : List PL) [k : Kb (List PL → Prop)] : Prop := k.f D
theorem letD_eq {D : List PL} {k : List PL → Prop} : @letD D ⟨k⟩ = k D := _root_.id rfl
theorem guardJ_false {f : (Value → AH → Prop) → Prop} {H : AH} {r : Value → AH → Prop} : @guardJ false f H ⟨r⟩ = r undef H := by
  apply propext
  constructor
  · intro h; exact h r fun _ _ h => h
  · intro h J hJ; exact hJ _ _ h
theorem guardJ_monoEq {f : (Value → AH → Prop) → Prop} {H : AH} {r : Value → AH → Prop} (hm : ∀ J, (∀ v H, r v H → J v H) → f r → f J) : @guardJ true f H ⟨r⟩ = f r := by
  apply propext
  constructor
  · intro h; exact h r fun _ _ h => h
  · intro h J hJ; exact hm J hJ h
theorem guardJ_V {a : Value} {H H' : AH} {r : Value → AH → Prop} : @guardJ true (fun J => J a H') H ⟨r⟩ = r a H' := guardJ_monoEq fun _ hJ h => hJ _ _ h
theorem guardJ_O {o : Option Value} {H H' : AH} {r : Value → AH → Prop} : @guardJ true (fun J => @bindO o ⟨fun v => J v H'⟩) H ⟨r⟩ = @bindO o ⟨fun v => r v H'⟩ := guardJ_monoEq fun _ hJ ⟨v, e, h⟩ => ⟨v, e, hJ _ _ h⟩
theorem guardJ_P {o : Option (Value × AH)} {H : AH} {r : Value → AH → Prop} : @guardJ true (fun J => @bindP o ⟨fun v H' => J v H'⟩) H ⟨r⟩ = @bindP o ⟨fun v H' => r v H'⟩ := guardJ_monoEq fun _ hJ ⟨v, H1, e, h⟩ => ⟨v, H1, e, hJ _ _ h⟩
theorem guardJ_K {c a b : Value} {H H' : AH} {r : Value → AH → Prop} : @guardJ true (fun J => @pickK c a b ⟨fun v => J v H'⟩) H ⟨r⟩ = @pickK c a b ⟨fun v => r v H'⟩ := guardJ_monoEq fun _ hJ ⟨v, e, h⟩ => ⟨v, e, hJ _ _ h⟩
theorem guardJ_H {a : Value} {H H1 : AH} {r : Value → AH → Prop} : @guardJ true (fun J => @letH H1 ⟨fun H' => J a H'⟩) H ⟨r⟩ = @letH H1 ⟨fun H' => r a H'⟩ := guardJ_monoEq fun _ hJ h => hJ _ _ h
theorem guardJ_LB {o : Option (List Value)} {F : List Value → Value} {H H' : AH} {r : Value → AH → Prop} : @guardJ true (fun J => @bindL o ⟨fun v => J (F v) H'⟩) H ⟨r⟩ = @bindL o ⟨fun v => r (F v) H'⟩ := guardJ_monoEq fun _ hJ ⟨v, e, h⟩ => ⟨v, e, hJ _ _ h⟩
theorem guardJ_LH {o : Option (List Value)} {F : List Value → AH} {a : Value} {H : AH} {r : Value → AH → Prop} : @guardJ true (fun J => @bindL o ⟨fun c => @letH (F c) ⟨fun H' => J a H'⟩⟩) H ⟨r⟩ = @bindL o ⟨fun c => @letH (F c) ⟨fun H' => r a H'⟩⟩ := guardJ_monoEq fun _ hJ ⟨v, e, h⟩ => ⟨v, e, hJ _ _ h⟩
theorem guardJ_C {P : Program} {vs : List Value} {H H' : AH} {r : Value → AH → Prop} : @guardJ true (fun J => @callZ P vs H' ⟨fun v H1 => J v H1⟩) H ⟨r⟩ = @callZ P vs H' ⟨fun v H1 => r v H1⟩ := guardJ_monoEq fun _ hJ h => callX_mono h fun _ _ h => hJ _ _ h
theorem guardJ_CC {P : Program} {vs : List Value} {H H' : AH} {p : AH → Prop} {r : Value → AH → Prop} : @guardJ true (fun J => @callZ P vs H' ⟨fun v H1 => p H1 ∧ J v H1⟩) H ⟨r⟩ = @callZ P vs H' ⟨fun v H1 => p H1 ∧ r v H1⟩ := guardJ_monoEq fun _ hJ h => callX_mono h fun _ _ h => ⟨h.1, hJ _ _ h.2⟩
theorem guardJ_F {P : Program} {g : FuncId} {vs : List Value} {H H' : AH} {r : Value → AH → Prop} : @guardJ true (fun J => @FZ P g vs H' ⟨fun v H1 => J v H1⟩) H ⟨r⟩ = @FZ P g vs H' ⟨fun v H1 => r v H1⟩ := guardJ_monoEq fun _ hJ h => FN.mono h fun _ _ h => hJ _ _ h
theorem guardJ_FF {P : Program} {g : FuncId} {vs : List Value} {H H' : AH} {p : AH → Prop} {r : Value → AH → Prop} : @guardJ true (fun J => @FZ P g vs H' ⟨fun v H1 => p H1 ∧ J v H1⟩) H ⟨r⟩ = @FZ P g vs H' ⟨fun v H1 => p H1 ∧ r v H1⟩ := guardJ_monoEq fun _ hJ h => FN.mono h fun _ _ h => ⟨h.1, hJ _ _ h.2⟩
open Classical in
theorem loopL_ind {init : List Value} {H : AH} {body : List Value → AH → (List Value → AH → Prop) → Prop} (I : Nat → List Value → AH → Prop) (m : Nat) (h0 : I m init H)
    (hr : ∀ m vs H, I m vs H → ∀ J : List Value → AH → Prop, (∀ vs' H', (∃ m', m' < m ∧ I m' vs' H') → J vs' H') → body vs H J) :
    ∃ (I : List Value → AH → Prop) (μ : List Value → AH → Nat), I init H ∧ ∀ vs H, I vs H → ∀ J : List Value → AH → Prop, (∀ vs' H', I vs' H' ∧ μ vs' H' < μ vs H → J vs' H') → body vs H J := by
  refine ⟨fun s H => ∃ m, I m s H, fun s H => if h : ∃ m, I m s H then Classical.choose (least (fun m => I m s H) (Classical.choose h) (Classical.choose_spec h)) else 0, ⟨m, h0⟩, fun s H hI J hJ => ?_⟩
  have hl := Classical.choose_spec (least (fun m => I m s H) (Classical.choose hI) (Classical.choose_spec hI))
  refine hr _ s H hl.1 J ?_
  rintro s' H' ⟨m', h1, h2⟩
  refine hJ s' H' ⟨⟨m', h2⟩, ?_⟩
  have hI' : ∃ m, I m s' H' := ⟨m', h2⟩
  have hl' := Classical.choose_spec (least (fun m => I m s' H') (Classical.choose hI') (Classical.choose_spec hI'))
  simp only [dif_pos hI, dif_pos hI']
  refine Nat.lt_of_le_of_lt ?_ h1
  refine Nat.le_of_not_lt fun hlt => ?_
  exact hl'.2 m' hlt h2
def joinV0 (first : (AH → Prop) → Prop) [k : Kb (AH → Prop)] : Prop := ∀ J : List Value → AH → Prop, (∀ H, ((Nat → Value) → k.f H) → J [] H) → first (fun H => J [] H)
theorem joinV0_const {H : AH} {r : AH → Prop} : @joinV0 (fun J => J H) ⟨r⟩ = r H := by
  apply propext
  constructor
  · intro h; exact h (fun vs H => r H) (fun H h => h (fun _ => undef))
  · intro h J hJ; exact hJ _ (fun _ => h)
theorem joinV0.intro {first : (AH → Prop) → Prop} {r : AH → Prop} (h : ∀ J : AH → Prop, (∀ H, r H → J H) → first J) : @joinV0 first ⟨r⟩ := by
  intro J hJ
  exact h _ fun H h => hJ H fun _ => h
def loopV0 (H : AH) [k : Kb (AH → (AH → Prop) → Prop)] : Prop := ∃ (I : List Value → AH → Prop) (μ : List Value → AH → Nat), I [] H ∧ ∀ (_ρ : Nat → Value) H, I [] H → ∀ J : List Value → AH → Prop, (∀ vs' H', I vs' H' ∧ μ vs' H' < μ [] H → J vs' H') → k.f H (fun H => J [] H)
theorem loopV0.ind {H : AH} {body : AH → (AH → Prop) → Prop} (I : Nat → AH → Prop) (m : Nat) (h0 : I m H) (hr : ∀ (m : Nat) (H : AH), I m H → ∀ J : AH → Prop, (∀ (H' : AH), (∃ m', m' < m ∧ I m' H') → J H') → body H J) : @loopV0 H ⟨body⟩ := by
  obtain ⟨I', μ, q0, qr⟩ := loopL_ind (init := []) (H := H) (body := fun vs H J => body H (fun H => J [] H)) (fun m vs H => I m H) m h0
    (fun m vs H hI J hJ => hr m H hI _ fun H' h => hJ [] H' h)
  exact ⟨I', μ, q0, fun _ H hI J hJ => qr [] H hI J hJ⟩
theorem loopV0.nat {H : AH} {body : AH → (AH → Prop) → Prop} (N : Nat) (I : Nat → AH → Prop) (h0 : I 0 H) (hr : ∀ (k : Nat) (H : AH), k < N → I k H → ∀ J : AH → Prop, (∀ (H' : AH), I (k + 1) H' → J H') → body H J)
    (hN : ∀ (H : AH), I N H → ∀ J : AH → Prop, body H J) : @loopV0 H ⟨body⟩ := by
  refine loopV0.ind (fun m H => ∃ k, k + m = N ∧ I k H) N ⟨0, by omega, h0⟩ fun m H ⟨k, hk, hI⟩ J hJ => ?_
  cases m with
  | zero =>
    have : k = N := by omega
    subst this
    exact hN H hI J
  | succ m => exact hr k H (by omega) hI J fun H' h => hJ H' ⟨m, by omega, k + 1, by omega, h⟩
def joinV1 (first : (Value → AH → Prop) → Prop) [k : Kb (Value → AH → Prop)] : Prop := ∀ J : List Value → AH → Prop, (∀ x0 : Value, ∀ H, ((Nat → Value) → k.f x0 H) → J [x0] H) → first (fun x0 H => J [x0] H)
theorem joinV1_const {a0 : Value} {H : AH} {r : Value → AH → Prop} : @joinV1 (fun J => J a0 H) ⟨r⟩ = r a0 H := by
  apply propext
  constructor
  · intro h; exact h (fun vs H => r (vs.getD 0 undef) H) (fun x0 H h => h (fun _ => undef))
  · intro h J hJ; exact hJ _ _ (fun _ => h)
theorem joinV1.intro {first : (Value → AH → Prop) → Prop} {r : Value → AH → Prop} (h : ∀ J : Value → AH → Prop, (∀ x0 : Value, ∀ H, r x0 H → J x0 H) → first J) : @joinV1 first ⟨r⟩ := by
  intro J hJ
  exact h _ fun x0 H h => hJ x0 H fun _ => h
def loopV1 (a0 : Value) (H : AH) [k : Kb (Value → AH → (Value → AH → Prop) → Prop)] : Prop := ∃ (I : List Value → AH → Prop) (μ : List Value → AH → Nat), I [a0] H ∧ ∀ x0 : Value, ∀ (_ρ : Nat → Value) H, I [x0] H → ∀ J : List Value → AH → Prop, (∀ vs' H', I vs' H' ∧ μ vs' H' < μ [x0] H → J vs' H') → k.f x0 H (fun x0 H => J [x0] H)
theorem loopV1.ind {a0 : Value} {H : AH} {body : Value → AH → (Value → AH → Prop) → Prop} (I : Nat → Value → AH → Prop) (m : Nat) (h0 : I m a0 H) (hr : ∀ (m : Nat) (x0 : Value) (H : AH), I m x0 H → ∀ J : Value → AH → Prop, (∀ (y0 : Value) (H' : AH), (∃ m', m' < m ∧ I m' y0 H') → J y0 H') → body x0 H J) : @loopV1 a0 H ⟨body⟩ := by
  obtain ⟨I', μ, q0, qr⟩ := loopL_ind (init := [a0]) (H := H) (body := fun vs H J => body (vs.getD 0 undef) H (fun x0 H => J [x0] H)) (fun m vs H => I m (vs.getD 0 undef) H) m h0
    (fun m vs H hI J hJ => hr m _ H hI _ fun y0 H' h => hJ [y0] H' h)
  exact ⟨I', μ, q0, fun x0 _ H hI J hJ => qr [x0] H hI J hJ⟩
theorem loopV1.nat {a0 : Value} {H : AH} {body : Value → AH → (Value → AH → Prop) → Prop} (N : Nat) (I : Nat → Value → AH → Prop) (h0 : I 0 a0 H) (hr : ∀ (k : Nat) (x0 : Value) (H : AH), k < N → I k x0 H → ∀ J : Value → AH → Prop, (∀ (y0 : Value) (H' : AH), I (k + 1) y0 H' → J y0 H') → body x0 H J)
    (hN : ∀ (x0 : Value) (H : AH), I N x0 H → ∀ J : Value → AH → Prop, body x0 H J) : @loopV1 a0 H ⟨body⟩ := by
  refine loopV1.ind (fun m x0 H => ∃ k, k + m = N ∧ I k x0 H) N ⟨0, by omega, h0⟩ fun m x0 H ⟨k, hk, hI⟩ J hJ => ?_
  cases m with
  | zero =>
    have : k = N := by omega
    subst this
    exact hN x0 H hI J
  | succ m => exact hr k x0 H (by omega) hI J fun y0 H' h => hJ y0 H' ⟨m, by omega, k + 1, by omega, h⟩
def joinV2 (first : (Value → Value → AH → Prop) → Prop) [k : Kb (Value → Value → AH → Prop)] : Prop := ∀ J : List Value → AH → Prop, (∀ x0 x1 : Value, ∀ H, ((Nat → Value) → k.f x0 x1 H) → J [x0, x1] H) → first (fun x0 x1 H => J [x0, x1] H)
theorem joinV2_const {a0 a1 : Value} {H : AH} {r : Value → Value → AH → Prop} : @joinV2 (fun J => J a0 a1 H) ⟨r⟩ = r a0 a1 H := by
  apply propext
  constructor
  · intro h; exact h (fun vs H => r (vs.getD 0 undef) (vs.getD 1 undef) H) (fun x0 x1 H h => h (fun _ => undef))
  · intro h J hJ; exact hJ _ _ _ (fun _ => h)
def loopV2 (a0 a1 : Value) (H : AH) [k : Kb (Value → Value → AH → (Value → Value → AH → Prop) → Prop)] : Prop := ∃ (I : List Value → AH → Prop) (μ : List Value → AH → Nat), I [a0, a1] H ∧ ∀ x0 x1 : Value, ∀ (_ρ : Nat → Value) H, I [x0, x1] H → ∀ J : List Value → AH → Prop, (∀ vs' H', I vs' H' ∧ μ vs' H' < μ [x0, x1] H → J vs' H') → k.f x0 x1 H (fun x0 x1 H => J [x0, x1] H)
theorem loopV2.ind {a0 a1 : Value} {H : AH} {body : Value → Value → AH → (Value → Value → AH → Prop) → Prop} (I : Nat → Value → Value → AH → Prop) (m : Nat) (h0 : I m a0 a1 H) (hr : ∀ (m : Nat) (x0 x1 : Value) (H : AH), I m x0 x1 H → ∀ J : Value → Value → AH → Prop, (∀ (y0 y1 : Value) (H' : AH), (∃ m', m' < m ∧ I m' y0 y1 H') → J y0 y1 H') → body x0 x1 H J) : @loopV2 a0 a1 H ⟨body⟩ := by
  obtain ⟨I', μ, q0, qr⟩ := loopL_ind (init := [a0, a1]) (H := H) (body := fun vs H J => body (vs.getD 0 undef) (vs.getD 1 undef) H (fun x0 x1 H => J [x0, x1] H)) (fun m vs H => I m (vs.getD 0 undef) (vs.getD 1 undef) H) m h0
    (fun m vs H hI J hJ => hr m _ _ H hI _ fun y0 y1 H' h => hJ [y0, y1] H' h)
  exact ⟨I', μ, q0, fun x0 x1 _ H hI J hJ => qr [x0, x1] H hI J hJ⟩
theorem loopV2.nat {a0 a1 : Value} {H : AH} {body : Value → Value → AH → (Value → Value → AH → Prop) → Prop} (N : Nat) (I : Nat → Value → Value → AH → Prop) (h0 : I 0 a0 a1 H) (hr : ∀ (k : Nat) (x0 x1 : Value) (H : AH), k < N → I k x0 x1 H → ∀ J : Value → Value → AH → Prop, (∀ (y0 y1 : Value) (H' : AH), I (k + 1) y0 y1 H' → J y0 y1 H') → body x0 x1 H J)
    (hN : ∀ (x0 x1 : Value) (H : AH), I N x0 x1 H → ∀ J : Value → Value → AH → Prop, body x0 x1 H J) : @loopV2 a0 a1 H ⟨body⟩ := by
  refine loopV2.ind (fun m x0 x1 H => ∃ k, k + m = N ∧ I k x0 x1 H) N ⟨0, by omega, h0⟩ fun m x0 x1 H ⟨k, hk, hI⟩ J hJ => ?_
  cases m with
  | zero =>
    have : k = N := by omega
    subst this
    exact hN x0 x1 H hI J
  | succ m => exact hr k x0 x1 H (by omega) hI J fun y0 y1 H' h => hJ y0 y1 H' ⟨m, by omega, k + 1, by omega, h⟩
def joinV3 (first : (Value → Value → Value → AH → Prop) → Prop) [k : Kb (Value → Value → Value → AH → Prop)] : Prop := ∀ J : List Value → AH → Prop, (∀ x0 x1 x2 : Value, ∀ H, ((Nat → Value) → k.f x0 x1 x2 H) → J [x0, x1, x2] H) → first (fun x0 x1 x2 H => J [x0, x1, x2] H)
theorem joinV3_const {a0 a1 a2 : Value} {H : AH} {r : Value → Value → Value → AH → Prop} : @joinV3 (fun J => J a0 a1 a2 H) ⟨r⟩ = r a0 a1 a2 H := by
  apply propext
  constructor
  · intro h; exact h (fun vs H => r (vs.getD 0 undef) (vs.getD 1 undef) (vs.getD 2 undef) H) (fun x0 x1 x2 H h => h (fun _ => undef))
  · intro h J hJ; exact hJ _ _ _ _ (fun _ => h)
def joinV4 (first : (Value → Value → Value → Value → AH → Prop) → Prop) [k : Kb (Value → Value → Value → Value → AH → Prop)] : Prop := ∀ J : List Value → AH → Prop, (∀ x0 x1 x2 x3 : Value, ∀ H, ((Nat → Value) → k.f x0 x1 x2 x3 H) → J [x0, x1, x2, x3] H) → first (fun x0 x1 x2 x3 H => J [x0, x1, x2, x3] H)
theorem joinV4_const {a0 a1 a2 a3 : Value} {H : AH} {r : Value → Value → Value → Value → AH → Prop} : @joinV4 (fun J => J a0 a1 a2 a3 H) ⟨r⟩ = r a0 a1 a2 a3 H := by
  apply propext
  constructor
  · intro h; exact h (fun vs H => r (vs.getD 0 undef) (vs.getD 1 undef) (vs.getD 2 undef) (vs.getD 3 undef) H) (fun x0 x1 x2 x3 H h => h (fun _ => undef))
  · intro h J hJ; exact hJ _ _ _ _ _ (fun _ => h)
def joinV5 (first : (Value → Value → Value → Value → Value → AH → Prop) → Prop) [k : Kb (Value → Value → Value → Value → Value → AH → Prop)] : Prop := ∀ J : List Value → AH → Prop, (∀ x0 x1 x2 x3 x4 : Value, ∀ H, ((Nat → Value) → k.f x0 x1 x2 x3 x4 H) → J [x0, x1, x2, x3, x4] H) → first (fun x0 x1 x2 x3 x4 H => J [x0, x1, x2, x3, x4] H)
theorem joinV5_const {a0 a1 a2 a3 a4 : Value} {H : AH} {r : Value → Value → Value → Value → Value → AH → Prop} : @joinV5 (fun J => J a0 a1 a2 a3 a4 H) ⟨r⟩ = r a0 a1 a2 a3 a4 H := by
  apply propext
  constructor
  · intro h; exact h (fun vs H => r (vs.getD 0 undef) (vs.getD 1 undef) (vs.getD 2 undef) (vs.getD 3 undef) (vs.getD 4 undef) H) (fun x0 x1 x2 x3 x4 H h => h (fun _ => undef))
  · intro h J hJ; exact hJ _ _ _ _ _ _ (fun _ => h)
def joinV6 (first : (Value → Value → Value → Value → Value → Value → AH → Prop) → Prop) [k : Kb (Value → Value → Value → Value → Value → Value → AH → Prop)] : Prop := ∀ J : List Value → AH → Prop, (∀ x0 x1 x2 x3 x4 x5 : Value, ∀ H, ((Nat → Value) → k.f x0 x1 x2 x3 x4 x5 H) → J [x0, x1, x2, x3, x4, x5] H) → first (fun x0 x1 x2 x3 x4 x5 H => J [x0, x1, x2, x3, x4, x5] H)
theorem joinV6_const {a0 a1 a2 a3 a4 a5 : Value} {H : AH} {r : Value → Value → Value → Value → Value → Value → AH → Prop} : @joinV6 (fun J => J a0 a1 a2 a3 a4 a5 H) ⟨r⟩ = r a0 a1 a2 a3 a4 a5 H := by
  apply propext
  constructor
  · intro h; exact h (fun vs H => r (vs.getD 0 undef) (vs.getD 1 undef) (vs.getD 2 undef) (vs.getD 3 undef) (vs.getD 4 undef) (vs.getD 5 undef) H) (fun x0 x1 x2 x3 x4 x5 H h => h (fun _ => undef))
  · intro h J hJ; exact hJ _ _ _ _ _ _ _ (fun _ => h)
def joinV7 (first : (Value → Value → Value → Value → Value → Value → Value → AH → Prop) → Prop) [k : Kb (Value → Value → Value → Value → Value → Value → Value → AH → Prop)] : Prop := ∀ J : List Value → AH → Prop, (∀ x0 x1 x2 x3 x4 x5 x6 : Value, ∀ H, ((Nat → Value) → k.f x0 x1 x2 x3 x4 x5 x6 H) → J [x0, x1, x2, x3, x4, x5, x6] H) → first (fun x0 x1 x2 x3 x4 x5 x6 H => J [x0, x1, x2, x3, x4, x5, x6] H)
theorem joinV7_const {a0 a1 a2 a3 a4 a5 a6 : Value} {H : AH} {r : Value → Value → Value → Value → Value → Value → Value → AH → Prop} : @joinV7 (fun J => J a0 a1 a2 a3 a4 a5 a6 H) ⟨r⟩ = r a0 a1 a2 a3 a4 a5 a6 H := by
  apply propext
  constructor
  · intro h; exact h (fun vs H => r (vs.getD 0 undef) (vs.getD 1 undef) (vs.getD 2 undef) (vs.getD 3 undef) (vs.getD 4 undef) (vs.getD 5 undef) (vs.getD 6 undef) H) (fun x0 x1 x2 x3 x4 x5 x6 H h => h (fun _ => undef))
  · intro h J hJ; exact hJ _ _ _ _ _ _ _ _ (fun _ => h)
def joinV8 (first : (Value → Value → Value → Value → Value → Value → Value → Value → AH → Prop) → Prop) [k : Kb (Value → Value → Value → Value → Value → Value → Value → Value → AH → Prop)] : Prop := ∀ J : List Value → AH → Prop, (∀ x0 x1 x2 x3 x4 x5 x6 x7 : Value, ∀ H, ((Nat → Value) → k.f x0 x1 x2 x3 x4 x5 x6 x7 H) → J [x0, x1, x2, x3, x4, x5, x6, x7] H) → first (fun x0 x1 x2 x3 x4 x5 x6 x7 H => J [x0, x1, x2, x3, x4, x5, x6, x7] H)
theorem joinV8_const {a0 a1 a2 a3 a4 a5 a6 a7 : Value} {H : AH} {r : Value → Value → Value → Value → Value → Value → Value → Value → AH → Prop} : @joinV8 (fun J => J a0 a1 a2 a3 a4 a5 a6 a7 H) ⟨r⟩ = r a0 a1 a2 a3 a4 a5 a6 a7 H := by
  apply propext
  constructor
  · intro h; exact h (fun vs H => r (vs.getD 0 undef) (vs.getD 1 undef) (vs.getD 2 undef) (vs.getD 3 undef) (vs.getD 4 undef) (vs.getD 5 undef) (vs.getD 6 undef) (vs.getD 7 undef) H) (fun x0 x1 x2 x3 x4 x5 x6 x7 H h => h (fun _ => undef))
  · intro h J hJ; exact hJ _ _ _ _ _ _ _ _ _ (fun _ => h)
def joinV9 (first : (Value → Value → Value → Value → Value → Value → Value → Value → Value → AH → Prop) → Prop) [k : Kb (Value → Value → Value → Value → Value → Value → Value → Value → Value → AH → Prop)] : Prop := ∀ J : List Value → AH → Prop, (∀ x0 x1 x2 x3 x4 x5 x6 x7 x8 : Value, ∀ H, ((Nat → Value) → k.f x0 x1 x2 x3 x4 x5 x6 x7 x8 H) → J [x0, x1, x2, x3, x4, x5, x6, x7, x8] H) → first (fun x0 x1 x2 x3 x4 x5 x6 x7 x8 H => J [x0, x1, x2, x3, x4, x5, x6, x7, x8] H)
theorem joinV9_const {a0 a1 a2 a3 a4 a5 a6 a7 a8 : Value} {H : AH} {r : Value → Value → Value → Value → Value → Value → Value → Value → Value → AH → Prop} : @joinV9 (fun J => J a0 a1 a2 a3 a4 a5 a6 a7 a8 H) ⟨r⟩ = r a0 a1 a2 a3 a4 a5 a6 a7 a8 H := by
  apply propext
  constructor
  · intro h; exact h (fun vs H => r (vs.getD 0 undef) (vs.getD 1 undef) (vs.getD 2 undef) (vs.getD 3 undef) (vs.getD 4 undef) (vs.getD 5 undef) (vs.getD 6 undef) (vs.getD 7 undef) (vs.getD 8 undef) H) (fun x0 x1 x2 x3 x4 x5 x6 x7 x8 H h => h (fun _ => undef))
  · intro h J hJ; exact hJ _ _ _ _ _ _ _ _ _ _ (fun _ => h)
def joinV10 (first : (Value → Value → Value → Value → Value → Value → Value → Value → Value → Value → AH → Prop) → Prop) [k : Kb (Value → Value → Value → Value → Value → Value → Value → Value → Value → Value → AH → Prop)] : Prop := ∀ J : List Value → AH → Prop, (∀ x0 x1 x2 x3 x4 x5 x6 x7 x8 x9 : Value, ∀ H, ((Nat → Value) → k.f x0 x1 x2 x3 x4 x5 x6 x7 x8 x9 H) → J [x0, x1, x2, x3, x4, x5, x6, x7, x8, x9] H) → first (fun x0 x1 x2 x3 x4 x5 x6 x7 x8 x9 H => J [x0, x1, x2, x3, x4, x5, x6, x7, x8, x9] H)
theorem joinV10_const {a0 a1 a2 a3 a4 a5 a6 a7 a8 a9 : Value} {H : AH} {r : Value → Value → Value → Value → Value → Value → Value → Value → Value → Value → AH → Prop} : @joinV10 (fun J => J a0 a1 a2 a3 a4 a5 a6 a7 a8 a9 H) ⟨r⟩ = r a0 a1 a2 a3 a4 a5 a6 a7 a8 a9 H := by
  apply propext
  constructor
  · intro h; exact h (fun vs H => r (vs.getD 0 undef) (vs.getD 1 undef) (vs.getD 2 undef) (vs.getD 3 undef) (vs.getD 4 undef) (vs.getD 5 undef) (vs.getD 6 undef) (vs.getD 7 undef) (vs.getD 8 undef) (vs.getD 9 undef) H) (fun x0 x1 x2 x3 x4 x5 x6 x7 x8 x9 H h => h (fun _ => undef))
  · intro h J hJ; exact hJ _ _ _ _ _ _ _ _ _ _ _ (fun _ => h)
def joinV11 (first : (Value → Value → Value → Value → Value → Value → Value → Value → Value → Value → Value → AH → Prop) → Prop) [k : Kb (Value → Value → Value → Value → Value → Value → Value → Value → Value → Value → Value → AH → Prop)] : Prop := ∀ J : List Value → AH → Prop, (∀ x0 x1 x2 x3 x4 x5 x6 x7 x8 x9 x10 : Value, ∀ H, ((Nat → Value) → k.f x0 x1 x2 x3 x4 x5 x6 x7 x8 x9 x10 H) → J [x0, x1, x2, x3, x4, x5, x6, x7, x8, x9, x10] H) → first (fun x0 x1 x2 x3 x4 x5 x6 x7 x8 x9 x10 H => J [x0, x1, x2, x3, x4, x5, x6, x7, x8, x9, x10] H)
theorem joinV11_const {a0 a1 a2 a3 a4 a5 a6 a7 a8 a9 a10 : Value} {H : AH} {r : Value → Value → Value → Value → Value → Value → Value → Value → Value → Value → Value → AH → Prop} : @joinV11 (fun J => J a0 a1 a2 a3 a4 a5 a6 a7 a8 a9 a10 H) ⟨r⟩ = r a0 a1 a2 a3 a4 a5 a6 a7 a8 a9 a10 H := by
  apply propext
  constructor
  · intro h; exact h (fun vs H => r (vs.getD 0 undef) (vs.getD 1 undef) (vs.getD 2 undef) (vs.getD 3 undef) (vs.getD 4 undef) (vs.getD 5 undef) (vs.getD 6 undef) (vs.getD 7 undef) (vs.getD 8 undef) (vs.getD 9 undef) (vs.getD 10 undef) H) (fun x0 x1 x2 x3 x4 x5 x6 x7 x8 x9 x10 H h => h (fun _ => undef))
  · intro h J hJ; exact hJ _ _ _ _ _ _ _ _ _ _ _ _ (fun _ => h)
def joinV12 (first : (Value → Value → Value → Value → Value → Value → Value → Value → Value → Value → Value → Value → AH → Prop) → Prop) [k : Kb (Value → Value → Value → Value → Value → Value → Value → Value → Value → Value → Value → Value → AH → Prop)] : Prop := ∀ J : List Value → AH → Prop, (∀ x0 x1 x2 x3 x4 x5 x6 x7 x8 x9 x10 x11 : Value, ∀ H, ((Nat → Value) → k.f x0 x1 x2 x3 x4 x5 x6 x7 x8 x9 x10 x11 H) → J [x0, x1, x2, x3, x4, x5, x6, x7, x8, x9, x10, x11] H) → first (fun x0 x1 x2 x3 x4 x5 x6 x7 x8 x9 x10 x11 H => J [x0, x1, x2, x3, x4, x5, x6, x7, x8, x9, x10, x11] H)
theorem joinV12_const {a0 a1 a2 a3 a4 a5 a6 a7 a8 a9 a10 a11 : Value} {H : AH} {r : Value → Value → Value → Value → Value → Value → Value → Value → Value → Value → Value → Value → AH → Prop} : @joinV12 (fun J => J a0 a1 a2 a3 a4 a5 a6 a7 a8 a9 a10 a11 H) ⟨r⟩ = r a0 a1 a2 a3 a4 a5 a6 a7 a8 a9 a10 a11 H := by
  apply propext
  constructor
  · intro h; exact h (fun vs H => r (vs.getD 0 undef) (vs.getD 1 undef) (vs.getD 2 undef) (vs.getD 3 undef) (vs.getD 4 undef) (vs.getD 5 undef) (vs.getD 6 undef) (vs.getD 7 undef) (vs.getD 8 undef) (vs.getD 9 undef) (vs.getD 10 undef) (vs.getD 11 undef) H) (fun x0 x1 x2 x3 x4 x5 x6 x7 x8 x9 x10 x11 H h => h (fun _ => undef))
  · intro h J hJ; exact hJ _ _ _ _ _ _ _ _ _ _ _ _ _ (fun _ => h)
def joinV13 (first : (Value → Value → Value → Value → Value → Value → Value → Value → Value → Value → Value → Value → Value → AH → Prop) → Prop) [k : Kb (Value → Value → Value → Value → Value → Value → Value → Value → Value → Value → Value → Value → Value → AH → Prop)] : Prop := ∀ J : List Value → AH → Prop, (∀ x0 x1 x2 x3 x4 x5 x6 x7 x8 x9 x10 x11 x12 : Value, ∀ H, ((Nat → Value) → k.f x0 x1 x2 x3 x4 x5 x6 x7 x8 x9 x10 x11 x12 H) → J [x0, x1, x2, x3, x4, x5, x6, x7, x8, x9, x10, x11, x12] H) → first (fun x0 x1 x2 x3 x4 x5 x6 x7 x8 x9 x10 x11 x12 H => J [x0, x1, x2, x3, x4, x5, x6, x7, x8, x9, x10, x11, x12] H)
theorem joinV13_const {a0 a1 a2 a3 a4 a5 a6 a7 a8 a9 a10 a11 a12 : Value} {H : AH} {r : Value → Value → Value → Value → Value → Value → Value → Value → Value → Value → Value → Value → Value → AH → Prop} : @joinV13 (fun J => J a0 a1 a2 a3 a4 a5 a6 a7 a8 a9 a10 a11 a12 H) ⟨r⟩ = r a0 a1 a2 a3 a4 a5 a6 a7 a8 a9 a10 a11 a12 H := by
  apply propext
  constructor
  · intro h; exact h (fun vs H => r (vs.getD 0 undef) (vs.getD 1 undef) (vs.getD 2 undef) (vs.getD 3 undef) (vs.getD 4 undef) (vs.getD 5 undef) (vs.getD 6 undef) (vs.getD 7 undef) (vs.getD 8 undef) (vs.getD 9 undef) (vs.getD 10 undef) (vs.getD 11 undef) (vs.getD 12 undef) H) (fun x0 x1 x2 x3 x4 x5 x6 x7 x8 x9 x10 x11 x12 H h => h (fun _ => undef))
  · intro h J hJ; exact hJ _ _ _ _ _ _ _ _ _ _ _ _ _ _ (fun _ => h)
def joinV14 (first : (Value → Value → Value → Value → Value → Value → Value → Value → Value → Value → Value → Value → Value → Value → AH → Prop) → Prop) [k : Kb (Value → Value → Value → Value → Value → Value → Value → Value → Value → Value → Value → Value → Value → Value → AH → Prop)] : Prop := ∀ J : List Value → AH → Prop, (∀ x0 x1 x2 x3 x4 x5 x6 x7 x8 x9 x10 x11 x12 x13 : Value, ∀ H, ((Nat → Value) → k.f x0 x1 x2 x3 x4 x5 x6 x7 x8 x9 x10 x11 x12 x13 H) → J [x0, x1, x2, x3, x4, x5, x6, x7, x8, x9, x10, x11, x12, x13] H) → first (fun x0 x1 x2 x3 x4 x5 x6 x7 x8 x9 x10 x11 x12 x13 H => J [x0, x1, x2, x3, x4, x5, x6, x7, x8, x9, x10, x11, x12, x13] H)
theorem joinV14_const {a0 a1 a2 a3 a4 a5 a6 a7 a8 a9 a10 a11 a12 a13 : Value} {H : AH} {r : Value → Value → Value → Value → Value → Value → Value → Value → Value → Value → Value → Value → Value → Value → AH → Prop} : @joinV14 (fun J => J a0 a1 a2 a3 a4 a5 a6 a7 a8 a9 a10 a11 a12 a13 H) ⟨r⟩ = r a0 a1 a2 a3 a4 a5 a6 a7 a8 a9 a10 a11 a12 a13 H := by
  apply propext
  constructor
  · intro h; exact h (fun vs H => r (vs.getD 0 undef) (vs.getD 1 undef) (vs.getD 2 undef) (vs.getD 3 undef) (vs.getD 4 undef) (vs.getD 5 undef) (vs.getD 6 undef) (vs.getD 7 undef) (vs.getD 8 undef) (vs.getD 9 undef) (vs.getD 10 undef) (vs.getD 11 undef) (vs.getD 12 undef) (vs.getD 13 undef) H) (fun x0 x1 x2 x3 x4 x5 x6 x7 x8 x9 x10 x11 x12 x13 H h => h (fun _ => undef))
  · intro h J hJ; exact hJ _ _ _ _ _ _ _ _ _ _ _ _ _ _ _ (fun _ => h)
theorem asB_undef' : asB undef = false := _root_.id rfl
theorem asNB_undef' : asNB undef = false := _root_.id rfl
theorem shOwn : (type_of% @guardJ_false) ∧ (type_of% @guardJ_V) ∧ (type_of% @guardJ_O) ∧ (type_of% @guardJ_P) ∧ (type_of% @guardJ_K) ∧ (type_of% @guardJ_H) ∧ (type_of% @guardJ_LB) ∧ (type_of% @guardJ_LH) ∧ (type_of% @guardJ_C) ∧ (type_of% @guardJ_CC) ∧ (type_of% @guardJ_F) ∧ (type_of% @guardJ_FF) ∧ (type_of% @joinV0_const) ∧ (type_of% @joinV1_const) ∧ (type_of% @joinV2_const) ∧ (type_of% @joinV3_const) ∧ (type_of% @joinV4_const) ∧ (type_of% @joinV5_const) ∧ (type_of% @joinV6_const) ∧ (type_of% @joinV7_const) ∧ (type_of% @joinV8_const) ∧ (type_of% @joinV9_const) ∧ (type_of% @joinV10_const) ∧ (type_of% @joinV11_const) ∧ (type_of% @joinV12_const) ∧ (type_of% @joinV13_const) ∧ (type_of% @joinV14_const) ∧ (type_of% @letD_eq) ∧ (type_of% @asB_undef') ∧ (type_of% @asNB_undef') := ⟨@guardJ_false, @guardJ_V, @guardJ_O, @guardJ_P, @guardJ_K, @guardJ_H, @guardJ_LB, @guardJ_LH, @guardJ_C, @guardJ_CC, @guardJ_F, @guardJ_FF, @joinV0_const, @joinV1_const, @joinV2_const, @joinV3_const, @joinV4_const, @joinV5_const, @joinV6_const, @joinV7_const, @joinV8_const, @joinV9_const, @joinV10_const, @joinV11_const, @joinV12_const, @joinV13_const, @joinV14_const, @letD_eq, @asB_undef', @asNB_undef'⟩
end Go.Sim

namespace Go.Sim
open Go
def Pre (H H' : AH) : Prop := ∀ b, b < H.length → H'[b]? = H[b]?
theorem Pre.refl (H : AH) : Pre H H := fun _ _ => rfl
theorem Pre.len {H H' : AH} (h : Pre H H') : H.length ≤ H'.length := by
  cases hl : H.length with
  | zero => omega
  | succ n =>
    have h1 := h n (by omega)
    rw [List.getElem?_eq_getElem (l := H) (by omega)] at h1
    have := (List.getElem?_eq_some_iff.1 h1).1
    omega
theorem Pre.trans {H H1 H2 : AH} (h : Pre H H1) (k : Pre H1 H2) : Pre H H2 := fun b hb => (k b (Nat.lt_of_lt_of_le hb h.len)).trans (h b hb)
theorem Pre.app {H H' : AH} (h : Pre H H') (Y : AH) : Pre H (H' ++ Y) := fun b hb => by
  rw [List.getElem?_append_left (Nat.lt_of_lt_of_le hb h.len)]; exact h b hb
theorem Pre.new (H Y : AH) : Pre H (H ++ Y) := (Pre.refl H).app Y
theorem Pre.set {H H' : AH} (h : Pre H H') {b : Nat} (hb : H.length ≤ b) (x : AB) : Pre H (H'.set b x) := fun k hk => by
  rw [List.getElem?_set_ne (by omega)]; exact h k hk
theorem Pre.get {H H' : AH} (h : Pre H H') {b : Nat} {x : AB} (hb : H[b]? = some x) : H'[b]? = some x := by
  rw [h b (List.getElem?_eq_some_iff.1 hb).1]; exact hb
theorem get_lt {H : AH} {b : Nat} {x : AB} (hb : H[b]? = some x) : b < H.length := (List.getElem?_eq_some_iff.1 hb).1
theorem get_app {H : AH} {b : Nat} {x : AB} (hb : H[b]? = some x) (Y : AH) : (H ++ Y)[b]? = some x := (Pre.new H Y).get hb
def Row (H : AH) (v : Value) (cs : List Value) : Prop :=
  (cs = [] ∧ ∃ a c, v = .slice a 0 c) ∨ ∃ b o c cc e op r, v = .slice (some ⟨b, o, none⟩) cs.length c ∧ H[b]? = some (.cells cc e op r) ∧ (∀ k, k < cs.length → cc[o + k]? = cs[k]?) ∧ cs.length ≤ c
theorem Row.pre {H H' : AH} {v : Value} {cs : List Value} (h : Row H v cs) (hp : Pre H H') : Row H' v cs := by
  rcases h with h | ⟨b, o, c, cc, e, op, r, h1, h2, h3⟩
  · exact .inl h
  · exact .inr ⟨b, o, c, cc, e, op, r, h1, hp.get h2, h3⟩
theorem Row.nil {H : AH} {a : Option Addr} {c : Nat} : Row H (.slice a 0 c) [] := .inl ⟨rfl, a, c, rfl⟩
theorem Row.of {H : AH} {b n c : Nat} {cs : List Value} {e : TypeId} {op : Option Nat} {r : Bool} (h : H[b]? = some (.cells cs e op r)) (hn : n = cs.length) (hc : n ≤ c) : Row H (.slice (some ⟨b, 0, none⟩) n c) cs :=
  .inr ⟨b, 0, c, cs, e, op, r, by rw [hn], h, fun k _ => by rw [Nat.zero_add], by omega⟩
def ptrAt : Value → Nat → Value
  | .slice (some a) _ _, k => .pointer (some ⟨a.block, a.off + k, none⟩)
  | _, _ => undef
theorem Row.len {H : AH} {v : Value} {cs : List Value} (h : Row H v cs) : xpure .lenS [v] = some (nv cs.length) := by
  rcases h with ⟨rfl, a, c, rfl⟩ | ⟨b, o, c, cc, e, op, r, rfl, h2, h3, hcap⟩ <;> rfl
theorem Row.ix {H : AH} {v : Value} {cs : List Value} (h : Row H v cs) {k : Nat} (hk : k < cs.length) : xpure (.ixS 1) [v, nv k] = some (ptrAt v k) := by
  rcases h with ⟨rfl, a, c, rfl⟩ | ⟨b, o, c, cc, e, op, r, rfl, h2, h3, hcap⟩
  · simp at hk
  · rw [xp_ixS' (by omega) (by omega)]
    simp [ptrAt]
theorem Row.ld {H : AH} {v : Value} {cs : List Value} (h : Row H v cs) {k : Nat} (hk : k < cs.length) : xload none H [ptrAt v k] = some cs[k] := by
  rcases h with ⟨rfl, a, c, rfl⟩ | ⟨b, o, c, cc, e, op, r, rfl, h2, h3, hcap⟩
  · simp at hk
  · unfold ptrAt
    rw [xload_at h2]
    have := h3 k hk
    rw [List.getElem?_eq_getElem hk] at this
    simp [xpart, this]
theorem Row.ldM {α : Type} {H : AH} {v : Value} {f : α → Value} {xs : List α} (h : Row H v (xs.map f)) (d : α) {k : Nat} (hk : k < xs.length) : xload none H [ptrAt v k] = some (f (xs.getD k d)) := by
  rw [h.ld (by simpa using hk)]
  simp [List.getD_eq_getElem?_getD, List.getElem?_eq_getElem hk]
theorem Row.lenM {α : Type} {H : AH} {v : Value} {f : α → Value} {xs : List α} (h : Row H v (xs.map f)) : xpure .lenS [v] = some (nv xs.length) := by
  rw [h.len]; simp
theorem Row.ixM {α : Type} {H : AH} {v : Value} {f : α → Value} {xs : List α} (h : Row H v (xs.map f)) {k : Nat} (hk : k < xs.length) : xpure (.ixS 1) [v, nv k] = some (ptrAt v k) := h.ix (by simpa using hk)
theorem Row.all {α : Type} {H : AH} {v : Value} {f : α → Value} {xs : List α} (h : Row H v (xs.map f)) (d : α) :
    xpure .lenS [v] = some (nv xs.length) ∧ (∀ k, k < xs.length → xpure (.ixS 1) [v, nv k] = some (ptrAt v k)) ∧ (∀ k, k < xs.length → xload none H [ptrAt v k] = some (f (xs.getD k d))) ∧
    (∀ k Y, k < xs.length → xload none (H ++ Y) [ptrAt v k] = some (f (xs.getD k d))) :=
  ⟨h.lenM, fun _ hk => h.ixM hk, fun _ hk => h.ldM d hk, fun _ Y hk => (h.pre (Pre.new H Y)).ldM d hk⟩
def Own (H0 H : AH) (v : Value) (cs : List Value) (e : TypeId) : Prop :=
  ∃ b, H0.length ≤ b ∧ v = .slice (some ⟨b, 0, none⟩) cs.length cs.length ∧ ∃ op, (op = none ∨ op = some 1) ∧ H[b]? = some (.cells cs e op false)
theorem Own.row {H0 H : AH} {v : Value} {cs : List Value} {e : TypeId} (h : Own H0 H v cs e) : Row H v cs := by
  obtain ⟨b, _, rfl, op, _, h2⟩ := h
  exact Row.of h2 rfl (Nat.le_refl _)
theorem Own.pre {H0 H H' : AH} {v : Value} {cs : List Value} {e : TypeId} (h : Own H0 H v cs e) (hp : Pre H H') : Own H0 H' v cs e := by
  obtain ⟨b, h1, rfl, op, h3, h2⟩ := h
  exact ⟨b, h1, rfl, op, h3, hp.get h2⟩
theorem Own.mono {H0 H1 H : AH} {v : Value} {cs : List Value} {e : TypeId} (h : Own H1 H v cs e) (hl : H0.length ≤ H1.length) : Own H0 H v cs e := by
  obtain ⟨b, h1, rfl, op, h3, h2⟩ := h
  exact ⟨b, Nat.le_trans hl h1, rfl, op, h3, h2⟩
theorem Own.new {H0 H : AH} (hl : H0.length ≤ H.length) {cs : List Value} {e : TypeId} {n : Nat} (hn : n = cs.length) {Y : AH} : Own H0 (H ++ .cells cs e none false :: Y) (.slice (some ⟨H.length, 0, none⟩) n n) cs e :=
  ⟨H.length, hl, by rw [hn], none, .inl rfl, by simp⟩
theorem erow_one {H : AH} {b : Nat} {u : Value} {e : TypeId} {op : Option Nat} {r : Bool} {c : Nat} (h : H[b]? = some (.cells [u] e op r)) : erow H (.slice (some ⟨b, 0, none⟩) 1 c) 1 = some [u] := by
  simp [erow, h]
theorem Own.app {H0 H : AH} {v u : Value} {cs : List Value} {e : TypeId} {by_ : Nat} (h : Own H0 H v cs e) (hu : one u = true) (hb : (cs.length + 1) * by_ ≤ 140737488355328) (hl : cs.length + 1 ≤ 9223372036854775807) {e2 : TypeId} :
    ∃ v' H', xact (.app e 1 by_) (H ++ [.cells [u] e2 none false]) [v, .slice (some ⟨H.length, 0, none⟩) 1 1] = some (v', H') ∧ Own H0 H' v' (cs ++ [u]) e ∧ (∀ b, b < H.length → (∀ l c, v ≠ .slice (some ⟨b, 0, none⟩) l c) → H'[b]? = H[b]?) ∧ H.length ≤ H'.length ∧ (Pre H0 H → Pre H0 H') := by
  obtain ⟨b, h1, rfl, op, h3, h2⟩ := h
  have hlt := get_lt h2
  have hg : (H ++ [AB.cells [u] e2 none false])[b]? = some (.cells cs e op false) := get_app h2 _
  have he : erow (H ++ [AB.cells [u] e2 none false]) (.slice (some ⟨H.length, 0, none⟩) 1 1) (slen (.slice (some ⟨H.length, 0, none⟩) 1 1) * 1) = some [u] := erow_one (b := H.length) (e := e2) (op := none) (r := false) (by simp)
  have hc : ¬ cs.length + 1 ≤ cs.length := by omega
  have hlen : H.length ≤ ((H ++ [AB.cells [u] e2 none false]).set b .dead).length := by simp
  unfold xact
  simp only [he]
  rw [if_pos ⟨by simpa [slen] using hb, by simpa [slen] using hl, by simpa using hu⟩]
  simp only [hg, slen]
  rw [if_neg hc]
  rcases h3 with rfl | rfl
  · rw [if_pos rfl, if_pos (by simp)]
    refine ⟨_, _, rfl, ⟨(H ++ [AB.cells [u] e2 none false]).length, by simp; omega, by simp, some 1, .inr rfl, ?_⟩, ?_, by simp, ?_⟩
    · simp
    · intro b' hb' _
      rw [List.getElem?_append_left (by simp; omega), List.getElem?_append_left hb']
    · intro hp; exact (hp.app _).app _
  · rw [if_neg (by simp), if_pos (by simp)]
    refine ⟨_, _, rfl, ⟨(H ++ [AB.cells [u] e2 none false]).length, by simp; omega, by simp, some 1, .inr rfl, ?_⟩, ?_, by simp; omega, ?_⟩
    · simp
    · intro b' hb' hne
      have : b' ≠ b := fun e => hne _ _ (by rw [e])
      rw [List.getElem?_append_left (by simp; omega), List.getElem?_set_ne (Ne.symm this), List.getElem?_append_left hb']
    · intro hp; exact ((hp.app _).set h1 _).app _
theorem Row.cells {H : AH} {v : Value} {cs : List Value} (h : Row H v cs) : cellsL v = [v] := by
  rcases h with ⟨_, a, c, rfl⟩ | ⟨b, o, c, cc, e, op, r, rfl, h2, h3, hcap⟩ <;> rfl
theorem Row.one {H : AH} {v : Value} {cs : List Value} (h : Row H v cs) : one v = true := by
  rcases h with ⟨_, a, c, rfl⟩ | ⟨b, o, c, cc, e, op, r, rfl, h2, h3, hcap⟩ <;> rfl
def Acc (H0 H : AH) (v : Value) (cs : List Value) (e : TypeId) : Prop := (cs = [] ∧ v = .slice none 0 0) ∨ Own H0 H v cs e
theorem Own.acc {H0 H : AH} {v : Value} {cs : List Value} {e : TypeId} (h : Own H0 H v cs e) : Acc H0 H v cs e := .inr h
theorem Acc.row {H0 H : AH} {v : Value} {cs : List Value} {e : TypeId} (h : Acc H0 H v cs e) : Row H v cs := by
  rcases h with ⟨rfl, rfl⟩ | h
  · exact Row.nil
  · exact h.row
theorem Acc.pre {H0 H H' : AH} {v : Value} {cs : List Value} {e : TypeId} (h : Acc H0 H v cs e) (hp : Pre H H') : Acc H0 H' v cs e := h.imp (fun x => x) (fun x => x.pre hp)
theorem Acc.mono {H0 H1 H : AH} {v : Value} {cs : List Value} {e : TypeId} (h : Acc H1 H v cs e) (hl : H0.length ≤ H1.length) : Acc H0 H v cs e := h.imp (fun x => x) (fun x => x.mono hl)
theorem Row.slen {H : AH} {v : Value} {cs : List Value} (h : Row H v cs) : slen v = cs.length := by
  rcases h with ⟨rfl, a, c, rfl⟩ | ⟨b, o, c, cc, e, op, r, rfl, h2, h3, hcap⟩ <;> rfl
def RowX (H : AH) (v : Value) (cs : List Value) : Prop := Row H v cs ∧ erow H v (Sim.slen v * 1) = some cs
theorem Row.x {H : AH} {v : Value} {cs : List Value} (h : Row H v cs) (hn : cs ≠ []) : RowX H v cs := by
  refine ⟨h, ?_⟩
  rw [h.slen, Nat.mul_one]
  rcases h with ⟨rfl, a, c, rfl⟩ | ⟨b, o, c, cc, e, op, r, rfl, h2, h3, hcap⟩
  · exact absurd rfl hn
  · unfold Sim.erow
    have h0 : 0 < cs.length := List.length_pos_iff.2 hn
    have hlen : o + cs.length ≤ cc.length := by
      have := h3 (cs.length - 1) (by omega)
      rw [List.getElem?_eq_getElem (l := cs) (by omega)] at this
      have := (List.getElem?_eq_some_iff.1 this).1
      omega
    have he : (cc.drop o).take cs.length = cs := by
      refine List.ext_getElem? fun k => ?_
      by_cases hk : k < cs.length
      · rw [List.getElem?_take_of_lt hk, List.getElem?_drop, h3 k hk]
      · rw [List.getElem?_eq_none (by simp; omega), List.getElem?_eq_none (by omega)]
    simp only [h2]
    rw [if_pos hlen, he]
theorem RowX.pre {H H' : AH} {v : Value} {cs : List Value} (h : RowX H v cs) (hp : Pre H H') : RowX H' v cs := by
  refine ⟨h.1.pre hp, ?_⟩
  have he := h.2
  revert he
  unfold Sim.erow
  split
  · exact fun h => h
  · rename_i a _ _
    split
    · split
      · rename_i hb
        rw [hp.get hb]; exact fun h => h
      · intro h; cases h
    · exact fun h => h
  · exact fun h => h
theorem Acc.x {H0 H : AH} {v : Value} {cs : List Value} {e : TypeId} (h : Acc H0 H v cs e) : RowX H v cs := by
  refine ⟨h.row, ?_⟩
  rw [h.row.slen, Nat.mul_one]
  rcases h with ⟨rfl, rfl⟩ | ⟨b, hb1, rfl, op, h3, h2⟩
  · rfl
  · unfold Sim.erow
    simp [h2]
theorem Acc.appF {H0 H : AH} (hl0 : H0.length ≤ H.length) {v u : Value} {cs us : List Value} {e : TypeId} {by_ : Nat} (h : Acc H0 H v cs e) (hu : RowX H u us) (h1 : us.all one = true) (hb : (cs.length + us.length) * by_ ≤ 140737488355328) (hl : cs.length + us.length ≤ 9223372036854775807) :
    ∃ v' H', xact (.app e 1 by_) H [v, u] = some (v', H') ∧ Acc H0 H' v' (cs ++ us) e ∧ (∀ b, b < H0.length → H'[b]? = H[b]?) ∧ H.length ≤ H'.length := by
  have he := hu.2
  have hs := hu.1.slen
  unfold xact
  simp only [he]
  rcases h with ⟨rfl, rfl⟩ | ⟨b, hb1, rfl, op, h3, h2⟩
  · rw [if_pos ⟨by rw [hs]; simpa [Sim.slen] using hb, by rw [hs]; simpa [Sim.slen] using hl, h1⟩]
    by_cases h0 : us.length = 0
    · have : us = [] := List.eq_nil_of_length_eq_zero h0
      subst this
      simp only [hs, List.length_nil, if_true]
      exact ⟨_, _, rfl, .inl ⟨rfl, rfl⟩, fun _ _ => rfl, Nat.le_refl _⟩
    · simp only [hs, if_neg h0]
      exact ⟨_, _, rfl, .inr ⟨H.length, hl0, by simp, some 1, .inr rfl, by simp⟩, fun b hb => List.getElem?_append_left (by omega), by simp⟩
  · rw [if_pos ⟨by rw [hs]; simpa [Sim.slen] using hb, by rw [hs]; simpa [Sim.slen] using hl, h1⟩]
    simp only [h2, hs]
    by_cases h0 : us.length = 0
    · have : us = [] := List.eq_nil_of_length_eq_zero h0
      subst this
      simp only [List.length_nil, Nat.add_zero, Nat.le_refl, if_true]
      exact ⟨_, _, rfl, .inr ⟨b, hb1, by simp, op, h3, by simpa using h2⟩, fun _ _ => rfl, Nat.le_refl _⟩
    · rw [if_neg (by omega)]
      rcases h3 with rfl | rfl
      · rw [if_pos rfl, if_pos (by simp)]
        exact ⟨_, _, rfl, .inr ⟨H.length, by omega, by simp, some 1, .inr rfl, by simp⟩, fun b hb => List.getElem?_append_left (by omega), by simp⟩
      · rw [if_neg (by simp), if_pos (by simp)]
        exact ⟨_, _, rfl, .inr ⟨H.length, by omega, by simp, some 1, .inr rfl, by simp⟩, fun b' hb => by rw [List.getElem?_append_left (by simp; omega), List.getElem?_set_ne (by omega)], by simp⟩
theorem Acc.appR {H0 H : AH} (hl0 : H0.length ≤ H.length) {v u : Value} {cs us : List Value} {e : TypeId} {by_ : Nat} (h : Acc H0 H v cs e) (hu : RowX H u us) (h1 : us.all one = true) (hb : (cs.length + us.length) * by_ ≤ 140737488355328) (hl : cs.length + us.length ≤ 9223372036854775807) :
    ∃ v' H', xact (.app e 1 by_) H [v, u] = some (v', H') ∧ Acc H0 H' v' (cs ++ us) e ∧ (Pre H0 H → Pre H0 H') ∧ H.length ≤ H'.length := by
  obtain ⟨v', H', q1, q2, q3, q4⟩ := Acc.appF (by_ := by_) hl0 h hu h1 hb hl
  exact ⟨v', H', q1, q2, fun hp b hb => (q3 b hb).trans (hp b hb), q4⟩
theorem Acc.app1F {H0 H : AH} (hl0 : H0.length ≤ H.length) {v u : Value} {cs : List Value} {e : TypeId} {by_ : Nat} (h : Acc H0 H v cs e) (hu : one u = true) (hb : (cs.length + 1) * by_ ≤ 140737488355328) (hl : cs.length + 1 ≤ 9223372036854775807) {e2 : TypeId} :
    ∃ v' H', xact (.app e 1 by_) (H ++ [.cells [u] e2 none false]) [v, .slice (some ⟨H.length, 0, none⟩) 1 1] = some (v', H') ∧ Acc H0 H' v' (cs ++ [u]) e ∧ (∀ b, b < H0.length → H'[b]? = H[b]?) ∧ H.length ≤ H'.length := by
  obtain ⟨v', H', h1, h2, h3, h4⟩ := Acc.appF (H := H ++ [.cells [u] e2 none false]) (by simp; omega) (h.pre (Pre.new H _)) (u := .slice (some ⟨H.length, 0, none⟩) 1 1) (us := [u]) ((Row.of (b := H.length) (e := e2) (op := none) (r := false) (by simp) rfl (Nat.le_refl _)).x (by simp)) (by simpa using hu) hb hl (by_ := by_)
  exact ⟨v', H', h1, h2, fun b hb => by rw [h3 b hb, List.getElem?_append_left (by omega)], by simp at h4; omega⟩
theorem Acc.app1 {H0 H : AH} (hl0 : H0.length ≤ H.length) {v u : Value} {cs : List Value} {e : TypeId} {by_ : Nat} (h : Acc H0 H v cs e) (hu : one u = true) (hb : (cs.length + 1) * by_ ≤ 140737488355328) (hl : cs.length + 1 ≤ 9223372036854775807) {e2 : TypeId} :
    ∃ v' H', xact (.app e 1 by_) (H ++ [.cells [u] e2 none false]) [v, .slice (some ⟨H.length, 0, none⟩) 1 1] = some (v', H') ∧ Acc H0 H' v' (cs ++ [u]) e ∧ (Pre H0 H → Pre H0 H') ∧ H.length ≤ H'.length := by
  obtain ⟨v', H', h1, h2, h3, h4⟩ := Acc.appR (H := H ++ [.cells [u] e2 none false]) (by simp; omega) (h.pre (Pre.new H _)) (u := .slice (some ⟨H.length, 0, none⟩) 1 1) (us := [u]) ((Row.of (b := H.length) (e := e2) (op := none) (r := false) (by simp) rfl (Nat.le_refl _)).x (by simp)) (by simpa using hu) hb hl (by_ := by_)
  exact ⟨v', H', h1, h2, fun hp => h3 (hp.app _), by simp at h4; omega⟩
theorem Acc.app1G {H0 H : AH} (hl0 : H0.length ≤ H.length) {v u : Value} {cs : List Value} {e : TypeId} {by_ : Nat} (h : Acc H0 H v cs e) (hu : one u = true) (hb : (cs.length + 1) * by_ ≤ 140737488355328) (hl : cs.length + 1 ≤ 9223372036854775807) {e2 : TypeId} :
    ∃ v' H', xact (.app e 1 by_) (H ++ [.cells [u] e2 none false]) [v, .slice (some ⟨H.length, 0, none⟩) 1 1] = some (v', H') ∧ Acc H0 H' v' (cs ++ [u]) e ∧ (∀ b, b < H.length → (∀ l c, v ≠ .slice (some ⟨b, 0, none⟩) l c) → H'[b]? = H[b]?) ∧ H.length ≤ H'.length := by
  rcases h with ⟨rfl, rfl⟩ | h
  · have he := erow_one (H := H ++ [AB.cells [u] e2 none false]) (b := H.length) (u := u) (e := e2) (op := none) (r := false) (c := 1) (by simp)
    have hx : xact (.app e 1 by_) (H ++ [AB.cells [u] e2 none false]) [.slice none 0 0, .slice (some ⟨H.length, 0, none⟩) 1 1] = some (.slice (some ⟨H.length + 1, 0, none⟩) 1 1, H ++ [AB.cells [u] e2 none false] ++ [.cells [u] e (some 1) false]) := by
      unfold xact
      simp only [Sim.slen, Nat.one_mul, he]
      rw [if_pos ⟨by simpa using hb, by simp, by simpa using hu⟩]
      simp
    refine ⟨_, _, hx, .inr ⟨H.length + 1, by omega, rfl, some 1, .inr rfl, by simp⟩, fun b hb _ => ?_, by simp⟩
    rw [List.getElem?_append_left (by simp; omega), List.getElem?_append_left hb]
  · obtain ⟨v', H', q1, q2, q3, q4, _⟩ := h.app (by_ := by_) hu hb hl (e2 := e2)
    exact ⟨v', H', q1, q2.acc, q3, q4⟩
def Rws (H : AH) (vs : List Value) (css : List (List Value)) : Prop := vs.length = css.length ∧ ∀ k, k < css.length → Row H (vs.getD k undef) (css.getD k [])
theorem Rws.pre {H H' : AH} {vs : List Value} {css : List (List Value)} (h : Rws H vs css) (hp : Pre H H') : Rws H' vs css := ⟨h.1, fun k hk => (h.2 k hk).pre hp⟩
theorem Rws.snoc {H : AH} {vs : List Value} {css : List (List Value)} {v : Value} {cs : List Value} (h : Rws H vs css) (hv : Row H v cs) : Rws H (vs ++ [v]) (css ++ [cs]) := by
  refine ⟨by simp [h.1], fun k hk => ?_⟩
  have hl := h.1
  simp only [List.length_append, List.length_cons, List.length_nil] at hk
  simp only [List.getD_eq_getElem?_getD]
  by_cases h1 : k < css.length
  · rw [List.getElem?_append_left (by omega), List.getElem?_append_left h1]
    simpa [List.getD_eq_getElem?_getD] using h.2 k h1
  · have : k = css.length := by omega
    subst this
    rw [List.getElem?_append_right (by omega), List.getElem?_append_right (by omega)]
    simpa [hl] using hv
def RowR (H : AH) (v : Value) (css : List (List Value)) : Prop := ∃ vs, RowX H v vs ∧ Rws H vs css
theorem RowR.pre {H H' : AH} {v : Value} {css : List (List Value)} (h : RowR H v css) (hp : Pre H H') : RowR H' v css := let ⟨vs, h1, h2⟩ := h; ⟨vs, h1.pre hp, h2.pre hp⟩
theorem Row.allV {H : AH} {v : Value} {vs : List Value} (h : Row H v vs) :
    xpure .lenS [v] = some (nv vs.length) ∧ (∀ k, k < vs.length → xpure (.ixS 1) [v, nv k] = some (ptrAt v k)) ∧ (∀ k, k < vs.length → xload none H [ptrAt v k] = some (vs.getD k undef)) ∧
    (∀ k Y, k < vs.length → xload none (H ++ Y) [ptrAt v k] = some (vs.getD k undef)) := by
  have h' : Row H v (vs.map id) := by simpa using h
  exact h'.all undef
def plain : Value → Bool
  | .slice _ _ _ => false
  | _ => true
def isSl : Value → Bool
  | .slice _ _ _ => true
  | _ => false
theorem Row.isSl {H : AH} {v : Value} {cs : List Value} (h : Row H v cs) : isSl v = true := by
  rcases h with ⟨_, a, c, rfl⟩ | ⟨b, o, c, cc, e, op, r, rfl, h2, h3, hcap⟩ <;> rfl
theorem Rws.isSl {H : AH} {vs : List Value} {css : List (List Value)} (h : Rws H vs css) : vs.all Sim.isSl = true := by
  rw [List.all_eq_true]
  intro x hx
  obtain ⟨k, hk, rfl⟩ := List.mem_iff_getElem.1 hx
  have := (h.2 k (by rw [← h.1]; exact hk)).isSl
  simpa [List.getD_eq_getElem?_getD, List.getElem?_eq_getElem hk] using this
theorem Row.keep {H H' : AH} {v : Value} {cs vs : List Value} {b : Nat} {e : TypeId} {op : Option Nat} {r : Bool} (h : Row H v cs) (hp : cs.all plain = true) (hb : H[b]? = some (.cells vs e op r)) (hs : vs.all Sim.isSl = true) (hk : ∀ b', b' < H.length → b' ≠ b → H'[b']? = H[b']?) : Row H' v cs := by
  rcases h with h | ⟨b1, o, c, cc, e1, op1, r1, rfl, h2, h3, hcap⟩
  · exact .inl h
  · by_cases h0 : cs = []
    · subst h0; exact .inl ⟨rfl, _, _, rfl⟩
    · have hne : b1 ≠ b := by
        rintro rfl
        rw [hb] at h2
        cases h2
        have hl : 0 < cs.length := List.length_pos_iff.2 h0
        have h4 := h3 0 hl
        rw [List.getElem?_eq_getElem hl] at h4
        have h5 := List.all_eq_true.1 hp _ (List.getElem_mem hl)
        have h6 := List.all_eq_true.1 hs _ (List.mem_of_getElem? h4)
        cases hc : cs[0] <;> rw [hc] at h5 h6 <;> simp [plain, Sim.isSl] at h5 h6
      exact .inr ⟨b1, o, c, cc, e1, op1, r1, rfl, by rw [hk b1 (get_lt h2) hne]; exact h2, h3, hcap⟩
def AccR (H0 H : AH) (v : Value) (css : List (List Value)) (e : TypeId) : Prop := ∃ vs, Acc H0 H v vs e ∧ Rws H vs css ∧ ∀ cs ∈ css, cs.all plain = true
theorem AccR.rowR {H0 H : AH} {v : Value} {css : List (List Value)} {e : TypeId} (h : AccR H0 H v css e) : RowR H v css := let ⟨vs, h1, h2, _⟩ := h; ⟨vs, h1.x, h2⟩
theorem Row.part {H : AH} {v : Value} {cs : List Value} (h : Row H v cs) {lo hi : Nat} (h1 : lo ≤ hi) (h2 : hi ≤ cs.length) (h3 : lo < cs.length) : ∃ v', xpure (.slS 1 true true) [v, nv lo, nv hi] = some v' ∧ Row H v' ((cs.drop lo).take (hi - lo)) := by
  rcases h with ⟨rfl, a, c, rfl⟩ | ⟨b, o, c, cc, e, op, r, rfl, hb, hr, hcap⟩
  · simp at h3
  · have hlen : ((cs.drop lo).take (hi - lo)).length = hi - lo := by simp; omega
    have hcell : ∀ k, k < hi - lo → cc[o + lo + k]? = ((cs.drop lo).take (hi - lo))[k]? := fun k hk => by
      rw [Nat.add_assoc, hr (lo + k) (by omega), List.getElem?_take_of_lt hk, List.getElem?_drop]
    by_cases h0 : lo = 0
    · subst h0
      refine ⟨.slice (some ⟨b, o, none⟩) hi c, ?_, .inr ⟨b, o, c, cc, e, op, r, by rw [hlen]; simp, hb, fun k hk => ?_, by omega⟩⟩
      · simp [xpure, bnds]; omega
      · rw [hlen] at hk; have := hcell k hk; simpa using this
    · refine ⟨.slice (some ⟨b, o + lo, none⟩) (hi - lo) (c - lo), ?_, .inr ⟨b, o + lo, c - lo, cc, e, op, r, by rw [hlen], hb, fun k hk => ?_, by omega⟩⟩
      · simp only [xpure, bnds, Option.getD_some]
        rw [if_pos ⟨trivial, by omega, by omega, by omega⟩, if_neg (by omega), if_pos (by omega)]
        simp
      · rw [hlen] at hk; exact hcell k hk
theorem Row.upto {H : AH} {v : Value} {cs : List Value} (h : Row H v cs) {hi : Nat} (h2 : hi ≤ cs.length) (h3 : 0 < cs.length) : ∃ v', xpure (.slS 1 false true) [v, nv hi] = some v' ∧ Row H v' (cs.take hi) := by
  obtain ⟨v', h4, h5⟩ := h.part (lo := 0) (hi := hi) (by omega) h2 h3
  refine ⟨v', ?_, ?_⟩
  · rcases h with ⟨rfl, a, c, rfl⟩ | ⟨b, o, c, cc, e, op, r, rfl, hb, hr, hcap⟩
    · simp at h3
    · rw [← h4]; simp [xpure, bnds]
  · simpa using h5
theorem st_cell {H : AH} {b k : Nat} {v : Value} {c : List Value} {e : TypeId} {op : Option Nat} (hb : H[b]? = some (.cells c e op false)) (hk : k < c.length) (hv : cellsL v = [v]) (h1 : one v = true) : xact (.st 1) H [.pointer (some ⟨b, k, none⟩), v] = some (undef, H.set b (.cells (c.set k v) e op false)) := by
  unfold xact
  simp only [hb, hv]
  rw [if_pos ⟨rfl, by simpa using h1, by omega⟩]
  rfl
theorem set_last {H : AH} {x y : AB} : (H ++ [x]).set H.length y = H ++ [y] := by
  rw [List.set_append_right _ _ (Nat.le_refl _)]; simp
theorem xfill_nil {c : List Value} : xfill c [] [] = some c := _root_.id rfl
theorem xfill_one {c : List Value} {off : Nat} {pl : List (Nat × Nat)} {v : Value} {vs : List Value} (h : cellsL v = [v]) (ho : off < c.length) : xfill c ((off, 1) :: pl) (v :: vs) = xfill (c.set off v) pl vs := by
  rw [xfill, h, if_pos ⟨rfl, ho⟩]; rfl
theorem xfill_int {c : List Value} {off : Nat} {pl : List (Nat × Nat)} {k : IntKind} {n : Int} {vs : List Value} (ho : off < c.length) : xfill c ((off, 1) :: pl) (.int k n :: vs) = xfill (c.set off (.int k n)) pl vs := xfill_one rfl ho
theorem xfill_bool {c : List Value} {off : Nat} {pl : List (Nat × Nat)} {x : Bool} {vs : List Value} (ho : off < c.length) : xfill c ((off, 1) :: pl) (.bool x :: vs) = xfill (c.set off (.bool x)) pl vs := xfill_one rfl ho
theorem xfill_slice {c : List Value} {off : Nat} {pl : List (Nat × Nat)} {a : Option Addr} {l m : Nat} {vs : List Value} (ho : off < c.length) : xfill c ((off, 1) :: pl) (.slice a l m :: vs) = xfill (c.set off (.slice a l m)) pl vs := xfill_one rfl ho
theorem Row.fill {H : AH} {v : Value} {cs : List Value} (h : Row H v cs) : ∀ (c : List Value) (off : Nat) (pl : List (Nat × Nat)) (vs : List Value), off < c.length → xfill c ((off, 1) :: pl) (v :: vs) = xfill (c.set off v) pl vs := fun _ _ _ _ ho => xfill_one h.cells ho
theorem loadB_p2 {x0 x1 : Value} {c : List Value} {e : TypeId} {op : Option Nat} {r : Bool} : loadB (some 2) (some (.cells (x0 :: x1 :: c) e op r)) 0 = some (.agg [x0, x1].toArray) := by simp [loadB, xpart]
theorem loadB_p3 {x0 x1 x2 : Value} {c : List Value} {e : TypeId} {op : Option Nat} {r : Bool} : loadB (some 3) (some (.cells (x0 :: x1 :: x2 :: c) e op r)) 0 = some (.agg [x0, x1, x2].toArray) := by simp [loadB, xpart]
theorem loadB_p4 {x0 x1 x2 x3 : Value} {c : List Value} {e : TypeId} {op : Option Nat} {r : Bool} : loadB (some 4) (some (.cells (x0 :: x1 :: x2 :: x3 :: c) e op r)) 0 = some (.agg [x0, x1, x2, x3].toArray) := by simp [loadB, xpart]
theorem loadB_p5 {x0 x1 x2 x3 x4 : Value} {c : List Value} {e : TypeId} {op : Option Nat} {r : Bool} : loadB (some 5) (some (.cells (x0 :: x1 :: x2 :: x3 :: x4 :: c) e op r)) 0 = some (.agg [x0, x1, x2, x3, x4].toArray) := by simp [loadB, xpart]
theorem xp_nilc {a : Addr} : xpure .nilc [.pointer (some a)] = some (.pointer (some a)) := _root_.id rfl
theorem shMore : (type_of% @Nat.sub_zero) ∧ (type_of% @Nat.not_lt_zero) ∧ (type_of% @loadB_p2) ∧ (type_of% @loadB_p3) ∧ (type_of% @loadB_p4) ∧ (type_of% @loadB_p5) ∧ (type_of% @xp_nilc) ∧ (type_of% @xfill_nil) ∧ (type_of% @xfill_int) ∧ (type_of% @xfill_bool) ∧ (type_of% @xfill_slice) := ⟨@Nat.sub_zero, @Nat.not_lt_zero, @loadB_p2, @loadB_p3, @loadB_p4, @loadB_p5, @xp_nilc, @xfill_nil, @xfill_int, @xfill_bool, @xfill_slice⟩
end Go.Sim
