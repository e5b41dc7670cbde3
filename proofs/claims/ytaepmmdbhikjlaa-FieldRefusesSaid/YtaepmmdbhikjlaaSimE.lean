/- The semantic simulation logic, part 5: what is made, built, appended. -/
import Derived.Test.YtaepmmdbhikjlaaSimD
namespace Go.Sim
open Go

def madeL (z : Value) (n : Nat) : List Value := (madeCells z.cells n).toList
theorem scal_list {i : Inj} : ∀ {l : List Value}, l.all scal = true → VRs i l l
  | [], _ => .nil
  | x :: l, h => by
    simp at h
    exact .cons (VR.of_scal h.1 i) (scal_list (by simpa using h.2))
theorem madeL_rel {i : Inj} {z : Value} {n : Nat} (h : z.cells.all scal = true) (h0 : 0 < z.cells.size) : VRs i (madeL z n) (madeL z n) := by
  refine scal_list ?_
  rw [List.all_eq_true]
  intro x hx
  simp [madeL, madeCells] at hx
  obtain ⟨k, hk, rfl⟩ := hx
  have hlt : k % z.cells.size < z.cells.size := Nat.mod_lt _ h0
  rw [getElem!_pos z.cells _ hlt]
  exact Array.all_eq_true.1 h _ hlt

def emake (P : Program) (t : TypeId) (l c : Int) : Option (List Value × TypeId) :=
  match slT P t with
  | some e => match P.info? e with
    | some ti => match ti.zero with
      | some z => if 0 ≤ l ∧ l ≤ c ∧ (ti.bytes : Int) * c ≤ 281474976710656 ∧ c ≤ 9223372036854775807 ∧ z.cells.all scal ∧ 0 < z.cells.size then some (madeL z (c.toNat * ti.size), e) else none
      | none => none
    | none => none
  | none => none
theorem newSim_makeSlice {P : Program} {t : TypeId} {x y : Operand} {o : Oper} (ho : o.op = .makeSlice t x y) {k k' : IntKind} {l c : Int} {cs : List Value} {e : TypeId} (h : emake P t l c = some (cs, e)) : NewSim P o [.int k l, .int k' c] cs e (mkSl l.toNat c.toNat) := by
  unfold emake at h
  split at h
  · rename_i e hs
    split at h
    · rename_i ti hti
      split at h
      · rename_i z hz
        split at h
        · rename_i hc
          cases h
          refine ⟨mkSl_rel _ _, by rw [ho]; simp, fun i w vs' hv ρ hρ => ⟨madeL z (c.toNat * ti.size), madeL_rel hc.2.2.2.2.1 hc.2.2.2.2.2, ?_⟩⟩
          obtain ⟨a, b, rfl, h1, h2⟩ := hv.two
          have := h1.int_inv; subst this
          have := h2.int_inv; subst this
          rw [ho] at hρ
          simp [Op.operands] at hρ
          unfold slT at hs
          split at hs
          · rename_i e' hu
            cases hs
            have hm := run_make (P := P) w t e ti z hu hti hz k k' l c hc.1 hc.2.1 hc.2.2.1 hc.2.2.2.1
            unfold execOp
            rw [ho]
            simp only [hρ.1, hρ.2, Sem.run_bind, hm, Result.andThen_ok, Sem.run_pure, madeL, Array.toArray_toList]
          · cases hs
        · cases h
      · cases h
    · cases h
  · cases h

/-! ### building -/
def VA (i : Inj) (a b : Array Value) : Prop := VRs i a.toList b.toList
theorem VA.size {i : Inj} {a b : Array Value} (h : VA i a b) : b.size = a.size := by have := VRs.length h; simpa using this.symm
theorem VA.set {i : Inj} {a b : Array Value} (h : VA i a b) (k : Nat) {v v' : Value} (hv : VR i v v') : VA i (a.setIfInBounds k v) (b.setIfInBounds k v') := by
  have hs := h.size
  refine VRs.of_get (by simp [hs]) (fun m h1 h2 => ?_)
  simp only [Array.toList_setIfInBounds, List.getElem_set]
  split
  · exact hv
  · exact VRs.at_ h m (by simpa using h1) (by simpa using h2)

theorem fold_rel {i : Inj} (off : Nat) : ∀ (l l' : List Value) (n : Nat) (a b : Array Value), VRs i l l' → VA i a b →
    VA i ((l.zipIdx n).foldl (fun cs (x : Value × Nat) => cs.setIfInBounds (off + x.2) x.1) a) ((l'.zipIdx n).foldl (fun cs (x : Value × Nat) => cs.setIfInBounds (off + x.2) x.1) b)
  | [], _, _, _, _, h, hab => by cases h; exact hab
  | x :: l, _, n, a, b, h, hab => by
    cases h with
    | cons h1 h2 =>
      simp only [List.zipIdx_cons, List.foldl_cons]
      exact fold_rel off l _ (n + 1) _ _ h2 (hab.set _ h1)

inductive PartsR (i : Inj) : List (Nat × Value) → List (Nat × Value) → Prop
  | nil : PartsR i [] []
  | cons {n : Nat} {v v' : Value} {l l' : List (Nat × Value)} : VR i v v' → PartsR i l l' → PartsR i ((n, v) :: l) ((n, v') :: l')

theorem fill_rel {i : Inj} {place : Nat → Option (Nat × Nat)} : ∀ (ps ps' : List (Nat × Value)) (a b r : Array Value), PartsR i ps ps' → VA i a b → Instr.fill place a ps = some r → ∃ r', Instr.fill place b ps' = some r' ∧ VA i r r'
  | [], _, a, b, r, h, hab, hf => by
    cases h
    simp [Instr.fill] at hf
    subst hf
    exact ⟨b, rfl, hab⟩
  | (n, v) :: ps, _, a, b, r, h, hab, hf => by
    cases h with
    | cons h1 h2 =>
      rename_i v' l'
      unfold Instr.fill at hf ⊢
      have e1 := h1.cells_size
      have e2 := hab.size
      cases hp : place n with
      | none => simp [hp] at hf
      | some os =>
        obtain ⟨off, size⟩ := os
        simp only [hp] at hf ⊢
        rw [e1, e2]
        split at hf
        · cases hf
        · rename_i hc
          rw [if_neg hc]
          refine fill_rel ps l' _ _ r h2 ?_ hf
          have hz := fold_rel off v.cells.toList v'.cells.toList 0 a b h1.cells hab
          rw [← Array.foldl_toList, ← Array.foldl_toList, Array.toList_zipIdx, Array.toList_zipIdx]
          exact hz

def eparts (ps : Array (Nat × Operand)) (vs : List Value) : List (Nat × Value) := (ps.toList.map (·.1)).zip vs
theorem parts_rel {i : Inj} {ρ : Operand → Value} : ∀ (ps : List (Nat × Operand)) (vs : List Value), VRs i vs (ps.map fun p => ρ p.2) → PartsR i ((ps.map (·.1)).zip vs) (ps.map fun p => (p.1, ρ p.2))
  | [], _, h => by cases h; exact .nil
  | (n, x) :: ps, vs, h => by
    cases h with
    | cons h1 h2 => exact .cons h1 (parts_rel ps _ h2)

def ebuildSlice (P : Program) (t : TypeId) (len : Nat) (parts : Array (Nat × Operand)) (vs : List Value) : Option (List Value × TypeId) :=
  match slT P t with
  | some e => match szT P e, zeroT P e with
    | some sz, some z => if len * sz ≤ 16777216 ∧ z.cells.all scal ∧ 0 < z.cells.size then
        (match Instr.fill (fun i => some (i * sz, sz)) (if len * sz = 0 then #[] else madeCells z.cells (len * sz)) (eparts parts vs) with
        | some cs => some (cs.toList, e)
        | none => none) else none
    | _, _ => none
  | none => none

theorem VA.made {i : Inj} {z : Value} {n : Nat} (h : z.cells.all scal = true) (h0 : 0 < z.cells.size) : VA i (madeCells z.cells n) (madeCells z.cells n) := madeL_rel h h0

theorem newSim_buildSlice {P : Program} {t : TypeId} {len : Nat} {parts : Array (Nat × Operand)} {o : Oper} (ho : o.op = .buildSlice t len parts) {vs : List Value} {cl : List Value} {e0 : TypeId} (h : ebuildSlice P t len parts vs = some (cl, e0)) : NewSim P o vs cl e0 (mkSl len len) := by
  unfold ebuildSlice at h
  split at h
  · rename_i e hs
    split at h
    · rename_i sz z hsz hz
      split at h
      · rename_i hc
        split at h
        · rename_i cs hf
          cases h
          refine ⟨mkSl_rel _ _, by rw [ho]; simp, fun i w vs' hv ρ hρ => ?_⟩
          rw [ho] at hρ
          simp only [Op.operands, List.map_map] at hρ
          subst hρ
          have hv2 : VRs i vs (parts.toList.map fun p => ρ p.2) := by
            have e1 : (parts.toList.map fun p => ρ p.2) = List.map (ρ ∘ fun x => x.2) parts.toList := rfl
            rw [e1]
            simpa using hv
          have hp := parts_rel (i := i) (ρ := ρ) parts.toList vs hv2
          have hb : VA i (if len * sz = 0 then #[] else madeCells z.cells (len * sz)) (if len * sz = 0 then #[] else madeCells z.cells (len * sz)) := by
            split
            · exact VRs.nil
            · exact VA.made hc.2.1 hc.2.2
          obtain ⟨r', hf', hr'⟩ := fill_rel _ _ _ _ cs hp hb hf
          refine ⟨r'.toList, hr', ?_⟩
          unfold slT at hs
          split at hs
          · rename_i e' hu
            cases hs
            unfold execOp
            rw [ho]
            have hlt : ¬ (16777216 < len * sz) := by omega
            by_cases hz0 : len * sz = 0
            · rw [if_pos hz0] at hf'
              rw [hz0] at hlt
              simp [Instr.buildSlice, run_underlying' P hu, run_sizeOf' P hsz, hz0]
              rw [Array.range_zero', Array.map_empty, hf']
              rfl
            · rw [if_neg hz0] at hf'
              have hmade : (Array.map (fun x => z.cells[x % z.cells.size]!) (Array.range (len * sz))) = madeCells z.cells (len * sz) := rfl
              simp [Instr.buildSlice, run_underlying' P hu, run_sizeOf' P hsz, hz0, hlt, run_zero' P hz]
              rw [hmade, hf']
              rfl
          · cases hs
        · cases h
      · cases h
    · cases h
  · cases h

/-! ### functions as values -/
theorem runSim_makeFunc {P : Program} {f : FuncId} {first cap : Array Operand} {o : Oper} (ho : o.op = .makeFunc (.func f) first cap) {u v : List Value} {H : AH} (hu : u.length = first.size) (hv : v.length = cap.size) :
    RunSim P o (u ++ v) H (.func (.func f) u.toArray v.toArray) H := by
  refine RunSim.pure_ fun i vs' hvs ρ hρ => ?_
  rw [ho] at hρ
  simp [Op.operands] at hρ
  subst hρ
  have h1 : VRs i u (first.toList.map ρ) ∧ VRs i v (cap.toList.map ρ) := by
    have key : ∀ (u : List Value) (a : List Value) (b : List Value), u.length = a.length → VRs i (u ++ v) (a ++ b) → VRs i u a ∧ VRs i v b := by
      intro u
      induction u with
      | nil => intro a b hl h; cases a with
        | nil => exact ⟨.nil, h⟩
        | cons _ _ => simp at hl
      | cons x u ih => intro a b hl h; cases a with
        | nil => simp at hl
        | cons y a => cases h with
          | cons p q => exact ⟨.cons p (ih a b (by simpa using hl) q).1, (ih a b (by simpa using hl) q).2⟩
    exact key u _ _ (by simp [hu]) hvs
  refine ⟨.func (.func f) (first.map ρ) (cap.map ρ), ?_, fun w => ?_⟩
  · refine .func (.func f) (by simp [hu]) (fun k p q => ?_) (by simp [hv]) (fun k p q => ?_)
    · have := h1.1.at_ k (by simpa using p) (by simpa using q); simpa using this
    · have := h1.2.at_ k (by simpa using p) (by simpa using q); simpa using this
  · unfold execOp
    rw [ho]
    simp [Instr.makeFunc]

/-! ### builtins -/
theorem run_builtin_exec {P : Program} {o : Oper} {b : Builtin} {args : Array Operand} {tys : Array TypeId} (ho : o.op = .call { callee := .builtin b, args, argTypes := tys }) (ρ : Operand → Value) (w : World) :
    (execOp ρ o).run P w = (builtin b tys o.type (args.map fun | .const _ => true | _ => false) (args.map ρ)).run P w := by
  unfold execOp
  rw [ho]
  simp only [resolve, invoke, Sem.run_bind, Sem.run_pure, Result.andThen_ok]
  rfl

def elen (P : Program) (t : TypeId) (v : Value) : Option Int :=
  match P.underlying t, v with
  | some .string, .string s => some s.size
  | some (.slice _), .slice _ n _ => some n
  | some (.array n _), _ => some n
  | _, _ => none
theorem runSim_len {P : Program} {o : Oper} {x : Operand} {t : TypeId} (ho : o.op = .call { callee := .builtin .len, args := #[x], argTypes := #[t] }) {v : Value} {n : Int} {H : AH} (h : elen P t v = some n) : RunSim P o [v] H (.int .i64 n) H := by
  refine RunSim.pure_ fun i vs' hv ρ hρ => ?_
  obtain ⟨v', rfl, hv'⟩ := hv.one
  have e1 : ρ x = v' := by rw [ho] at hρ; simpa [Op.operands, Call.operands] using hρ
  refine ⟨_, .int _ _, fun w => ?_⟩
  rw [run_builtin_exec ho]
  unfold elen at h
  split at h
  · rename_i s hu
    cases hv'
    cases h
    simp [builtin, Builtin.len_, e1, run_underlying' P hu, goInt]
  · rename_i e n m hu
    cases h
    cases hv' <;> simp [builtin, Builtin.len_, e1, run_underlying' P hu, goInt]
  · rename_i n e hu
    cases h
    simp [builtin, Builtin.len_, e1, run_underlying' P hu, goInt]
  · cases h

/-- The least of two integers; the greatest. -/
theorem runSim_min {P : Program} {o : Oper} {x y : Operand} {tys : Array TypeId} (ho : o.op = .call { callee := .builtin .min, args := #[x, y], argTypes := tys }) {k : IntKind} {a b : Int} {H : AH} : RunSim P o [.int k a, .int k b] H (.int k (if b < a then b else a)) H := by
  refine RunSim.pure_ fun i vs' hv ρ hρ => ?_
  obtain ⟨u, v, rfl, h1, h2⟩ := hv.two
  have := h1.int_inv; subst this
  have := h2.int_inv; subst this
  rw [ho] at hρ
  simp [Op.operands, Call.operands] at hρ
  refine ⟨_, .int _ _, fun w => ?_⟩
  rw [run_builtin_exec ho]
  simp [builtin, Builtin.min_, hρ.1, hρ.2, Builtin.min2, List.foldlM]
theorem runSim_max {P : Program} {o : Oper} {x y : Operand} {tys : Array TypeId} (ho : o.op = .call { callee := .builtin .max, args := #[x, y], argTypes := tys }) {k : IntKind} {a b : Int} {H : AH} : RunSim P o [.int k a, .int k b] H (.int k (if a < b then b else a)) H := by
  refine RunSim.pure_ fun i vs' hv ρ hρ => ?_
  obtain ⟨u, v, rfl, h1, h2⟩ := hv.two
  have := h1.int_inv; subst this
  have := h2.int_inv; subst this
  rw [ho] at hρ
  simp [Op.operands, Call.operands] at hρ
  refine ⟨_, .int _ _, fun w => ?_⟩
  rw [run_builtin_exec ho]
  simp [builtin, Builtin.max_, hρ.1, hρ.2, Builtin.max2, List.foldlM]

end Go.Sim
