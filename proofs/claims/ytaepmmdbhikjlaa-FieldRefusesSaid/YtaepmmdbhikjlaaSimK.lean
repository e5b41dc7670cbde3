/- The semantic simulation logic, part 11: operations with all types looked up, as functions. -/
import Derived.Test.YtaepmmdbhikjlaaSimJ
namespace Go.Sim
open Go

/-! ### more operations: build, the part of an array or struct value -/
theorem VA.of_list {i : Inj} {a b : Array Value} (h : VRs i a.toList b.toList) : VA i a b := h

theorem runSim_build_struct {P : Program} {t : TypeId} {parts : Array (Nat × Operand)} {o : Oper} (ho : o.op = .build t parts) {vs : List Value} {z : Value} {r : Array Value} {H : AH} (hz : zeroT P t = some z) (hg : z.cells.all scal = true)
    {place : Nat → Option (Nat × Nat)} (hpl : (∃ fs pl, P.underlying t = some (.struct fs) ∧ fs.toList.mapM (fun f => (szT P f.type).map fun n => (f.offset, n)) = some pl ∧ place = fun i => pl.toArray[i]?) ∨
      (∃ n e sz, P.underlying t = some (.array n e) ∧ szT P e = some sz ∧ place = fun i => some (i * sz, sz)))
    (hf : Instr.fill place z.cells (eparts parts vs) = some r) : RunSim P o vs H (.agg r) H := by
  refine RunSim.pure_ fun i vs' hv ρ hρ => ?_
  rw [ho] at hρ
  simp only [Op.operands, List.map_map] at hρ
  subst hρ
  have hv2 : VRs i vs (parts.toList.map fun p => ρ p.2) := by
    have e1 : (parts.toList.map fun p => ρ p.2) = List.map (ρ ∘ fun x => x.2) parts.toList := rfl
    rw [e1]
    simpa using hv
  have hp := parts_rel (i := i) (ρ := ρ) parts.toList vs hv2
  have hb : VA i z.cells z.cells := scal_list (by simpa using hg)
  obtain ⟨r', hf', hr'⟩ := fill_rel _ _ _ _ r hp hb hf
  refine ⟨.agg r', ?_, fun w => ?_⟩
  · have := VRs.arr hr'
    simpa using this
  · have hparts : (parts.map fun (x : Nat × Operand) => (x.1, ρ x.2)).toList = parts.toList.map fun p => (p.1, ρ p.2) := by simp
    unfold execOp
    rw [ho]
    rcases hpl with ⟨fs, pl, hu, hm, rfl⟩ | ⟨n, e, sz, hu, hs, rfl⟩
    · have hplaces : (fs.mapM fun f => do pure (f.offset, ← sizeOf f.type) : Sem (Array (Nat × Nat))).run P w = .ok pl.toArray w := by
        rw [← Array.toArray_toList (xs := fs)]
        generalize fs.toList = l at hm
        rw [List.mapM_toArray]
        have : (l.mapM fun f => do pure (f.offset, ← sizeOf f.type) : Sem (List (Nat × Nat))).run P w = .ok pl w := by
          clear hf hf'
          induction l generalizing pl with
          | nil => simp at hm; subst hm; simp
          | cons f l ih =>
            simp only [List.mapM_cons, Option.bind_eq_bind, Option.bind_eq_some_iff] at hm
            obtain ⟨x, h1, y, h2, h3⟩ := hm
            simp only [Option.map_eq_some_iff] at h1
            obtain ⟨n, h1, rfl⟩ := h1
            cases h3
            have := ih y h2
            simp only [List.mapM_cons, Sem.run_bind, run_sizeOf' P h1, Result.andThen_ok, Sem.run_pure, this]
        simp only [Sem.run_map, this]
        rfl
      simp only [Instr.build, Sem.run_bind, run_zero' P hz, Result.andThen_ok, run_underlying' P hu, hplaces, hparts, hf', Sem.run_pure]
    · simp only [Instr.build, Sem.run_bind, run_zero' P hz, Result.andThen_ok, run_underlying' P hu, run_sizeOf' P hs, hparts, hf', Sem.run_pure]

/-- The part of a value at off: sz for an array or a struct. -/
def xpart (sz : Option Nat) (cs : List Value) (off : Nat) : Option Value :=
  match sz with
  | none => cs[off]?
  | some n => if off + n ≤ cs.length then some (.agg ((cs.drop off).take n).toArray) else none

def partT (P : Program) (t : TypeId) : Option (Option Nat) :=
  if (P.underlying t).isNone then none else if aggT P t then (szT P t).map some else some none

theorem part_sim {P : Program} {i : Inj} {t : TypeId} {sz : Option Nat} (ht : partT P t = some sz) {cs cs' : Array Value} (hs : cs.size = cs'.size) (h : ∀ k (h : k < cs.size) (h' : k < cs'.size), VR i cs[k] cs'[k]) {off : Nat} {v : Value} (hv : xpart sz cs.toList off = some v) :
    ∃ v', VR i v v' ∧ ∀ w, (part t cs' off).run P w = .ok v' w := by
  unfold partT at ht
  split at ht
  · cases ht
  · rename_i hn
    obtain ⟨d, hd⟩ : ∃ d, P.underlying t = some d := by
      cases hh : P.underlying t with
      | none => simp [hh] at hn
      | some d => exact ⟨d, rfl⟩
    have hl : VRs i cs.toList cs'.toList := VRs.of_arr hs h
    split at ht
    · rename_i ha
      simp only [Option.map_eq_some_iff] at ht
      obtain ⟨n, h1, rfl⟩ := ht
      unfold xpart at hv
      split at hv
      · rename_i e; cases e
      · rename_i m e
        cases e
        split at hv
        · rename_i hfit
          cases hv
          refine ⟨.agg (cs'.extract off (off + n)), ?_, fun w => ?_⟩
          · refine .agg (by simp at hfit; simp; omega) (fun k p q => ?_)
            simp only [List.getElem_toArray, List.getElem_take, List.getElem_drop, Array.getElem_toList, Array.getElem_extract]
            exact h _ _ _
          · unfold part
            simp [run_isAgg' P hd, ha, run_sizeOf' P h1]
        · cases hv
    · rename_i ha
      cases ht
      unfold xpart at hv
      split at hv
      · obtain ⟨v', h1, h2⟩ := hl.get hv
        refine ⟨v', h2, fun w => ?_⟩
        unfold part
        have e : cs'[off]? = some v' := by simpa using h1
        simp [run_isAgg' P hd, ha, e]
      · rename_i e; cases e

theorem runSim_index_agg {P : Program} {t : TypeId} {x y : Operand} {o : Oper} (ho : o.op = .index t x y) {len : Nat} {e : TypeId} (ht : arrT P t = some (len, e)) {es : Nat} (hes : szT P e = some es) {sz : Option Nat} (hp : partT P e = some sz)
    {cs : Array Value} {k : IntKind} {n : Int} (h0 : 0 ≤ n) (hn : n < len) {v : Value} (hv : xpart sz cs.toList (n.toNat * es) = some v) {H : AH} : RunSim P o [.agg cs, .int k n] H v H := by
  refine RunSim.pure_ fun i vs' hvs ρ hρ => ?_
  obtain ⟨u', n', rfl, h1, h2⟩ := hvs.two
  cases h2
  cases h1 with
  | agg hs hk =>
    rename_i cs'
    obtain ⟨v', q1, q2⟩ := part_sim hp hs hk hv
    rw [ho] at hρ
    simp [Op.operands] at hρ
    obtain ⟨hd⟩ : ∃ d, P.underlying t = some d := by
      unfold arrT at ht
      split at ht
      · rename_i h; exact ⟨_, h⟩
      · cases ht
    refine ⟨v', q1, fun w => ?_⟩
    unfold execOp
    rw [ho]
    unfold arrT at ht
    split at ht
    · rename_i hu
      cases ht
      simp [Instr.index, hρ.1, hρ.2, asIntOf, run_underlying' P hu, h0, hn, run_sizeOf' P hes, q2]
    · cases ht

theorem runSim_field_agg {P : Program} {t : TypeId} {x : Operand} {f : Nat} {o : Oper} (ho : o.op = .field t x f) {fs : Array Field} (hu : P.underlying t = some (.struct fs)) {fd : Field} (hf : fs[f]? = some fd) {sz : Option Nat} (hp : partT P fd.type = some sz)
    {cs : Array Value} {v : Value} (hv : xpart sz cs.toList fd.offset = some v) {H : AH} : RunSim P o [.agg cs] H v H := by
  refine RunSim.pure_ fun i vs' hvs ρ hρ => ?_
  obtain ⟨u', rfl, h1⟩ := hvs.one
  cases h1 with
  | agg hs hk =>
    rename_i cs'
    obtain ⟨v', q1, q2⟩ := part_sim hp hs hk hv
    rw [ho] at hρ
    simp [Op.operands] at hρ
    refine ⟨v', q1, fun w => ?_⟩
    unfold execOp
    rw [ho]
    simp [Instr.field, hρ, asAgg, run_underlying' P hu, hf, q2]

end Go.Sim
