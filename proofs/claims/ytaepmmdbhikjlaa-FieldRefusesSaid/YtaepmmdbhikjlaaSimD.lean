/- The semantic simulation logic, part 4: addresses, slices, what is built. -/
import Derived.Test.YtaepmmdbhikjlaaSimC
namespace Go.Sim
open Go

/-! ### addresses -/
theorem runSim_fieldAddr {P : Program} {s : TypeId} {x : Operand} {f : Nat} {o : Oper} (ho : o.op = .fieldAddr s x f) {a : Addr} {H : AH} {off : Nat} {ft : TypeId} (h : fldT P s f = some (off, ft)) :
    RunSim P o [.pointer (some a)] H (.pointer (some ⟨a.block, a.off + off, none⟩)) H := by
  refine RunSim.pure_ fun i vs' hv ρ hρ => ?_
  obtain ⟨u', rfl, hu⟩ := hv.one
  rw [ho] at hρ
  simp [Op.operands] at hρ
  cases hu with
  | ptr hb _ =>
    rename_i L
    unfold fldT at h
    split at h
    · rename_i fs hu
      split at h
      · rename_i fx hf
        split at h
        · rename_i ti hti
          split at h
          · cases h
          · rename_i hz
            simp at h
            obtain ⟨rfl, rfl⟩ := h
            refine ⟨_, .ptr (a := ⟨a.block, a.off + fx.offset, none⟩) hb rfl, fun w => ?_⟩
            unfold execOp
            rw [ho]
            have hsz : szT P fx.type = some ti.size := by simp [szT, hti]
            simp only [hρ, Instr.fieldAt, Sem.run_bind, run_underlying' P hu, Result.andThen_ok, hf, Instr.sureAddr, Sem.run_pure, fieldPlace, run_sizeOf' P hsz, hz, if_false, addr_add, Nat.add_assoc]
        · cases h
      · cases h
    · cases h

def eindex (P : Program) (t : TypeId) (x : Value) (n : Int) : Option Value :=
  match x with
  | .pointer (some a) => match arrT P t, a.spot with
    | some (len, e), none => match szT P e with
      | some sz => if 0 ≤ n ∧ n < len then some (.pointer (some ⟨a.block, a.off + n.toNat * sz, none⟩)) else none
      | none => none
    | _, _ => none
  | .slice (some a) l _ => match slT P t, a.spot with
    | some e, none => match szT P e with
      | some sz => if 0 ≤ n ∧ n < l then some (.pointer (some ⟨a.block, a.off + n.toNat * sz, none⟩)) else none
      | none => none
    | _, _ => none
  | _ => none

theorem runSim_indexAddr {P : Program} {t : TypeId} {x y : Operand} {o : Oper} (ho : o.op = .indexAddr t x y) {u r : Value} {k : IntKind} {n : Int} {H : AH} (h : eindex P t u n = some r) : RunSim P o [u, .int k n] H r H := by
  refine RunSim.pure_ fun i vs' hv ρ hρ => ?_
  obtain ⟨u', n', rfl, hu, hn⟩ := hv.two
  cases hn
  rw [ho] at hρ
  simp [Op.operands] at hρ
  unfold eindex at h
  split at h
  · rename_i a
    cases hu with
    | ptr hb hs =>
      rename_i L
      split at h
      · rename_i len e ha _
        split at h
        · rename_i sz hsz
          split at h
          · rename_i hc
            cases h
            unfold arrT at ha
            split at ha
            · rename_i m e' hu
              cases ha
              refine ⟨_, .ptr (a := ⟨a.block, a.off + n.toNat * sz, none⟩) hb rfl, fun w => ?_⟩
              unfold execOp
              rw [ho]
              simp [hρ.1, hρ.2, Instr.indexAt, asIntOf, run_underlying' P hu, Instr.sureAddr, hc.1, hc.2, run_sizeOf' P hsz, addr_add, Nat.add_assoc]
            · cases ha
          · cases h
        · cases h
      · cases h
  · rename_i a l c
    split at h
    · rename_i e ha hsp
      split at h
      · rename_i sz hsz
        split at h
        · rename_i hc
          cases h
          unfold slT at ha
          split at ha
          · rename_i e' hut
            cases ha
            cases hu with
            | slice hb hs hcc =>
              rename_i L c'
              refine ⟨_, .ptr (a := ⟨a.block, a.off + n.toNat * sz, none⟩) hb rfl, fun w => ?_⟩
              unfold execOp
              rw [ho]
              simp [hρ.1, hρ.2, Instr.indexAt, asIntOf, run_underlying' P hut, hc.1, hc.2, run_sizeOf' P hsz, addr_add, Nat.add_assoc]
            | vague hs =>
              rw [hsp] at hs; cases hs
          · cases ha
        · cases h
      · cases h
    · cases h
  · cases h

/-! ### slices of slices -/
def bnds (lo hi : Bool) (vs : List Value) : Option (Option Int × Option Int) :=
  match lo, hi, vs with
  | false, false, [] => some (none, none)
  | true, false, [.int _ l] => some (some l, none)
  | false, true, [.int _ h] => some (none, some h)
  | true, true, [.int _ l, .int _ h] => some (some l, some h)
  | _, _, _ => none

def eslice (P : Program) (t : TypeId) (x : Value) (lo hi : Option Int) : Option Value :=
  match x with
  | .pointer (some a) => match arrT P t, a.spot with
    | some (n, e), none => match szT P e with
      | some sz => if 0 ≤ lo.getD 0 ∧ lo.getD 0 ≤ hi.getD n ∧ hi.getD n ≤ n then
          some (.slice (some (if n = (lo.getD 0).toNat then a else ⟨a.block, a.off + (lo.getD 0).toNat * sz, none⟩)) ((hi.getD n).toNat - (lo.getD 0).toNat) (n - (lo.getD 0).toNat)) else none
      | none => none
    | _, _ => none
  | .slice none 0 0 => if ((slT P t).bind (szT P)).isSome ∧ lo.getD 0 = 0 ∧ hi.getD 0 = 0 then some (.slice none 0 0) else none
  | .slice (some a) l c => match slT P t, a.spot with
    | some e, none => match szT P e with
      | some sz => if 0 ≤ lo.getD 0 ∧ lo.getD 0 ≤ hi.getD l ∧ hi.getD l ≤ c then
          (if lo.getD 0 = 0 then some (.slice (some a) (hi.getD l).toNat c)
           else if lo.getD 0 < c then some (.slice (some ⟨a.block, a.off + (lo.getD 0).toNat * sz, none⟩) ((hi.getD l).toNat - (lo.getD 0).toNat) (c - (lo.getD 0).toNat))
           else some (.slice (some ⟨a.block, a.off, some 0⟩) 0 0)) else none
      | none => none
    | _, _ => none
  | _ => none

theorem sliceBounds_run {P : Program} (w : World) (isS : Bool) (len cap : Nat) {lo hi : Option Value} {l h : Option Int} (hl : (lo = none ∧ l = none) ∨ ∃ k n, lo = some (.int k n) ∧ l = some n) (hh : (hi = none ∧ h = none) ∨ ∃ k n, hi = some (.int k n) ∧ h = some n)
    (h0 : 0 ≤ l.getD 0) (h1 : l.getD 0 ≤ h.getD len) (h2 : h.getD len ≤ cap) :
    (Instr.sliceBounds isS len cap lo hi none).run P w = .ok ((l.getD 0).toNat, (h.getD len).toNat, cap) w := by
  have nn : 0 ≤ h.getD len := by omega
  rcases hl with ⟨rfl, rfl⟩ | ⟨k, n, rfl, rfl⟩ <;> rcases hh with ⟨rfl, rfl⟩ | ⟨k2, m, rfl, rfl⟩
  · simp [Instr.sliceBounds]
  · simp only [Option.getD_some] at h1 h2 nn
    simp [Instr.sliceBounds, run_sliceBound w k2 m cap _ nn h2]
  · simp only [Option.getD_some, Option.getD_none] at h0 h1
    simp [Instr.sliceBounds, run_sliceBound w k n len _ h0 h1]
  · simp only [Option.getD_some] at h0 h1 h2 nn
    have e : ((m.toNat : Nat) : Int) = m := Int.toNat_of_nonneg nn
    simp [Instr.sliceBounds, run_sliceBound w k2 m cap _ nn h2, run_sliceBound w k n m.toNat _ h0 (by omega)]

theorem VR.int_inv {i : Inj} {k : IntKind} {n : Int} {v : Value} (h : VR i (.int k n) v) : v = .int k n := by cases h; rfl

theorem runSim_slice {P : Program} {t : TypeId} {x : Operand} {lo hi : Option Operand} {o : Oper} (ho : o.op = .slice t x lo hi none) {u r : Value} {vs : List Value} {l h : Option Int} {H : AH}
    (hb : bnds lo.isSome hi.isSome vs = some (l, h)) (hr : eslice P t u l h = some r) : RunSim P o (u :: vs) H r H := by
  refine RunSim.pure_ fun i vs' hv ρ hρ => ?_
  -- the bounds on the world's side
  obtain ⟨u', hu, he, hlo, hhi⟩ : ∃ u', VR i u u' ∧ ρ x = u' ∧ ((lo.map ρ = none ∧ l = none) ∨ ∃ k n, lo.map ρ = some (.int k n) ∧ l = some n) ∧ ((hi.map ρ = none ∧ h = none) ∨ ∃ k n, hi.map ρ = some (.int k n) ∧ h = some n) := by
    rw [ho] at hρ
    cases hv with
    | cons hu hrest =>
      unfold bnds at hb
      split at hb
      · rename_i e1 e2
        cases hb
        cases hrest
        simp at e1 e2
        subst e1 e2
        simp [Op.operands] at hρ
        exact ⟨_, hu, hρ, .inl ⟨rfl, rfl⟩, .inl ⟨rfl, rfl⟩⟩
      · rename_i k n e1 e2
        cases hb
        cases hrest with
        | cons h1 h2 =>
          cases h2
          have := h1.int_inv
          subst this
          obtain ⟨lx, rfl⟩ := Option.isSome_iff_exists.1 e1
          simp at e2
          subst e2
          simp [Op.operands] at hρ
          exact ⟨_, hu, hρ.1, .inr ⟨k, n, by simp [hρ.2], rfl⟩, .inl ⟨rfl, rfl⟩⟩
      · rename_i k n e1 e2
        cases hb
        cases hrest with
        | cons h1 h2 =>
          cases h2
          have := h1.int_inv
          subst this
          obtain ⟨lx, rfl⟩ := Option.isSome_iff_exists.1 e2
          simp at e1
          subst e1
          simp [Op.operands] at hρ
          exact ⟨_, hu, hρ.1, .inl ⟨rfl, rfl⟩, .inr ⟨k, n, by simp [hρ.2], rfl⟩⟩
      · rename_i k n k2 m e1 e2
        cases hb
        cases hrest with
        | cons h1 h2 =>
          cases h2 with
          | cons h3 h4 =>
            cases h4
            have := h1.int_inv
            subst this
            have := h3.int_inv
            subst this
            obtain ⟨lx, rfl⟩ := Option.isSome_iff_exists.1 e1
            obtain ⟨hx, rfl⟩ := Option.isSome_iff_exists.1 e2
            simp [Op.operands] at hρ
            exact ⟨_, hu, hρ.1, .inr ⟨k, n, by simp [hρ.2.1], rfl⟩, .inr ⟨k2, m, by simp [hρ.2.2], rfl⟩⟩
      · cases hb
  have hex : ∀ w v, (Instr.sliceAt t u' (lo.map ρ) (hi.map ρ) none).run P w = .ok v w → (execOp ρ o).run P w = .ok (.value v) w := by
    intro w v hv
    unfold execOp
    rw [ho]
    simp only [he, Option.map_none, Sem.run_bind, hv, Result.andThen_ok, Sem.run_pure]
  unfold eslice at hr
  split at hr
  · rename_i a
    cases hu with
    | ptr hb hs =>
      rename_i L
      split at hr
      · rename_i n e ha _
        split at hr
        · rename_i sz hsz
          split at hr
          · rename_i hc
            cases hr
            unfold arrT at ha
            split at ha
            · rename_i m e' hut
              cases ha
              have hB := fun w => sliceBounds_run (P := P) w false n n hlo hhi hc.1 hc.2.1 hc.2.2
              refine ⟨.slice (some (if n = (l.getD 0).toNat then (⟨L.blk, L.base + a.off, none⟩ : Addr) else ⟨L.blk, L.base + a.off + (l.getD 0).toNat * sz, none⟩)) ((h.getD n).toNat - (l.getD 0).toNat) (n - (l.getD 0).toNat), ?_, fun w => hex w _ ?_⟩
              · split
                · exact .slice hb hs (.inl rfl)
                · rw [Nat.add_assoc]; exact .slice (a := ⟨a.block, a.off + (l.getD 0).toNat * sz, none⟩) hb rfl (.inl rfl)
              · simp only [Instr.sliceAt, Sem.run_bind, run_underlying' P hut, Result.andThen_ok, Instr.sureAddr, Sem.run_pure, hB w, run_sizeOf' P hsz, addr_add]
            · cases ha
          · cases hr
        · cases hr
      · cases hr
  · split at hr
    · rename_i hc
      cases hr
      obtain ⟨hc1, hc2, hc3⟩ := hc
      unfold slT at hc1
      split at hc1
      · rename_i e hut
        cases hu
        obtain ⟨sz, hsz⟩ := Option.isSome_iff_exists.1 hc1
        simp only [Option.bind_some] at hsz
        have hB := fun w => sliceBounds_run (P := P) w true 0 0 hlo hhi (by omega) (by simp; omega) (by simp; omega)
        refine ⟨.slice none 0 0, .snil 0 0, fun w => hex w _ ?_⟩
        have e1 : (l.getD 0).toNat = 0 := by omega
        have e2 : (h.getD ((0 : Nat) : Int)).toNat = 0 := by simp; omega
        simp only [Instr.sliceAt, Sem.run_bind, run_underlying' P hut, Result.andThen_ok, Instr.slice, hB w, run_sizeOf' P hsz, Sem.run_pure, Option.map_none, ite_self, e1, e2]
      · simp at hc1
    · cases hr
  · rename_i _ a n c
    split at hr
    · rename_i e ha hsp
      split at hr
      · rename_i sz hsz
        unfold slT at ha
        split at ha
        · rename_i e' hut
          cases ha
          cases hu with
          | slice hb hs hcc =>
            rename_i L c'
            split at hr
            · rename_i hc
              have hcle : c ≤ c' := by rcases hcc with rfl | rfl <;> omega
              have hB := fun w => sliceBounds_run (P := P) w true n c' hlo hhi hc.1 hc.2.1 (by omega)
              have hrun : ∀ w, (Instr.sliceAt t (.slice (some ⟨L.blk, L.base + a.off, none⟩) n c') (lo.map ρ) (hi.map ρ) none).run P w =
                  .ok (.slice (if c' = (l.getD 0).toNat then some ⟨L.blk, L.base + a.off, none⟩ else some ⟨L.blk, L.base + a.off + (l.getD 0).toNat * sz, none⟩) ((h.getD n).toNat - (l.getD 0).toNat) (c' - (l.getD 0).toNat)) w := by
                intro w
                simp only [Instr.sliceAt, Sem.run_bind, run_underlying' P hut, Result.andThen_ok, Instr.slice, hB w, run_sizeOf' P hsz, Sem.run_pure, Option.map_some, addr_add]
              by_cases hl0 : l.getD 0 = 0
              · rw [if_pos hl0] at hr
                cases hr
                refine ⟨_, ?_, fun w => hex w _ (hrun w)⟩
                simp only [hl0, Int.toNat_zero, Nat.zero_mul, Nat.add_zero, Nat.sub_zero, ite_self]
                exact .slice hb hs hcc
              · rw [if_neg hl0] at hr
                by_cases hlc : l.getD 0 < c
                · rw [if_pos hlc] at hr
                  cases hr
                  refine ⟨_, ?_, fun w => hex w _ (hrun w)⟩
                  rw [if_neg (by omega), Nat.add_assoc]
                  exact .slice (a := ⟨a.block, a.off + (l.getD 0).toNat * sz, none⟩) hb rfl (by rcases hcc with rfl | rfl <;> omega)
                · rw [if_neg hlc] at hr
                  cases hr
                  refine ⟨_, ?_, fun w => hex w _ (hrun w)⟩
                  have e1 : (h.getD n).toNat - (l.getD 0).toNat = 0 := by omega
                  rw [e1]
                  split <;> exact .vague (s := 0) rfl
            · cases hr
          | vague hs => rw [hsp] at hs; cases hs
        · cases ha
      · cases hr
    · cases hr
  · cases hr

end Go.Sim
