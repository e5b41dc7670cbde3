/- The semantic simulation logic, part 3: operations on memory. -/
import Derived.Test.YtaepmmdbhikjlaaSimB
import Derived.Laws.Append
import Derived.Laws.AppendOwn
import Derived.Laws.CopyRow
import Derived.Laws.MakeOwn
import Derived.Laws.Slices
import Derived.Laws.Entries
namespace Go.Sim
open Go

theorem addr_add (b o j : Nat) : (⟨b, o, none⟩ : Addr).add j = ⟨b, o + j, none⟩ := by
  unfold Addr.add
  split <;> simp_all

/-- Lists of cells that are read. -/
theorem pick_list {i : Inj} {C : Nat → Value → Prop} : ∀ (xs : List Value) (o : Nat), (∀ k v, xs[k]? = some v → ∃ v', C (o + k) v' ∧ VR i v v') →
    ∃ l', VRs i xs l' ∧ ∀ j v, l'[j]? = some v → C (o + j) v
  | [], _, _ => ⟨[], .nil, fun j v h => by simp at h⟩
  | x :: xs, o, h => by
    obtain ⟨x', h1, h2⟩ := h 0 x rfl
    obtain ⟨l', h3, h4⟩ := pick_list xs (o + 1) (fun k v hk => by
      obtain ⟨v', a, b⟩ := h (k + 1) v (by simpa using hk)
      exact ⟨v', by rw [Nat.add_assoc, Nat.add_comm 1 k]; exact a, b⟩)
    refine ⟨x' :: l', .cons h2 h3, fun j v hj => ?_⟩
    cases j with
    | zero => simp at hj; subst hj; exact h1
    | succ j =>
      have := h4 j v (by simpa using hj)
      rwa [Nat.add_assoc, Nat.add_comm 1 j] at this

theorem Rel.row {i : Inj} {H : AH} {w : World} (h : Rel i H w) {b : Nat} {L : Loc} {c : List Value} {e : TypeId} {o : Option Nat} {r : Bool} (hb : i b = some L) (hH : H[b]? = some (.cells c e o r)) (off n : Nat) (hn : off + n ≤ c.length) :
    ∃ l', VRs i ((c.drop off).take n) l' ∧ l'.length = n ∧ ∀ j v, l'[j]? = some v → w.cell? ((⟨L.blk, L.base + off, none⟩ : Addr).add j) = some v := by
  obtain ⟨l', h1, h2⟩ := pick_list (i := i) (C := fun k v => w.cell? ⟨L.blk, L.base + k, none⟩ = some v) ((c.drop off).take n) off (fun k v hk => by
    rw [List.getElem?_take] at hk
    split at hk
    · rw [List.getElem?_drop] at hk; exact h.cell hb hH hk
    · cases hk)
  refine ⟨l', h1, ?_, fun j v hj => ?_⟩
  · have := h1.length
    simp at this
    omega
  · rw [addr_add, Nat.add_assoc]; exact h2 j v hj

/-! ### load -/
def eload (P : Program) (H : AH) (t : TypeId) (a : Addr) : Option Value :=
  match H[a.block]?, a.spot with
  | some (.cells c _ _ _), none =>
    if (P.underlying t).isNone then none else
    if aggT P t then
      match szT P t with
      | some n => if a.off + n ≤ c.length then some (.agg ((c.drop a.off).take n).toArray) else none
      | none => none
    else c[a.off]?
  | _, _ => none

theorem VRs.arr {i : Inj} {l l' : List Value} (h : VRs i l l') : VR i (.agg l.toArray) (.agg l'.toArray) :=
  .agg (by simp [h.length]) (fun k h1 h2 => by simpa using h.at_ k (by simpa using h1) (by simpa using h2))
theorem VRs.tup {i : Inj} {l l' : List Value} (h : VRs i l l') : VR i (.tuple l.toArray) (.tuple l'.toArray) :=
  .tuple (by simp [h.length]) (fun k h1 h2 => by simpa using h.at_ k (by simpa using h1) (by simpa using h2))

theorem run_load' {P : Program} {w : World} {a : Addr} {v : Value} (h : w.cell? a = some v) : (load a).run P w = .ok v w := by
  simp [load, Sem.run, h]

theorem loadVar_sim {P : Program} {i : Inj} {H : AH} {w : World} (h : Rel i H w) {t : TypeId} {a : Addr} {L : Loc} {v : Value} (hb : i a.block = some L) (hv : eload P H t a = some v) :
    ∃ v', VR i v v' ∧ (loadVar t ⟨L.blk, L.base + a.off, none⟩).run P w = .ok v' w := by
  unfold eload at hv
  split at hv
  · rename_i c e o r hH hsp
    cases hu : P.underlying t with
    | none => simp [hu] at hv
    | some d =>
      simp only [hu, Option.isNone_some, if_false, Bool.false_eq_true] at hv
      by_cases ha : aggT P t = true
      · simp only [ha, if_true] at hv
        cases hs : szT P t with
        | none => simp [hs] at hv
        | some n =>
          simp only [hs] at hv
          by_cases hn : a.off + n ≤ c.length
          · rw [if_pos hn] at hv
            cases hv
            obtain ⟨l', h1, h2, h3⟩ := h.row hb hH a.off n hn
            refine ⟨.agg l'.toArray, h1.arr, ?_⟩
            have hl := run_loadCells_list (P := P) w ⟨L.blk, L.base + a.off, none⟩ l' h3
            rw [h2] at hl
            simp [loadVar, Sem.run_bind, run_isAgg' P hu, ha, run_sizeOf' P hs, hl]
          · rw [if_neg hn] at hv; cases hv
      · simp only [ha, if_false, Bool.false_eq_true] at hv
        obtain ⟨v', h1, h2⟩ := h.cell hb hH hv
        refine ⟨v', h2, ?_⟩
        simp only [loadVar, Sem.run_bind, run_isAgg' P hu, Result.andThen_ok]
        rw [if_neg ha]
        exact run_load' h1
  · cases hv

theorem runSim_load {P : Program} {t : TypeId} {x : Operand} {o : Oper} (ho : o.op = .load t x) {a : Addr} {v : Value} {H : AH} (h : eload P H t a = some v) : RunSim P o [.pointer (some a)] H v H := by
  intro i w vs' hr hv ρ hρ
  obtain ⟨u', rfl, hu⟩ := hv.one
  rw [ho] at hρ
  simp [Op.operands] at hρ
  cases hu with
  | ptr hb hs =>
    obtain ⟨v', h1, h2⟩ := loadVar_sim hr hb h
    refine ⟨i, w, v', .refl hr, hr, h1, .inl ?_⟩
    unfold execOp
    rw [ho]
    simp [hρ, Instr.loadAt, Instr.sureAddr, h2]

/-! ### new memory -/
/-- Operation o makes a new row of cells c, and comes to what leads to it: mk. -/
def NewSim (P : Program) (o : Oper) (vs : List Value) (c : List Value) (e : TypeId) (mk : Nat → Value) : Prop :=
  (∀ (i : Inj) (b n : Nat), i b = some ⟨n, 0, 0, 0⟩ → VR i (mk b) (mk n)) ∧ (∀ d, o.op ≠ .defer d) ∧
  ∀ (i : Inj) (w : World) (vs' : List Value), VRs i vs vs' → ∀ ρ : Operand → Value, o.op.operands.toList.map ρ = vs' →
    ∃ c', VRs i c c' ∧ (execOp ρ o).run P w = .ok (.value (mk w.heap.size)) (w.alloc (.cells c'.toArray e))

theorem NewSim.run {P : Program} {o : Oper} {vs : List Value} {H : AH} {c : List Value} {e : TypeId} {mk : Nat → Value} (h : NewSim P o vs c e mk) : RunSim P o vs H (mk H.length) (H ++ [.cells c e none false]) := by
  intro i w vs' hr hv ρ hρ
  obtain ⟨c', h1, h2⟩ := h.2.2 i w vs' hv ρ hρ
  exact ⟨_, _, _, ext_new hr _ (.cells c'.toArray e) 0 0, rel_push hr _ _ 0 0 (blkR_cells (h1.mono (Inj.le_upd hr.none_at)) e w 0), h.1 _ _ _ (Inj.upd_same i _ _), .inl h2⟩

abbrev mkPtr (b : Nat) : Value := .pointer (some ⟨b, 0, none⟩)
abbrev mkSl (l m b : Nat) : Value := .slice (some ⟨b, 0, none⟩) l m
theorem mkPtr_rel (i : Inj) (b n : Nat) (h : i b = some ⟨n, 0, 0, 0⟩) : VR i (mkPtr b) (mkPtr n) := .ptr (a := ⟨b, 0, none⟩) (L := ⟨n, 0, 0, 0⟩) h rfl
theorem mkSl_rel (l m : Nat) (i : Inj) (b n : Nat) (h : i b = some ⟨n, 0, 0, 0⟩) : VR i (mkSl l m b) (mkSl l m n) := .slice (a := ⟨b, 0, none⟩) (L := ⟨n, 0, 0, 0⟩) h rfl (.inl rfl)

theorem run_newVar' {P : Program} (w : World) (t : TypeId) (v : Value) : (newVar t v).run P w = .ok ⟨w.heap.size, 0, none⟩ (w.alloc (.cells v.cells t)) := by
  rfl

theorem newSim_alloc {P : Program} {e : TypeId} {o : Oper} (ho : o.op = .alloc e) {z : Value} (hz : zeroT P e = some z) (hg : ground z = true) : NewSim P o [] z.cells.toList e mkPtr := by
  refine ⟨mkPtr_rel, by rw [ho]; simp, fun i w vs' hv ρ hρ => ⟨z.cells.toList, (VR.of_ground hg i).cells, ?_⟩⟩
  unfold execOp
  rw [ho]
  simp [Instr.alloc, run_zero' P hz, run_newVar']

theorem newSim_box {P : Program} {e : TypeId} {x : Operand} {o : Oper} (ho : o.op = .box e x) {v : Value} : NewSim P o [v] v.cells.toList e mkPtr := by
  refine ⟨mkPtr_rel, by rw [ho]; simp, fun i w vs' hv ρ hρ => ?_⟩
  obtain ⟨v', rfl, h⟩ := hv.one
  rw [ho] at hρ
  simp [Op.operands] at hρ
  refine ⟨v'.cells.toList, h.cells, ?_⟩
  unfold execOp
  rw [ho]
  simp [Instr.box, hρ, run_newVar']

/-! ### store -/
def one : Value → Bool
  | .agg _ | .tuple _ => false
  | _ => true
theorem VR.one_eq {i : Inj} {v v' : Value} (h : VR i v v') : one v' = one v := by cases h <;> rfl
theorem one_cell' {v : Value} (h : one v = true) : v.oneCell' = true := by cases v <;> simp_all [one, Value.oneCell']

def splice (c : List Value) (off : Nat) (vs : List Value) : List Value := c.take off ++ vs ++ c.drop (off + vs.length)
theorem splice_length (c : List Value) (off : Nat) (vs : List Value) (h : off + vs.length ≤ c.length) : (splice c off vs).length = c.length := by
  simp [splice]; omega
theorem splice_get (c vs : List Value) (off k : Nat) (h : off + vs.length ≤ c.length) :
    (splice c off vs)[k]? = if off ≤ k ∧ k < off + vs.length then vs[k - off]? else c[k]? := by
  unfold splice
  by_cases h1 : k < off
  · rw [if_neg (by omega), List.append_assoc, List.getElem?_append_left (by simp; omega), List.getElem?_take, if_pos h1]
  · by_cases h2 : k < off + vs.length
    · rw [if_pos ⟨by omega, h2⟩, List.append_assoc, List.getElem?_append_right (by simp; omega), List.getElem?_append_left (by simp; omega)]
      congr 1
      simp; omega
    · rw [if_neg (by omega), List.getElem?_append_right (by simp; omega), List.getElem?_drop]
      congr 1
      simp; omega

/-- A row of which cells are written: on both sides the same places. -/
theorem rel_row {i : Inj} {H : AH} {w : World} (h : Rel i H w) {b : Nat} {L : Loc} {c d : List Value} {e : TypeId} {o : Option Nat} (hb : i b = some L) (hH : H[b]? = some (.cells c e o false)) {c' : Array Value} {d' : Array Value}
    (hw : w.heap[L.blk]? = some (.cells c' e (0, 0))) (hl : d.length = c.length) (hs : d'.size = c'.size) (hd : ∀ (k : Nat) (v : Value), d[k]? = some v → ∃ v', d'[k]? = some v' ∧ VR i v v') :
    Rel i (H.set b (.cells d e o false)) (w.setRow L.blk d') ∧ Ext i i H (H.set b (.cells d e o false)) w (w.setRow L.blk d') := by
  obtain ⟨c1, e', fr, h1, h2, h3, h4⟩ := h.blk b L _ hb hH
  obtain ⟨b0, rfl, rfl, hsz⟩ := h3 rfl
  rw [hw] at h1
  cases h1
  have hbl : b < H.length := h.dom b L hb
  refine ⟨⟨fun n M hn => by simpa using h.dom n M hn, fun n M x hn hx => ?_, fun b1 b2 L1 L2 x1 x2 f1 f2 g1 g2 o1 l2 hL => ?_⟩, ?_⟩
  · by_cases hnb : n = b
    · subst hnb
      rw [hb] at hn
      cases hn
      rw [List.getElem?_set_self hbl] at hx
      cases hx
      refine ⟨d', e', (0, 0), setRow_heap w L.blk c' d' e' _ hw, fun m y hm => ?_, fun _ => ⟨b0, rfl, rfl, by omega⟩, h4⟩
      rw [b0, Nat.zero_add]
      exact hd m y hm
    · rw [List.getElem?_set_ne (Ne.symm hnb)] at hx
      have hr := h.blk n M x hn hx
      by_cases hxl : x.live = true
      · refine hr.heap (setRow_other w _ _ _ ?_)
        intro hM
        exact hnb (h.inj b n L M _ x hb hn hH hx rfl hxl hM.symm).symm
      · cases x <;> simp [AB.live] at hxl
        trivial
  · have back : ∀ (n : Nat) (y : AB), (H.set b (.cells d e' o false))[n]? = some y → ∃ z : AB, H[n]? = some z ∧ z.owned = y.owned ∧ z.live = y.live := by
      intro n y hy
      by_cases hnb : n = b
      · subst hnb
        rw [List.getElem?_set_self hbl] at hy
        cases hy
        exact ⟨_, hH, rfl, rfl⟩
      · rw [List.getElem?_set_ne (Ne.symm hnb)] at hy
        exact ⟨y, hy, rfl, rfl⟩
    obtain ⟨z1, p1, q1, _⟩ := back b1 x1 g1
    obtain ⟨z2, p2, _, q2⟩ := back b2 x2 g2
    exact h.inj b1 b2 L1 L2 z1 z2 f1 f2 p1 p2 (q1.trans o1) (q2.trans l2) hL
  · refine ⟨h.dom, i.le_refl, rfl, rfl, rfl, by simp, by simp, fun n x' hn hx ho => ?_, fun n hn hno => ?_, fun n hn hi => ?_, fun n M hn => .inl hn⟩
    · by_cases hnb : n = b
      · subst hnb; exact ⟨_, hH, rfl⟩
      · rw [List.getElem?_set_ne (Ne.symm hnb)] at hx; exact ⟨x', hx, ho⟩
    · exact setRow_other w _ _ _ (fun hM => hno b L _ hb hH rfl hM.symm)
    · refine List.getElem?_set_ne (fun hnb => ?_)
      subst hnb; rw [hb] at hi; cases hi

/-- Cells in a row of one's own are stored. -/
theorem storeCells_sim {P : Program} {i : Inj} {H : AH} {w : World} (h : Rel i H w) {b : Nat} {L : Loc} {c : List Value} {e : TypeId} {o : Option Nat} (hb : i b = some L) (hH : H[b]? = some (.cells c e o false)) {off : Nat} {vs vs' : List Value}
    (hv : VRs i vs vs') (h1 : vs.all one = true) (hn : off + vs.length ≤ c.length) :
    ∃ w', L.base = 0 ∧ (storeCells ⟨L.blk, off, none⟩ vs').run P w = .ok () w' ∧ Rel i (H.set b (.cells (splice c off vs) e o false)) w' ∧ Ext i i H (H.set b (.cells (splice c off vs) e o false)) w w' := by
  obtain ⟨c', e', fr, g1, g2, g3, g4⟩ := h.blk b L _ hb hH
  obtain ⟨b0, rfl, rfl, hsz⟩ := g3 rfl
  have hlen := hv.length
  have hone : ∀ v ∈ vs', v.oneCell' = true := by
    intro v hv'
    obtain ⟨k, hk, rfl⟩ := List.mem_iff_getElem.1 hv'
    have hr := hv.at_ k (by omega) hk
    refine one_cell' ?_
    rw [hr.one_eq]
    exact List.all_eq_true.1 h1 _ (List.getElem_mem _)
  have hst := run_storeCells_at P L.blk off e' vs' 0 c' w g1 (by omega) hone
  simp only [Nat.add_zero] at hst
  refine ⟨_, b0, hst, rel_row h hb hH g1 (splice_length c off vs hn) (by simp; omega) (fun k v hk => ?_)⟩
  rw [splice_get c vs off k hn] at hk
  have hcat : (c'.toList.take off ++ vs' ++ c'.toList.drop (off + vs'.length)) = splice c'.toList off vs' := rfl
  rw [hcat, List.getElem?_toArray, splice_get c'.toList vs' off k (by simp; omega), ← hlen]
  by_cases hin : off ≤ k ∧ k < off + vs.length
  · rw [if_pos hin] at hk ⊢
    exact hv.get hk
  · rw [if_neg hin] at hk ⊢
    obtain ⟨v', q1, q2⟩ := g2 k v hk
    rw [b0, Nat.zero_add] at q1
    exact ⟨v', by simpa using q1, q2⟩

def estore (P : Program) (H : AH) (t : TypeId) (a : Addr) (v : Value) : Option AH :=
  match H[a.block]?, a.spot with
  | some (.cells c e o false), none =>
    if szT P t = some v.cells.size ∧ v.cells.toList.all one ∧ a.off + v.cells.size ≤ c.length then some (H.set a.block (.cells (splice c a.off v.cells.toList) e o false)) else none
  | _, _ => none

theorem VR.cells_size {i : Inj} {v v' : Value} (h : VR i v v') : v'.cells.size = v.cells.size := by
  have := h.cells.length
  simpa using this.symm

theorem runSim_store {P : Program} {t : TypeId} {x y : Operand} {o : Oper} (ho : o.op = .store t x y) {a : Addr} {v : Value} {H H' : AH} (h : estore P H t a v = some H') : RunSim P o [.pointer (some a), v] H undef H' := by
  intro i w vs' hr hv ρ hρ
  obtain ⟨u', v', rfl, hu, hv'⟩ := hv.two
  rw [ho] at hρ
  simp [Op.operands] at hρ
  cases hu with
  | ptr hb hs =>
    rename_i L
    unfold estore at h
    split at h
    · rename_i c e op hH hsp
      split at h
      · rename_i hc
        cases h
        obtain ⟨c1, c2, c3⟩ := hc
        obtain ⟨w', b0, h1, h2, h3⟩ := storeCells_sim (P := P) hr hb hH hv'.cells c2 (by simpa using c3)
        refine ⟨i, w', undef, h3, h2, VR.undef i, .inr ⟨?_, rfl⟩⟩
        unfold execOp
        rw [ho]
        have hsz := hv'.cells_size
        simp only [hρ.1, hρ.2, Instr.storeAt, Instr.sureAddr, storeVar, Sem.run_bind, Sem.run_pure, Result.andThen_ok, run_sizeOf' P c1, hsz, ne_eq, not_true_eq_false, if_false, b0, Nat.zero_add, h1]
      · cases h
    · cases h

end Go.Sim
