/- Part of the proof: SimR3, SimR4. -/
import Derived.Test.YtgcoidbhikfdkaaPSimWToShC
import Derived.ChangeShapes
import Derived.OpenShut
import Derived.Carry
set_option linter.all false
namespace Go.Sim
open Go
structure ArgR (w : World) (H : AH) (i : Inj) : Prop where
  rel : Rel i H w
  ro : ∀ (b : Nat) (x : AB), H[b]? = some x → x.owned = false
theorem ArgR.nil (w : World) : ArgR w [] (fun _ => none) := ⟨⟨(fun b => by simp), (fun b L x h => by cases h), (fun _ _ _ _ _ _ h => by cases h)⟩, fun b x h => by simp at h⟩
theorem cells_of_cell {w : World} {b : Nat} {off : Nat} {v : Value} (h : w.cell? ⟨b, off, none⟩ = some v) : ∃ c e fr, w.heap[b]? = some (.cells c e fr) ∧ c[off]? = some v := by
  unfold World.cell? at h
  split at h
  · rename_i c e fr hb
    split at h
    · cases h
    · exact ⟨c, e, fr, hb, h⟩
  · cases h
theorem ArgR.slice {w : World} {H : AH} {i : Inj} (h : ArgR w H i) {v' : Value} {k : IntKind} {b off len cap : Nat} {zs : List Int} (hl : len ≤ zs.length) (hc : len ≤ cap) (h0 : 0 < len)
    (hcell : ∀ j, j < zs.length → w.cell? ⟨b, off + j, none⟩ = some (.int k (zs.getD j 0))) :
    ∃ v Y j, ArgR w (H ++ Y) j ∧ i.le j ∧ VR j v (.slice (some ⟨b, off, none⟩) len cap) ∧ RowX (H ++ Y) v ((zs.take len).map (Value.int k)) := by
  let L : Loc := ⟨b, off, 1, 0⟩
  have hi0 : i H.length = none := by
    cases hx : i H.length with
    | none => rfl
    | some M => exact absurd (h.rel.dom _ _ hx) (Nat.lt_irrefl _)
  have hle : i.le (i.upd H.length L) := Inj.le_upd hi0
  obtain ⟨c, e, fr, hb, _⟩ := cells_of_cell (hcell 0 (by omega))
  let X : AB := .cells ((zs.take len).map (Value.int k)) 0 none true
  have hX : (H ++ [X])[H.length]? = some X := by simp
  have old : ∀ b1 L1 x1, (i.upd H.length L) b1 = some L1 → (H ++ [X])[b1]? = some x1 → (b1 = H.length ∧ L1 = L ∧ x1 = X) ∨ (b1 < H.length ∧ i b1 = some L1 ∧ H[b1]? = some x1) := by
    intro b1 L1 x1 h1 h2
    unfold Inj.upd at h1
    by_cases hb1 : b1 = H.length
    · subst hb1
      rw [if_pos rfl] at h1
      rw [hX] at h2
      exact .inl ⟨rfl, by cases h1; rfl, by cases h2; rfl⟩
    · rw [if_neg hb1] at h1
      have hlt := h.rel.dom _ _ h1
      rw [List.getElem?_append_left hlt] at h2
      exact .inr ⟨hlt, h1, h2⟩
  refine ⟨.slice (some ⟨H.length, 0, none⟩) len cap, [X], i.upd H.length L, ⟨⟨?_, ?_, ?_⟩, ?_⟩, hle, ?_, ?_⟩
  · intro b1 L1 h1
    unfold Inj.upd at h1
    by_cases hb1 : b1 = H.length
    · subst hb1; simp
    · rw [if_neg hb1] at h1; have := h.rel.dom _ _ h1; simp; omega
  · intro b1 L1 x1 h1 h2
    rcases old b1 L1 x1 h1 h2 with ⟨rfl, rfl, rfl⟩ | ⟨_, h3, h4⟩
    · refine ⟨c, e, fr, hb, fun j v hj => ?_, fun h => (by cases h), fun _ => rfl, fun s h => (by cases h)⟩
      have hjl : j < len := by
        have := (List.getElem?_eq_some_iff.1 hj).1
        simp at this; omega
      obtain ⟨c', e', fr', hb', hv'⟩ := cells_of_cell (hcell j (by omega))
      rw [hb] at hb'
      cases hb'
      refine ⟨_, hv', ?_⟩
      rw [List.getElem?_map, List.getElem?_take_of_lt hjl, List.getElem?_eq_getElem (by omega)] at hj
      simp at hj
      subst hj
      rw [List.getD_eq_getElem?_getD, List.getElem?_eq_getElem (by omega)]
      exact .int _ _
    · exact (h.rel.blk _ _ _ h3 h4).mono hle
  · intro b1 b2 L1 L2 x1 x2 h1 h2 g1 g2 ho
    rcases old b1 L1 x1 h1 g1 with ⟨rfl, rfl, rfl⟩ | ⟨_, h3, h4⟩
    · simp [X, AB.owned] at ho
    · rw [h.ro _ _ h4] at ho; cases ho
  · intro b1 x1 h1
    by_cases hb1 : b1 < H.length
    · rw [List.getElem?_append_left hb1] at h1; exact h.ro _ _ h1
    · have : b1 = H.length := by
        have := (List.getElem?_eq_some_iff.1 h1).1
        simp at this; omega
      subst this
      rw [hX] at h1; cases h1; rfl
  · exact VR.slice (a := ⟨H.length, 0, none⟩) (L := L) (c' := cap) (Inj.upd_same _ _ _) rfl (.inl rfl)
  · have hln : ((zs.take len).map (Value.int k)).length = len := by simp; omega
    have hr : Sim.Row (H ++ [X]) (.slice (some ⟨H.length, 0, none⟩) len cap) ((zs.take len).map (Value.int k)) := Row.of hX hln.symm hc
    exact hr.x (fun e => by rw [e] at hln; simp at hln; omega)
theorem ArgR.open {P : Program} {Hh : Type} {enc : TypeId × Value → Hh} {base : Nat} {spare : Nat → Bool} {held : Bool} {t e : TypeId} {k : IntKind} {fuel : Nat} {cs : List Value} {x : DataW Hh × List MemPlace} {w : World} {H : AH} {i : Inj} (h : ArgR w H i)
    (ht : P.underlying t = some (.slice e)) (he : P.underlying e = some (.int k)) (hc : P.cellsOf e = 1) (hd : DataW.trod enc P w base spare held fuel t cs = some x) :
    ∃ (v' v : Value) (Y : AH) (j : Inj) (ns : List Int), cs = [v'] ∧ ArgR w (H ++ Y) j ∧ i.le j ∧ VR j v v' ∧ RowX (H ++ Y) v (ns.map (Value.int k)) ∧ (∀ n ∈ ns, (Lit.int k n).wf = true) ∧ ((x.1 = .nil ∧ ns = []) ∨ ∃ sp, x.1 = .slice (Go.ChangeShapes.lits k ns) sp) := by
  rcases Go.ChangeShapes.open_ints ht he hc hd with ⟨rfl, rfl⟩ | ⟨a, len, cap, zs, rfl, _, hl, hm, hz, rfl, hcell, hw⟩
  · exact ⟨_, .slice none 0 0, [], i, [], rfl, by simpa using h, i.le_refl, .snil 0 0, ⟨Row.nil, rfl⟩, by simp, .inl ⟨rfl, rfl⟩⟩
  · have hlz : len ≤ zs.length := by rw [hz]; split <;> omega
    by_cases h0 : len = 0
    · subst h0
      exact ⟨_, .slice (some ⟨0, 0, some 0⟩) 0 0, [], i, [], rfl, by simpa using h, i.le_refl, .vague (s := 0) rfl, ⟨Row.nil, rfl⟩, by simp, .inr ⟨_, rfl⟩⟩
    · obtain ⟨b, off, rfl, hc'⟩ := Go.ints_at hcell (by omega)
      obtain ⟨v, Y, j, q1, q2, q3, q4⟩ := h.slice (v' := .slice none 0 0) (k := k) hlz hl (by omega) hc'
      exact ⟨_, v, Y, j, zs.take len, rfl, q1, q2, q3, q4, fun n hn => hw n (List.mem_of_mem_take hn), .inr ⟨_, rfl⟩⟩
theorem law_walkH {P : Program} {f : FuncId} {args args' : List Value} {H : AH} {i : Inj} {w : World} (ha : ArgR w H i) (hv : VRs i args args') (h : FN P f args H (fun v _ => v = .bool true)) : Calls P f args'.toArray w fun e w' => e = .returned (.bool true) ∧ RowKit.Below w.heap.size w w' := by
  obtain ⟨v, H', r, sim⟩ := h.2
  intro cs
  obtain ⟨i', w', v', fr, e, g, hv', p, q1, q2⟩ := sim _ w args' ha.rel hv cs
  subst r
  cases hv'
  exact ⟨.returned (.bool true), w', fr, ⟨rfl, ⟨e.os, e.tape, e.output, e.size, (fun k hk => e.frame k hk (fun b L x _ h2 h3 _ => by rw [ha.ro b x h2] at h3; cases h3))⟩⟩, p, q1, q2⟩
end Go.Sim

namespace Go.Sim
open Go
theorem ArgR.sliceV {w : World} {H : AH} {i : Inj} (h : ArgR w H i) {b off len cap : Nat} {vs vs' : List Value} (hv : VRs i vs vs') (hn : vs.length = len) (hc : len ≤ cap) (h0 : 0 < len)
    (hcell : ∀ j, j < len → w.cell? ⟨b, off + j, none⟩ = some (vs'.getD j undef)) :
    ∃ v Y j, ArgR w (H ++ Y) j ∧ i.le j ∧ VR j v (.slice (some ⟨b, off, none⟩) len cap) ∧ RowX (H ++ Y) v vs := by
  let L : Loc := ⟨b, off, 1, 0⟩
  have hi0 : i H.length = none := by
    cases hx : i H.length with
    | none => rfl
    | some M => exact absurd (h.rel.dom _ _ hx) (Nat.lt_irrefl _)
  have hle : i.le (i.upd H.length L) := Inj.le_upd hi0
  obtain ⟨c, e, fr, hb, _⟩ := cells_of_cell (hcell 0 (by omega))
  let X : AB := .cells vs 0 none true
  have hX : (H ++ [X])[H.length]? = some X := by simp
  have hvl := hv.length
  have old : ∀ b1 L1 x1, (i.upd H.length L) b1 = some L1 → (H ++ [X])[b1]? = some x1 → (b1 = H.length ∧ L1 = L ∧ x1 = X) ∨ (b1 < H.length ∧ i b1 = some L1 ∧ H[b1]? = some x1) := by
    intro b1 L1 x1 h1 h2
    unfold Inj.upd at h1
    by_cases hb1 : b1 = H.length
    · subst hb1
      rw [if_pos rfl] at h1
      rw [hX] at h2
      exact .inl ⟨rfl, by cases h1; rfl, by cases h2; rfl⟩
    · rw [if_neg hb1] at h1
      have hlt := h.rel.dom _ _ h1
      rw [List.getElem?_append_left hlt] at h2
      exact .inr ⟨hlt, h1, h2⟩
  refine ⟨.slice (some ⟨H.length, 0, none⟩) len cap, [X], i.upd H.length L, ⟨⟨?_, ?_, ?_⟩, ?_⟩, hle, ?_, ?_⟩
  · intro b1 L1 h1
    unfold Inj.upd at h1
    by_cases hb1 : b1 = H.length
    · subst hb1; simp
    · rw [if_neg hb1] at h1; have := h.rel.dom _ _ h1; simp; omega
  · intro b1 L1 x1 h1 h2
    rcases old b1 L1 x1 h1 h2 with ⟨rfl, rfl, rfl⟩ | ⟨_, h3, h4⟩
    · refine ⟨c, e, fr, hb, fun j v hj => ?_, fun h => (by cases h), fun _ => rfl, fun s h => (by cases h)⟩
      have hjl : j < len := by
        have := (List.getElem?_eq_some_iff.1 hj).1
        omega
      obtain ⟨c', e', fr', hb', hv'⟩ := cells_of_cell (hcell j (by omega))
      rw [hb] at hb'
      cases hb'
      refine ⟨_, hv', ?_⟩
      obtain ⟨v2, h5, h6⟩ := hv.get hj
      rw [List.getD_eq_getElem?_getD, h5]
      exact h6.mono hle
    · exact (h.rel.blk _ _ _ h3 h4).mono hle
  · intro b1 b2 L1 L2 x1 x2 h1 h2 g1 g2 ho
    rcases old b1 L1 x1 h1 g1 with ⟨rfl, rfl, rfl⟩ | ⟨_, h3, h4⟩
    · simp [X, AB.owned] at ho
    · rw [h.ro _ _ h4] at ho; cases ho
  · intro b1 x1 h1
    by_cases hb1 : b1 < H.length
    · rw [List.getElem?_append_left hb1] at h1; exact h.ro _ _ h1
    · have : b1 = H.length := by
        have := (List.getElem?_eq_some_iff.1 h1).1
        simp at this; omega
      subst this
      rw [hX] at h1; cases h1; rfl
  · exact VR.slice (a := ⟨H.length, 0, none⟩) (L := L) (c' := cap) (Inj.upd_same _ _ _) rfl (.inl rfl)
  · have hr : Sim.Row (H ++ [X]) (.slice (some ⟨H.length, 0, none⟩) len cap) vs := Row.of hX hn.symm hc
    exact hr.x (fun e => by rw [e] at hn; simp at hn; omega)
section
variable {P : Program} {Hh : Type} {enc : TypeId × Value → Hh} {base : Nat} {spare : Nat → Bool} {held : Bool} {t e : TypeId} {k : IntKind}
theorem ArgR.openEach {w : World} (ht : P.underlying t = some (.slice e)) (he : P.underlying e = some (.int k)) (hc : P.cellsOf e = 1) {fuel : Nat} : ∀ (cs : List Value) {H : AH} {i : Inj}, ArgR w H i → (∀ c ∈ cs, ∃ x, DataW.trod enc P w base spare held fuel t [c] = some x) →
    ∃ (vs : List Value) (nss : List (List Int)) (Y : AH) (j : Inj), ArgR w (H ++ Y) j ∧ i.le j ∧ VRs j vs cs ∧ Rws (H ++ Y) vs (nss.map fun ns => ns.map (Value.int k)) ∧ ∀ ns ∈ nss, ∀ n ∈ ns, (Lit.int k n).wf = true
  | [], H, i, h, _ => ⟨[], [], [], i, by simpa using h, i.le_refl, .nil, ⟨rfl, by simp⟩, by simp⟩
  | c :: cs, H, i, h, hx => by
    obtain ⟨x, hx0⟩ := hx c (by simp)
    obtain ⟨v', v, Y, j, ns, q0, q1, q2, q3, q4, q5, _⟩ := h.open ht he hc hx0
    cases q0
    obtain ⟨vs, nss, Y2, j2, r1, r2, r3, r4, r5⟩ := ArgR.openEach ht he hc cs q1 fun c hc => hx c (by simp [hc])
    have hp := Pre.new (H ++ Y) Y2
    refine ⟨v :: vs, ns :: nss, Y ++ Y2, j2, by rw [← List.append_assoc]; exact r1, fun b L h => r2 b L (q2 b L h), .cons (q3.mono r2) r3, ?_, ?_⟩
    · rw [← List.append_assoc]
      refine ⟨by simpa using r4.1, fun m hm => ?_⟩
      cases m with
      | zero => exact (q4.1.pre hp)
      | succ m =>
        have := r4.2 m (by simpa using hm)
        simpa using this
    · intro ms hms n hn
      rcases List.mem_cons.1 hms with rfl | hms
      · exact q5 n hn
      · exact r5 ms hms n hn
theorem ArgR.openRR {w : World} {H : AH} {i : Inj} (h : ArgR w H i) {t2 : TypeId} (ht2 : P.underlying t2 = some (.slice t)) (hc2 : P.cellsOf t = 1) (ht : P.underlying t = some (.slice e)) (he : P.underlying e = some (.int k)) (hc : P.cellsOf e = 1) {fuel : Nat} {cs : List Value} {x : DataW Hh × List MemPlace}
    (hd : DataW.trod enc P w base spare held fuel t2 cs = some x) :
    ∃ (v' v : Value) (nss : List (List Int)) (Y : AH) (j : Inj), cs = [v'] ∧ ArgR w (H ++ Y) j ∧ i.le j ∧ VR j v v' ∧ RowR (H ++ Y) v (nss.map fun ns => ns.map (Value.int k)) ∧ ∀ ns ∈ nss, ∀ n ∈ ns, (Lit.int k n).wf = true := by
  rcases DataW.trod_slice ht2 hd with ⟨rfl, rfl⟩ | ⟨a, len, cap, elems, rest, n, _, rfl, rfl, hb, hl, hm, hlen, hel, _, _⟩
  · exact ⟨_, .slice none 0 0, [], [], i, rfl, by simpa using h, i.le_refl, .snil 0 0, ⟨[], ⟨Row.nil, rfl⟩, rfl, by simp⟩, by simp⟩
  · by_cases h0 : len = 0
    · subst h0
      exact ⟨_, .slice (some ⟨0, 0, some 0⟩) 0 0, [], [], i, rfl, by simpa using h, i.le_refl, .vague (s := 0) rfl, ⟨[], ⟨Row.nil, rfl⟩, rfl, by simp⟩, by simp⟩
    · have each : ∀ m, m < len → ∃ c y, w.cell? (a.add m) = some c ∧ DataW.trod enc P w base spare held n t [c] = some y := by
        intro m hm
        have h1 := hel m hm
        rw [hc2, Nat.mul_one, List.getElem?_eq_getElem (by omega)] at h1
        obtain ⟨cs', h2, h3⟩ := Option.bind_eq_some_iff.1 h1
        have hne : ∃ c, cs' = [c] := by
          have := (World.cells?_some h2).2.1
          match cs', this with
          | [c], _ => exact ⟨c, rfl⟩
        obtain ⟨c, rfl⟩ := hne
        exact ⟨c, _, Go.ChangeShapes.cell_of_cells?_one h2, h3⟩
      obtain ⟨b, off, spot⟩ := a
      obtain ⟨c0, _, hc0, _⟩ := each 0 (by omega)
      have hspot : spot = none := by simpa [Addr.add] using World.cell?_spot hc0
      subst hspot
      have hpl : ∀ m, (Addr.add ⟨b, off, none⟩ m) = ⟨b, off + m, none⟩ := fun m => Go.WideShapes.add_plain ..
      simp only [hpl] at each
      obtain ⟨cs', hcs'l, hcs'⟩ : ∃ cs' : List Value, cs'.length = len ∧ ∀ m, m < len → w.cell? ⟨b, off + m, none⟩ = some (cs'.getD m undef) ∧ ∃ y, DataW.trod enc P w base spare held n t [cs'.getD m undef] = some y := by
        refine ⟨(List.range len).map fun m => (w.cell? ⟨b, off + m, none⟩).getD undef, by simp, fun m hm => ?_⟩
        obtain ⟨c, y, h1, h2⟩ := each m hm
        have : ((List.range len).map fun m => (w.cell? ⟨b, off + m, none⟩).getD undef).getD m undef = c := by
          simp [List.getD_eq_getElem?_getD, hm, h1]
        rw [this]
        exact ⟨h1, y, h2⟩
      obtain ⟨vs, nss, Y, j, r1, r2, r3, r4, r5⟩ := ArgR.openEach (fuel := n) ht he hc cs' h fun c hc => by
        obtain ⟨m, hm, rfl⟩ := List.mem_iff_getElem.1 hc
        have := (hcs' m (by omega)).2
        rwa [List.getD_eq_getElem?_getD, List.getElem?_eq_getElem hm] at this
      have hvl := r3.length
      obtain ⟨v, Y2, j2, s1, s2, s3, s4⟩ := r1.sliceV (cap := cap) r3 (by omega) hl (by omega) fun m hm => (hcs' m hm).1
      have hp := Pre.new (H ++ Y) Y2
      exact ⟨_, v, nss, Y ++ Y2, j2, rfl, by rw [← List.append_assoc]; exact s1, fun b L h => s2 b L (r2 b L h), s3, ⟨vs, by rw [← List.append_assoc]; exact s4, by rw [← List.append_assoc]; exact r4.pre hp⟩, r5⟩
theorem ArgR.openQN {w : World} {H : AH} {i : Inj} (h : ArgR w H i) {t3 : TypeId} {r : Reach} {b0 : Nat} {v' : Value} {d : DataW Hh} {ps : List MemPlace} {f0 f1 f2 : Field}
    (ht3 : P.underlying t3 = some (.struct #[f0, f1, f2])) (hct : P.cellsOf t3 = 3) (h0 : P.underlying f0.type = some (.int .u8)) (h1 : P.underlying f1.type = some (.int .u8)) (h2 : P.underlying f2.type = some (.slice t))
    (o : f0.offset = 0 ∧ f1.offset = 1 ∧ f2.offset = 2) (c : P.cellsOf f0.type = 1 ∧ P.cellsOf f1.type = 1 ∧ P.cellsOf f2.type = 1)
    (hc2 : P.cellsOf t = 1) (ht : P.underlying t = some (.slice e)) (he : P.underlying e = some (.int k)) (hc : P.cellsOf e = 1) (hval : Value.okWide P w r b0 t3 v') (hd : DataW.Trod enc P w base spare held t3 v' d ps) :
    ∃ (v : Value) (Y : AH) (j : Inj) (nss : List (List Int)) (a0 a1 : Int), ArgR w (H ++ Y) j ∧ i.le j ∧ VR j (.agg [.int .u8 a0, .int .u8 a1, v].toArray) v' ∧ RowR (H ++ Y) v (nss.map fun ns => ns.map (Value.int k)) ∧ (∀ ns ∈ nss, ∀ n ∈ ns, (Lit.int k n).wf = true) ∧
      (Lit.int .u8 a0).wf = true ∧ (Lit.int .u8 a1).wf = true := by
  unfold Value.okWide at hval
  rw [ht3] at hval
  obtain ⟨cs, rfl, hsz, _⟩ := hval
  obtain ⟨fuel, hf⟩ := hd
  obtain ⟨xs, n, _, _, hl, hlen, hg⟩ := DataW.trod_struct ht3 hf
  obtain ⟨o0, o1, o2⟩ := o
  obtain ⟨c0, c1, c2⟩ := c
  rw [hct] at hl
  have hcs : (Value.agg cs).cells.toList = cs.toList := rfl
  rw [hcs] at hg hl
  have hl4 : xs.length = 3 := hlen
  match xs, hl4 with
  | [x0, x1, x2], _ =>
    have g0 := hg 0 f0 rfl
    have g1 := hg 1 f1 rfl
    have g2 := hg 2 f2 rfl
    obtain ⟨l⟩ := cs
    match l, hl with
    | [y0, y1, y2], _ =>
      rw [o0, c0] at g0
      rw [o1, c1] at g1
      rw [o2, c2] at g2
      obtain ⟨a0, p0, _, w0⟩ := DataW.trod_int h0 g0
      obtain ⟨a1, p1, _, w1⟩ := DataW.trod_int h1 g1
      obtain ⟨v2, v, nss, Y, j, q0, q1, q2, q3, q4, q5⟩ := h.openRR h2 hc2 ht he hc g2
      simp at p0 p1 q0
      subst p0 p1 q0
      refine ⟨v, Y, j, nss, a0, a1, q1, q2, .agg rfl fun m hm hm' => ?_, q4, q5, w0, w1⟩
      match m, hm with
      | 0, _ => exact .int _ _
      | 1, _ => exact .int _ _
      | 2, _ => exact q3
end
theorem bytes8 {nss : List (List Int)} (h : ∀ ns ∈ nss, ∀ n ∈ ns, (Lit.int .u8 n).wf = true) : ∃ uss : List (List Nat), (∀ us ∈ uss, ∀ u ∈ us, u < 256) ∧ (nss.map fun ns => ns.map (Value.int .u8)) = uss.map fun us => us.map fun k : Nat => Value.int .u8 (k : Int) := by
  refine ⟨nss.map fun ns => ns.map Int.toNat, fun us hus u hu => ?_, ?_⟩
  · obtain ⟨ns, hns, rfl⟩ := List.mem_map.1 hus
    obtain ⟨n, hn, rfl⟩ := List.mem_map.1 hu
    have := h ns hns n hn
    simp [Lit.wf, IntKind.min, IntKind.max, IntKind.signed, IntKind.bits] at this
    omega
  · rw [List.map_map]
    refine List.map_congr_left fun ns hns => ?_
    simp only [Function.comp, List.map_map]
    refine List.map_congr_left fun n hn => ?_
    have := h ns hns n hn
    simp [Lit.wf, IntKind.min, IntKind.max, IntKind.signed, IntKind.bits] at this
    simp only [Function.comp]
    congr 1
    omega
end Go.Sim
