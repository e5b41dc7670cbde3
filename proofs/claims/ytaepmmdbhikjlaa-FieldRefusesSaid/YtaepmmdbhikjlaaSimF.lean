/- The semantic simulation logic, part 6: append, copy. -/
import Derived.Test.YtaepmmdbhikjlaaSimE
namespace Go.Sim
open Go

/-- The cells that are appended: a slice's. -/
def erow (H : AH) (v : Value) (n : Nat) : Option (List Value) :=
  match v with
  | .slice none _ _ => if n = 0 then some [] else none
  | .slice (some a) _ _ =>
    match a.spot with
    | none => match H[a.block]? with
      | some (.cells c _ _ _) => if a.off + n ≤ c.length then some ((c.drop a.off).take n) else none
      | _ => none
    | some _ => if n = 0 then some [] else none
  | _ => none
def slen : Value → Nat
  | .slice _ n _ => n
  | _ => 0

/-- What the world's side reads. -/
theorem erow_sim {P : Program} {i : Inj} {H : AH} {w : World} (h : Rel i H w) {v v' : Value} {n m size : Nat} {l : List Value} (hv : VR i v v') (hn : n = m * size) (he : erow H v n = some l) :
    ∃ l', VRs i l l' ∧ l'.length = n ∧ ((∃ a ln c, v' = .slice (some a) ln c ∧ ∀ j u, l'[j]? = some u → w.cell? (a.add j) = some u) ∨ (∃ ln c, v' = .slice none ln c ∧ l' = [])) ∧
      ∀ w2 : World, (∀ a u, w.cell? a = some u → w2.cell? a = some u) → (Builtin.firstCells size m v').run P w2 = .ok l'.toArray w2 := by
  unfold erow at he
  split at he
  · rename_i ln c
    split at he
    · rename_i hz
      cases he
      cases hv
      exact ⟨[], .nil, by simp [hz], .inr ⟨_, _, rfl, rfl⟩, fun w2 _ => by simp [Builtin.firstCells]⟩
    · cases he
  · rename_i a ln c
    split at he
    · rename_i hsp
      split at he
      · rename_i cs e o r hH
        split at he
        · rename_i hfit
          cases he
          cases hv with
          | slice hb hs hcc =>
            obtain ⟨l', h1, h2, h3⟩ := h.row hb hH a.off n hfit
            refine ⟨l', h1, h2, .inl ⟨_, _, _, rfl, h3⟩, fun w2 hw2 => ?_⟩
            exact run_firstCells_some (P := P) w2 size m _ _ _ l' (by omega) (fun j u hj => hw2 _ _ (h3 j u hj))
          | vague hs => rw [hsp] at hs; cases hs
        · cases he
      · cases he
    · rename_i s hsp
      split at he
      · rename_i hz
        cases he
        cases hv with
        | slice hb hs hcc => rw [hsp] at hs; cases hs
        | vague hs =>
          rename_i x _ c'
          exact ⟨[], .nil, by simp [hz], .inl ⟨x, 0, c', rfl, fun j u hj => by simp at hj⟩, fun w2 _ => run_firstCells_some (P := P) w2 size m x 0 c' [] (by simp; omega) (fun j u hj => by simp at hj)⟩
      · cases he
  · cases he

/-- append(s, x...): the outcome. -/
def eappend (P : Program) (t t' : TypeId) (s x : Value) (H : AH) : Option (Value × AH) :=
  match slT P t, slT P t' with
  | some e, some _ => match P.info? e with
    | some ti => match ti.zero with
      | some z => match erow H x (slen x * ti.size) with
        | some new =>
          if (slen s + slen x) * ti.bytes ≤ 140737488355328 ∧ slen s + slen x ≤ 9223372036854775807 ∧ z.cells.size = ti.size ∧ 0 < ti.size ∧ new.all one then
            (match s with
            | .slice none 0 0 => if slen x = 0 then some (.slice none 0 0, H) else some (.slice (some ⟨H.length, 0, none⟩) (slen x) (slen x), H ++ [.cells new e (some ti.size) false])
            | .slice (some a) l c =>
              (match H[a.block]?, a.spot with
              | some (.cells cc e' opn ro), none =>
                if l + slen x ≤ c then
                  if slen x = 0 then some (.slice (some a) l c, H)
                  else if ro = false ∧ a.off + l * ti.size + new.length ≤ cc.length then some (.slice (some a) (l + slen x) c, H.set a.block (.cells (splice cc (a.off + l * ti.size) new) e' opn false)) else none
                else if opn = none then
                  if a.off + l * ti.size ≤ cc.length then some (.slice (some ⟨H.length, 0, none⟩) (l + slen x) (l + slen x), H ++ [.cells ((cc.drop a.off).take (l * ti.size) ++ new) e (some ti.size) false]) else none
                else if ro = false ∧ opn = some ti.size ∧ l = c ∧ a.off = 0 ∧ l * ti.size = cc.length ∧ e' = e then
                  some (.slice (some ⟨H.length, 0, none⟩) (l + slen x) (l + slen x), H.set a.block .dead ++ [.cells (cc ++ new) e (some ti.size) false]) else none
              | _, _ => none)
            | _ => none) else none
        | none => none
      | none => none
    | none => none
  | _, _ => none

theorem run_append_none {P : Program} (w : World) {t t' ty e : TypeId} (ht : P.underlying t = some (.slice e)) (ht' : ∃ e', P.underlying t' = some (.slice e')) {n : Nat} (hs : szT P e = some n) (x : Value) (hx : slen x = 0) (hxs : ∃ a b c, x = .slice a b c)
    (a : Option Addr) (l c : Nat) (hlc : l ≤ c) (hf : (Builtin.firstCells n 0 x).run P w = .ok #[] w) (hnil : a = none → l = 0) :
    (Builtin.append_ #[t, t'] ty #[.slice a l c, x]).run P w = .ok (.slice a l c) w := by
  obtain ⟨e', ht'⟩ := ht'
  obtain ⟨p, q, r, rfl⟩ := hxs
  simp only [slen] at hx
  subst hx
  have hz : ∀ i, P.info? e = some i → i.size = n := fun i hi => by simp [szT, hi] at hs; exact hs
  cases a with
  | none => simp [Builtin.append_, run_underlying' P ht, run_underlying' P ht', run_sizeOf' P hs, Builtin.lenOf, hlc, hf]
  | some a => simp [Builtin.append_, run_underlying' P ht, run_underlying' P ht', run_sizeOf' P hs, Builtin.lenOf, hlc, hf, storeCells]

theorem run_append_at {P : Program} (w : World) {t t' ty e : TypeId} (ht : P.underlying t = some (.slice e)) (ht' : ∃ e', P.underlying t' = some (.slice e')) {n : Nat} (hs : szT P e = some n) (x : Value) (hxs : ∃ a b c, x = .slice a b c)
    (b off l c : Nat) (hlc : l + slen x ≤ c) (news : Array Value) (hf : (Builtin.firstCells n (slen x) x).run P w = .ok news w) {w' : World} (hst : (storeCells ⟨b, off + l * n, none⟩ news.toList).run P w = .ok () w') :
    (Builtin.append_ #[t, t'] ty #[.slice (some ⟨b, off, none⟩) l c, x]).run P w = .ok (.slice (some ⟨b, off, none⟩) (l + slen x) c) w' := by
  obtain ⟨e', ht'⟩ := ht'
  obtain ⟨p, q, r, rfl⟩ := hxs
  simp only [slen] at hlc hf ⊢
  simp [Builtin.append_, run_underlying' P ht, run_underlying' P ht', run_sizeOf' P hs, Builtin.lenOf, hlc, hf, addr_add, hst]

theorem run_append_new {P : Program} (w : World) {t t' ty e : TypeId} (ht : P.underlying t = some (.slice e)) (ht' : ∃ e', P.underlying t' = some (.slice e')) {ti : TypeInfo} (hi : P.info? e = some ti) {z : Value} (hz : ti.zero = some z)
    (a : Option Addr) (l c : Nat) (x : Value) (hc : c < l + slen x) (hxs : ∃ a b c, x = .slice a b c)
    (olds news : Array Value) (hfo : (Builtin.firstCells ti.size l (.slice a l c)).run P w.drew = .ok olds w.drew) (hf : (Builtin.firstCells ti.size (slen x) x).run P w.drew = .ok news w.drew)
    (hb : (l + slen x) * ti.bytes ≤ 140737488355328) (h63 : l + slen x ≤ 9223372036854775807) :
    ∃ N, l + slen x ≤ N ∧ (Builtin.append_ #[t, t'] ty #[.slice a l c, x]).run P w = .ok (.slice (some ⟨w.heap.size, 0, none⟩) (l + slen x) N) (w.drew.alloc (.cells (olds ++ news ++ Builtin.zeroCells z.cells (N - (l + slen x))) e)) := by
  obtain ⟨e', ht'⟩ := ht'
  obtain ⟨p, q, r, rfl⟩ := hxs
  refine ⟨grownCap w (l + q) c e, grownCap_ge w _ _ _, ?_⟩
  simp only [slen] at hc hf hb h63 ⊢
  have hn : ¬ (l + q ≤ c) := by omega
  have h63' : ¬ (9223372036854775807 < ((l : Int) + (q : Int))) := by omega
  have hfit := growslice_fits hc hb
  have h48' : ¬ (281474976710656 < Builtin.nextslicecap (l + q) c * ti.bytes) := by omega
  have hne : (Question.appendCap (l + q) c e).forced = false := rfl
  simp [Builtin.append_, run_underlying' P ht, run_underlying' P ht', sizeOf, typeInfo, zeroValue, hi, hz, Builtin.lenOf, hn, h63', h48', hne, hf, hfo, newRow, grownCap]

/-- A row that grew: a new block on both sides, the world's may have more cells than it was asked for. -/
theorem rel_grown {i : Inj} {H : AH} {w : World} (h : Rel i H w) {e : TypeId} {new new' : List Value} {z : Array Value} (hv : VRs i new new') (m N size : Nat) (hz : z.size = size) :
    Rel (i.upd H.length ⟨w.heap.size, 0, size, N - m⟩) (H ++ [.cells new e (some size) false]) (w.drew.alloc (.cells (new'.toArray ++ Builtin.zeroCells z (N - m)) e)) ∧
    Ext i (i.upd H.length ⟨w.heap.size, 0, size, N - m⟩) H (H ++ [.cells new e (some size) false]) w (w.drew.alloc (.cells (new'.toArray ++ Builtin.zeroCells z (N - m)) e)) := by
  have hr : Rel i H w.drew := h.world rfl
  refine ⟨rel_push hr (.cells new e (some size) false) _ size (N - m) ⟨_, e, (0, 0), heap_alloc_new w.drew _, fun k v hk => ?_, fun _ => ⟨rfl, rfl, rfl, ?_⟩, (fun hc => by cases hc), (fun s hs => by cases hs; rfl)⟩, (Ext.drawn h _).trans (ext_new hr (.cells new e (some size) false) _ size (N - m))⟩
  · obtain ⟨v', h1, h2⟩ := hv.get hk
    refine ⟨v', ?_, h2.mono (Inj.le_upd hr.none_at)⟩
    simp only [Nat.zero_add]
    rw [Array.getElem?_append_left (by
      have := (List.getElem?_eq_some_iff.1 h1).1
      simpa using this)]
    simpa using h1
  · simp [size_zeroCells, hz, ← hv.length, Nat.mul_comm]

theorem cell_drew_keep {w : World} : ∀ a u, w.cell? a = some u → w.drew.cell? a = some u := fun _ _ h => h

/-- A row that is appended to at its very end, where the world's may have room: what it was is not told any more. -/
theorem rel_end {i : Inj} {H : AH} {w : World} (h : Rel i H w) {b : Nat} {L : Loc} {cc new new' : List Value} {e : TypeId} (hb : i b = some L) (hH : H[b]? = some (.cells cc e (some L.esz) false)) (hv : VRs i new new') {m : Nat} (hesz : new.length = m * L.esz) (hm : m ≤ L.ext)
    {c' : Array Value} (hw : w.heap[L.blk]? = some (.cells c' e (0, 0))) (hcs : c'.size = cc.length + L.ext * L.esz) (hcc : ∀ (k : Nat) (v : Value), cc[k]? = some v → ∃ v', c'[k]? = some v' ∧ VR i v v') :
    Rel (i.upd H.length ⟨L.blk, 0, L.esz, L.ext - m⟩) (H.set b .dead ++ [.cells (cc ++ new) e (some L.esz) false]) (w.setRow L.blk (splice c'.toList cc.length new').toArray) ∧
    Ext i (i.upd H.length ⟨L.blk, 0, L.esz, L.ext - m⟩) H (H.set b .dead ++ [.cells (cc ++ new) e (some L.esz) false]) w (w.setRow L.blk (splice c'.toList cc.length new').toArray) := by
  have hbl : b < H.length := h.dom b L hb
  have hle := Inj.le_upd (L := ⟨L.blk, 0, L.esz, L.ext - m⟩) h.none_at
  have hroom : cc.length + new'.length ≤ c'.toList.length := by
    have := hv.length
    have hmm : m * L.esz ≤ L.ext * L.esz := Nat.mul_le_mul_right _ hm
    simp only [Array.length_toList]
    omega
  have hget : ∀ n, n < H.length → (H.set b .dead ++ [.cells (cc ++ new) e (some L.esz) false])[n]? = if n = b then some .dead else H[n]? := by
    intro n hn
    rw [List.getElem?_append_left (by simpa using hn)]
    by_cases hnb : n = b
    · subst hnb; rw [if_pos rfl, List.getElem?_set_self hbl]
    · rw [if_neg hnb, List.getElem?_set_ne (Ne.symm hnb)]
  have hlast : (H.set b .dead ++ [.cells (cc ++ new) e (some L.esz) false])[H.length]? = some (.cells (cc ++ new) e (some L.esz) false) := by
    rw [List.getElem?_append_right (by simp)]; simp
  refine ⟨⟨fun n M hn => ?_, fun n M x hn hx => ?_, fun b1 b2 L1 L2 x1 x2 f1 f2 g1 g2 o1 l2 hL => ?_⟩, ⟨h.dom, hle, rfl, rfl, rfl, by simp, by simp, fun n x' hn hx ho => ?_, fun n hn hno => ?_, fun n hn hi => ?_, fun n M hn => ?_⟩⟩
  · by_cases hnl : n = H.length
    · simp [hnl]
    · simp [Inj.upd, hnl] at hn; have := h.dom n M hn; simp; omega
  · by_cases hnl : n = H.length
    · subst hnl
      simp [Inj.upd] at hn
      subst hn
      rw [hlast] at hx
      cases hx
      refine ⟨_, e, (0, 0), setRow_heap w L.blk c' _ e _ hw, fun k v hk => ?_, fun _ => ⟨rfl, rfl, rfl, ?_⟩, (fun hc => by cases hc), (fun s hs => by cases hs; rfl)⟩
      · simp only [Nat.zero_add, List.getElem?_toArray]
        rw [splice_get _ _ _ _ hroom]
        by_cases hkc : k < cc.length
        · rw [if_neg (by omega)]
          rw [List.getElem?_append_left hkc] at hk
          obtain ⟨v', p, q⟩ := hcc k v hk
          exact ⟨v', by simpa using p, q.mono hle⟩
        · rw [List.getElem?_append_right (by omega)] at hk
          obtain ⟨v', p, q⟩ := hv.get hk
          have hlt := (List.getElem?_eq_some_iff.1 p).1
          rw [if_pos ⟨by omega, by omega⟩]
          exact ⟨v', p, q.mono hle⟩
      · have e1 := splice_length c'.toList cc.length new' hroom
        simp only [List.size_toArray, e1, Array.length_toList, List.length_append, hcs, hesz]
        rw [Nat.add_assoc, ← Nat.add_mul]
        congr 2
        omega
    · simp [Inj.upd, hnl] at hn
      have hnlt := h.dom n M hn
      rw [hget n hnlt] at hx
      by_cases hnb : n = b
      · rw [if_pos hnb] at hx; cases hx; trivial
      · rw [if_neg hnb] at hx
        have hr := h.blk n M x hn hx
        by_cases hxl : x.live = true
        · refine (hr.mono hle).heap (setRow_other w _ _ _ ?_)
          intro hM
          exact hnb (h.inj b n L M _ x hb hn hH hx rfl hxl hM.symm).symm
        · cases x <;> simp [AB.live] at hxl
          trivial
  · by_cases n1 : b1 = H.length
    · by_cases n2 : b2 = H.length
      · rw [n1, n2]
      · simp [Inj.upd, n2] at f2
        have := h.dom b2 L2 f2
        rw [hget b2 this] at g2
        subst n1
        simp [Inj.upd] at f1
        subst f1
        by_cases hbb : b2 = b
        · rw [if_pos hbb] at g2; cases g2; simp [AB.live] at l2
        · rw [if_neg hbb] at g2
          exact absurd (h.inj b b2 L L2 _ x2 hb f2 hH g2 rfl l2 hL).symm hbb
    · simp [Inj.upd, n1] at f1
      have hd1 := h.dom b1 L1 f1
      rw [hget b1 hd1] at g1
      by_cases hbb1 : b1 = b
      · rw [if_pos hbb1] at g1; cases g1; simp [AB.owned] at o1
      · rw [if_neg hbb1] at g1
        by_cases n2 : b2 = H.length
        · subst n2
          simp [Inj.upd] at f2
          subst f2
          exact absurd (h.inj b1 b L1 L x1 _ f1 hb g1 hH o1 rfl hL) hbb1
        · simp [Inj.upd, n2] at f2
          have hd2 := h.dom b2 L2 f2
          rw [hget b2 hd2] at g2
          by_cases hbb : b2 = b
          · rw [if_pos hbb] at g2; cases g2; simp [AB.live] at l2
          · rw [if_neg hbb] at g2
            exact h.inj b1 b2 L1 L2 x1 x2 f1 f2 g1 g2 o1 l2 hL
  · rw [hget n hn] at hx
    by_cases hnb : n = b
    · rw [if_pos hnb] at hx; cases hx; simp [AB.owned] at ho
    · rw [if_neg hnb] at hx; exact ⟨x', hx, ho⟩
  · exact setRow_other w _ _ _ (fun hM => hno b L _ hb hH rfl hM.symm)
  · rw [hget n hn, if_neg (fun hnb => by subst hnb; rw [hb] at hi; cases hi)]
  · by_cases hnl : n = H.length
    · subst hnl
      simp [Inj.upd] at hn
      subst hn
      exact .inr ⟨Nat.le_refl _, .inr ⟨b, L, _, hb, hH, rfl, rfl⟩⟩
    · simp [Inj.upd, hnl] at hn; exact .inl hn

/-- A block that is not told any more. -/
theorem rel_dead {i : Inj} {H : AH} {w : World} (h : Rel i H w) {b : Nat} {L : Loc} (hb : i b = some L) : Rel i (H.set b .dead) w ∧ Ext i i H (H.set b .dead) w w := by
  have back : ∀ (n : Nat) (y : AB), (H.set b .dead)[n]? = some y → y.live = true → H[n]? = some y := by
    intro n y hy hl
    by_cases hnb : n = b
    · subst hnb
      have hlt : n < H.length := by
        have := (List.getElem?_eq_some_iff.1 hy).1
        simpa using this
      rw [List.getElem?_set_self hlt] at hy
      cases hy
      cases hl
    · rwa [List.getElem?_set_ne (Ne.symm hnb)] at hy
  refine ⟨⟨fun n M hn => by simpa using h.dom n M hn, fun n M x hn hx => ?_, fun b1 b2 L1 L2 x1 x2 f1 f2 g1 g2 o1 l2 hL => h.inj b1 b2 L1 L2 x1 x2 f1 f2 (back _ _ g1 (AB.owned_live o1)) (back _ _ g2 l2) o1 l2 hL⟩,
    ⟨h.dom, i.le_refl, rfl, rfl, rfl, Nat.le_refl _, by simp, fun n x' hn hx ho => ⟨x', back _ _ hx (AB.owned_live ho), ho⟩, fun _ _ _ => rfl, fun n hn hi => ?_, fun _ _ hn => .inl hn⟩⟩
  · by_cases hl : x.live = true
    · exact h.blk n M x hn (back _ _ hx hl)
    · cases x <;> simp [AB.live] at hl
      trivial
  · by_cases hnb : n = b
    · subst hnb; rw [hb] at hi; cases hi
    · exact List.getElem?_set_ne (Ne.symm hnb)

theorem run_append_exec {P : Program} {o : Oper} {x y : Operand} {t t' : TypeId} (ho : o.op = .call { callee := .builtin .append, args := #[x, y], argTypes := #[t, t'] }) (ρ : Operand → Value) (w w' : World) (v : Value)
    (h : (Builtin.append_ #[t, t'] o.type #[ρ x, ρ y]).run P w = .ok v w') : (execOp ρ o).run P w = .ok (.value v) w' := by
  rw [run_builtin_exec ho]
  have e : Array.map ρ #[x, y] = #[ρ x, ρ y] := by simp
  simp only [builtin, e, Sem.run_bind, h, Result.andThen_ok, Sem.run_pure]

theorem slice_shape {i : Inj} {v v' : Value} (h : VR i v v') (hs : ∃ a b c, v = .slice a b c) : (∃ a b c, v' = .slice a b c) ∧ slen v' = slen v := by
  obtain ⟨a, b, c, rfl⟩ := hs
  cases h <;> exact ⟨⟨_, _, _, rfl⟩, rfl⟩
theorem erow_slice {H : AH} {v : Value} {n : Nat} {l : List Value} (h : erow H v n = some l) : ∃ a b c, v = .slice a b c := by
  unfold erow at h
  split at h
  · exact ⟨_, _, _, rfl⟩
  · exact ⟨_, _, _, rfl⟩
  · cases h
theorem erow_len {P : Program} {i : Inj} {H : AH} {w : World} (h : Rel i H w) {v v' : Value} {n m size : Nat} {l : List Value} (hv : VR i v v') (hn : n = m * size) (he : erow H v n = some l) : l.length = n := by
  obtain ⟨l', h1, h2, _⟩ := erow_sim (P := P) h hv hn he
  rw [h1.length, h2]

theorem runSim_append {P : Program} {o : Oper} {x y : Operand} {t t' : TypeId} (ho : o.op = .call { callee := .builtin .append, args := #[x, y], argTypes := #[t, t'] }) {s u v : Value} {H H' : AH} (h : eappend P t t' s u H = some (v, H')) : RunSim P o [s, u] H v H' := by
  intro i w vs' hr hvs ρ hρ
  obtain ⟨s', u', rfl, hs, hu⟩ := hvs.two
  have hρ2 : ρ x = s' ∧ ρ y = u' := by rw [ho] at hρ; simpa [Op.operands, Call.operands] using hρ
  obtain ⟨hx, hy⟩ := hρ2
  clear hρ
  unfold eappend at h
  split at h
  · rename_i e e2 ht1 ht2
    split at h
    · rename_i ti hti
      split at h
      · rename_i z hz
        split at h
        · rename_i new hnew
          split at h
          · rename_i hc
            obtain ⟨c1, c2, c3, c4, c5⟩ := hc
            unfold slT at ht1 ht2
            split at ht1
            · rename_i e' hut
              cases ht1
              split at ht2
              · rename_i e'' hut'
                cases ht2
                have hszT : szT P e = some ti.size := by simp [szT, hti]
                have hus := erow_slice hnew
                obtain ⟨hus', hul⟩ := slice_shape hu hus
                obtain ⟨new', n1, n2, n3, n4⟩ := erow_sim (P := P) hr hu rfl hnew
                have hnl : new.length = slen u * ti.size := by rw [n1.length, n2]
                have hfw := n4 w (fun _ _ h => h)
                rw [← hul] at hfw
                have hfd := n4 w.drew cell_drew_keep
                rw [← hul] at hfd
                have hex : ∀ w' v', (Builtin.append_ #[t, t'] o.type #[s', u']).run P w = .ok v' w' → (execOp ρ o).run P w = .ok (.value v') w' := fun w' v' hh => run_append_exec ho ρ w w' v' (by rw [hx, hy]; exact hh)
                split at h
                · -- s is nil
                  cases hs
                  split at h
                  · rename_i h0
                    cases h
                    refine ⟨i, w, _, .refl hr, hr, .snil 0 0, .inl (hex _ _ ?_)⟩
                    have hnn : new' = [] := List.eq_nil_of_length_eq_zero (by rw [n2, h0, Nat.zero_mul])
                    rw [hul, h0, hnn] at hfw
                    exact run_append_none w hut ⟨_, hut'⟩ hszT u' (by rw [hul]; exact h0) hus' none 0 0 (Nat.le_refl _) hfw (fun _ => rfl)
                  · rename_i h0
                    cases h
                    have hsl : slen (.slice none 0 0) = 0 := rfl
                    rw [hsl, ← hul, Nat.zero_add] at c1 c2
                    obtain ⟨N, hN, hrun⟩ := run_append_new w (ty := o.type) hut ⟨_, hut'⟩ hti hz none 0 0 u' (by rw [hul]; omega) hus' #[] new'.toArray (by simp [Builtin.firstCells]) hfd (by rw [Nat.zero_add]; exact c1) (by rw [Nat.zero_add]; exact c2)
                    have hg := rel_grown hr (e := e) n1 (0 + slen u') N ti.size c3
                    refine ⟨_, _, _, hg.2, hg.1, ?_, .inl (hex _ _ (by rw [hrun, Array.empty_append]))⟩
                    have hup := Inj.upd_same i H.length ⟨w.heap.size, 0, ti.size, N - (0 + slen u')⟩
                    rw [Nat.zero_add] at hN hup ⊢
                    rw [← hul]
                    exact .slice (a := ⟨H.length, 0, none⟩) (L := ⟨w.heap.size, 0, ti.size, N - slen u'⟩) hup rfl (.inr (by simp only []; omega))
                · rename_i _ a l c
                  split at h
                  · rename_i cc ee opn ro hH hsp
                    cases hs with
                    | vague hsv => rw [hsp] at hsv; cases hsv
                    | slice hb hspp hcc =>
                      rename_i L c'
                      have hsl : slen (.slice (some a) l c) = l := rfl
                      rw [hsl] at c1 c2
                      have hcle : c ≤ c' := by rcases hcc with rfl | rfl <;> omega
                      by_cases hfit : l + slen u ≤ c
                      · rw [if_pos hfit] at h
                        by_cases h0 : slen u = 0
                        · rw [if_pos h0] at h
                          cases h
                          have hnn : new' = [] := List.eq_nil_of_length_eq_zero (by rw [n2, h0, Nat.zero_mul])
                          rw [hul, h0, hnn] at hfw
                          exact ⟨i, w, _, .refl hr, hr, .slice hb hsp hcc, .inl (hex _ _ (run_append_none w hut ⟨_, hut'⟩ hszT u' (by rw [hul]; exact h0) hus' _ l c' (by omega) hfw (fun hh => by cases hh)))⟩
                        · rw [if_neg h0] at h
                          split at h
                          · rename_i hroom
                            cases h
                            obtain ⟨rfl, hroom⟩ := hroom
                            obtain ⟨w', b0, hst, hrel, hext⟩ := storeCells_sim (P := P) hr hb hH n1 c5 hroom
                            refine ⟨i, w', _, hext, hrel, .slice hb hsp hcc, .inl (hex _ _ ?_)⟩
                            have hrun := run_append_at w (ty := o.type) hut ⟨_, hut'⟩ hszT u' hus' L.blk (L.base + a.off) l c' (by rw [hul]; omega) _ hfw (w' := w') (by rw [b0, Nat.zero_add]; simpa using hst)
                            rw [hul] at hrun
                            exact hrun
                          · cases h
                      · rw [if_neg hfit] at h
                        -- what is read of s
                        have hold : a.off + l * ti.size ≤ cc.length → ∃ olds, VRs i ((cc.drop a.off).take (l * ti.size)) olds ∧ olds.length = l * ti.size ∧ (Builtin.firstCells ti.size l (.slice (some ⟨L.blk, L.base + a.off, none⟩) l c')).run P w.drew = .ok olds.toArray w.drew := by
                          intro hle
                          obtain ⟨olds, o1, o2, o3⟩ := hr.row hb hH a.off (l * ti.size) hle
                          exact ⟨olds, o1, o2, run_firstCells_some (P := P) w.drew ti.size l _ l c' olds o2 (fun j u hj => o3 j u hj)⟩
                        have hgrow : ∀ (olds cold : List Value), VRs i cold olds → (Builtin.firstCells ti.size l (.slice (some ⟨L.blk, L.base + a.off, none⟩) l c')).run P w.drew = .ok olds.toArray w.drew → c' < l + slen u' →
                            ∃ i' w' v', Ext i i' H (H ++ [.cells (cold ++ new) e (some ti.size) false]) w w' ∧ Rel i' (H ++ [.cells (cold ++ new) e (some ti.size) false]) w' ∧ VR i' (.slice (some ⟨H.length, 0, none⟩) (l + slen u) (l + slen u)) v' ∧ (execOp ρ o).run P w = .ok (.value v') w' := by
                          intro olds cold ho hfo hlt
                          obtain ⟨N, hN, hrun⟩ := run_append_new w (ty := o.type) hut ⟨_, hut'⟩ hti hz _ l c' u' hlt hus' olds.toArray new'.toArray hfo hfd (by rw [hul]; exact c1) (by rw [hul]; exact c2)
                          have hg := rel_grown hr (e := e) (ho.append n1) (l + slen u') N ti.size c3
                          refine ⟨_, _, _, hg.2, hg.1, ?_, hex _ _ (by rw [hrun, show olds.toArray ++ new'.toArray = (olds ++ new').toArray from List.append_toArray _ _])⟩
                          have hup := Inj.upd_same i H.length ⟨w.heap.size, 0, ti.size, N - (l + slen u')⟩
                          rw [← hul]
                          exact .slice (a := ⟨H.length, 0, none⟩) (L := ⟨w.heap.size, 0, ti.size, N - (l + slen u')⟩) hup rfl (.inr (by simp only []; omega))
                        obtain ⟨d', ee', fr, hw1, hw2, hw3, hw4, hw5⟩ := hr.blk a.block L _ hb hH
                        split at h
                        · rename_i hop
                          subst hop
                          split at h
                          · rename_i hle
                            cases h
                            have hext0 := hw4 rfl
                            have hc' : c' = c := by rcases hcc with rfl | rfl <;> omega
                            obtain ⟨olds, o1, o2, o3⟩ := hold hle
                            obtain ⟨i', w', v', g1, g2, g3, g4⟩ := hgrow olds _ o1 o3 (by rw [hul]; omega)
                            exact ⟨i', w', v', g1, g2, g3, .inl g4⟩
                          · cases h
                        · split at h
                          · rename_i hcond
                            cases h
                            obtain ⟨rfl, rfl, rfl, ha0, hlen, rfl⟩ := hcond
                            have hesz := hw5 _ rfl
                            obtain ⟨b0, rfl, rfl, hsz⟩ := hw3 rfl
                            have hpt : (⟨L.blk, L.base + a.off, none⟩ : Addr) = ⟨L.blk, 0, none⟩ := by rw [b0, ha0]
                            by_cases hin : l + slen u' ≤ c'
                            · -- in place
                              have hext : slen u' ≤ L.ext := by rcases hcc with rfl | rfl <;> omega
                              have hst := run_storeCells_at P L.blk cc.length ee' new' 0 d' w hw1 (by
                                rw [hsz, n2, ← hul, Nat.add_zero]
                                have hmm : slen u' * ti.size ≤ L.ext * ti.size := Nat.mul_le_mul_right _ hext
                                rw [hesz]
                                omega) (fun v hv' => by
                                  obtain ⟨k, hk, rfl⟩ := List.mem_iff_getElem.1 hv'
                                  refine one_cell' ?_
                                  rw [(n1.at_ k (by rw [n1.length]; exact hk) hk).one_eq]
                                  exact List.all_eq_true.1 c5 _ (List.getElem_mem _))
                              simp only [Nat.add_zero] at hst
                              have hend := rel_end hr hb (by rw [hesz]; exact hH) n1 (m := slen u') (by rw [hesz, hul]; exact hnl) hext hw1 hsz (fun k v hk => by
                                obtain ⟨v', p, q⟩ := hw2 k v hk
                                exact ⟨v', by rw [b0, Nat.zero_add] at p; exact p, q⟩)
                              rw [hesz] at hend
                              have hrun := run_append_at w (ty := o.type) hut ⟨_, hut'⟩ hszT u' hus' L.blk 0 l c' hin _ hfw (w' := w.setRow L.blk (splice d'.toList cc.length new').toArray) (by rw [Nat.zero_add, hlen]; exact hst)
                              refine ⟨_, _, _, hend.2, hend.1, ?_, .inl (hex _ _ (by rw [hpt]; exact hrun))⟩
                              have hup := Inj.upd_same i H.length ⟨L.blk, 0, ti.size, L.ext - slen u'⟩
                              rw [← hul]
                              exact .slice (a := ⟨H.length, 0, none⟩) (L := ⟨L.blk, 0, ti.size, L.ext - slen u'⟩) hup rfl (.inr (by simp only []; rcases hcc with rfl | rfl <;> omega))
                            · obtain ⟨olds, o1, o2, o3⟩ := hold (by omega)
                              have hcold : (cc.drop a.off).take (l * ti.size) = cc := by rw [ha0, List.drop_zero, hlen, List.take_length]
                              rw [hcold] at o1
                              obtain ⟨i', w', v', g1, g2, g3, g4⟩ := hgrow olds cc o1 o3 (by omega)
                              have hd := rel_dead g2 (g1.le _ _ hb)
                              rw [List.set_append_left _ _ (hr.dom _ _ hb)] at hd
                              exact ⟨i', w', v', g1.trans hd.2, hd.1, g3, .inl g4⟩
                          · cases h
                  · cases h
                · cases h
              · cases ht2
            · cases ht1
          · cases h
        · cases h
      · cases h
    · cases h
  · cases h

end Go.Sim
