/- Part of the proof: SpW3, SpW4, SpY1, SpY2, SpY3, SpY4, SpY5, SpY6, SpY7, SpY8, SpY9, SpX8, SpX9, SpX10. -/
import Derived.Test.YtgcoidbhikfdkaaSSpVToSpW2
set_option linter.all false
namespace Go.Sim
open Go Go.Proofs
theorem Acc.setLow {H0 H : AH} {v : Value} {cs : List Value} {e : TypeId} {x : Nat} {y : AB} (h : Acc H0 H v cs e) (hx : x < H0.length) : Acc H0 (H.set x y) v cs e := by
  rcases h with h | ⟨b, hb1, rfl, op, h4, h5⟩
  · exact .inl h
  · refine .inr ⟨b, hb1, rfl, op, h4, ?_⟩
    rw [List.getElem?_set_ne (by omega)]
    exact h5
def Lo (n : Nat) (v : Value) : Prop := ∀ a l c, v = .slice (some a) l c → n ≤ a.block
theorem Row.setLow {H : AH} {v : Value} {cs : List Value} {x n : Nat} {y : AB} (h : Row H v cs) (hl : Lo n v) (hx : x < n) : Row (H.set x y) v cs := by
  rcases h with h | ⟨b1, o, c, cc, e1, op1, r1, rfl, h2, h3, hcap⟩
  · exact .inl h
  · have := hl _ _ _ rfl
    exact .inr ⟨b1, o, c, cc, e1, op1, r1, rfl, by rw [List.getElem?_set_ne (by simp at this; omega)]; exact h2, h3, hcap⟩
theorem Acc.lo {H0 H : AH} {v : Value} {cs : List Value} {e : TypeId} (h : Acc H0 H v cs e) : Lo H0.length v := by
  intro a l c hv
  rcases h with ⟨_, rfl⟩ | ⟨b, hb1, rfl, op, h4, h5⟩
  · cases hv
  · cases hv; exact hb1
theorem RowX.setLow {H : AH} {v : Value} {cs : List Value} {x n : Nat} {y : AB} (h : RowX H v cs) (hl : Lo n v) (hx : x < n) : RowX (H.set x y) v cs := by
  refine ⟨h.1.setLow hl hx, ?_⟩
  have h2 := h.2
  revert h2
  unfold Sim.erow
  split
  · exact fun h => h
  · rename_i a _ _
    have hne : x ≠ a.block := by have := hl _ _ _ rfl; omega
    rw [List.getElem?_set_ne hne]
    exact fun h => h
  · exact fun h => h
def RowLo (n : Nat) (H : AH) (v : Value) (css : List (List Value)) : Prop := ∃ vs, RowX H v vs ∧ Rws H vs css ∧ Lo n v ∧ ∀ x ∈ vs, Lo n x
theorem RowLo.rowR {n : Nat} {H : AH} {v : Value} {css : List (List Value)} (h : RowLo n H v css) : RowR H v css := let ⟨vs, a, b, _⟩ := h; ⟨vs, a, b⟩
theorem RowLo.setLow {n : Nat} {H : AH} {v : Value} {css : List (List Value)} {x : Nat} {y : AB} (h : RowLo n H v css) (hx : x < n) : RowLo n (H.set x y) v css := by
  obtain ⟨vs, a, b, c, d⟩ := h
  exact ⟨vs, a.setLow c hx, ⟨b.1, fun k hk => (b.2 k hk).setLow (d _ (getD_mem (by rw [b.1]; exact hk))) hx⟩, c, d⟩
section
variable {α : Type} [Fl α] [DecidableEq α] {cd : α → Nat} {p e b c q : Nat} {blk : AB} {H : AH}
theorem lfill_succ {n k : Nat} {L : List (List α)} {x : List α} (hk : k < L.length) : lfill n (L.take (k + 1)) x = (lfill n (L.take k) x).set (lpiv (L.getD k [])) ((L.getD k []).getD n Fl.zero) := by
  unfold lfill
  rw [List.take_succ_eq_append_getElem hk, List.foldl_append, getD_at hk]
  rfl
def SolP (cd : α → Nat) (H0 H : AH) (r : Value) : Option (List α) → Prop
  | none => r = .tuple [.slice none 0 0, nv 4].toArray
  | some x => ∃ s, r = .tuple [s, nv 0].toArray ∧ Row H s (evs cd x) ∧ Lo H0.length s
theorem solve_p (F : FOK α cd p e b c q blk) {v w : Value} {n : Nat} {rows : List (List α)} {bs : List α} (hb : H[b]? = some blk) (hv : RowR H v (evr cd rows)) (hw : Row H w (evs cd bs)) (hl : ∀ x ∈ rows, x.length = n) (hbl : rows.length = bs.length) (hR : rows.length ≤ 400) (hn : n ≤ 500) (hn0 : 0 < n) :
    FN Try.prog 99 [fldv p e b e c, nv n, v, w] H (fun r H' => Pre H H' ∧ SolP cd H H' r (lsolve n rows bs)) := by
  refine g99_of ?_
  unfold g99
  have hp1 := Pre.new H [fbx p e b c]
  obtain ⟨wl, _, _, _⟩ := hw.all Fl.zero
  simp (disch := omega) only [zA, zB, zC, zD, zF, zG, zH, ↓reduceIte, wl]
  refine loopV2.nat bs.length (fun k l i H' => i = nv k ∧ Pre (H ++ [fbx p e b c]) H' ∧ AccR (H ++ [fbx p e b c]) H' l (evr cd ((lcol bs).take k)) 26) ⟨rfl, Pre.refl _, AccR.nil⟩ ?_ ?_
  · rintro k l i H2 hk ⟨rfl, hp2, ho⟩ J hJ
    have hp02 := hp1.trans hp2
    obtain ⟨_, wi, wd, _⟩ := (hw.pre hp02).all Fl.zero
    have hX := Pre.new H2 [.cells [nv (cd (bs.getD k Fl.zero))] 3 none false]
    have hrow : Row (H2 ++ [.cells [nv (cd (bs.getD k Fl.zero))] 3 none false]) (.slice (some ⟨H2.length, 0, none⟩) 1 1) (evs cd [bs.getD k Fl.zero]) := Row.of (e := 3) (op := none) (r := false) (by simp) rfl (Nat.le_refl _)
    have hpp := hp2.trans hX
    obtain ⟨out', H6, e1, ho', hp', _⟩ := (ho.pre hX).app1 (by_ := 24) hpp.len hrow (evs_plain _) (by simp; omega) (by simp; omega) (e2 := 26)
    simp only [List.append_assoc, List.cons_append, List.nil_append, List.length_append, List.length_cons, List.length_nil] at e1
    simp (disch := (first | omega | (simp only [stLen] <;> omega) | (simp only [all_nv]; done) | rfl)) only [zA, zB, zC, zD, zF, zG, zH, Nat.reduceEqDiff, Nat.reduceLT, Nat.reduceLeDiff, ↓reduceIte, hk, wi, wd, hrow.fill, e1]
    refine hJ _ _ _ ⟨rfl, hp' hpp, ?_⟩
    have he : (lcol bs).take (k + 1) = (lcol bs).take k ++ [[bs.getD k Fl.zero]] := by
      rw [List.take_succ_eq_append_getElem (by simpa [lcol] using hk)]
      simp [lcol, List.getD_eq_getElem?_getD, List.getElem?_eq_getElem hk]
    rw [he]
    simpa using ho'
  · rintro l i H2 ⟨rfl, hp2, ho⟩ J
    have hcl : (lcol bs).length = bs.length := by simp [lcol]
    rw [List.take_of_length_le (by omega)] at ho
    have hp02 := hp1.trans hp2
    have hbx2 := hp2.get (b := H.length) (x := fbx p e b c) (by simp)
    simp (disch := omega) only [zA, zB, zC, zD, zF, zG, zH, ↓reduceIte, hbx2]
    refine FZ.mono (beside_p (hv.pre hp02) ho.rowR hl (lcol_len bs) (by omega) (by omega) (by omega) (by omega) hn0 (by omega)) ?_
    rintro s1 H6 ⟨hp6, hs1⟩
    have hp16 := hp2.trans hp6
    have hp06 := hp1.trans hp16
    have hbx6 := hp16.get (b := H.length) (x := fbx p e b c) (by simp)
    have hZl := lbeside_len hl (lcol_len bs)
    have hZn : (lbeside rows (lcol bs)).length = rows.length := by simp [lbeside]; omega
    simp (disch := omega) only [zA, zB, zC, zD, zF, zG, zH, ↓reduceIte, hbx6]
    refine FZ.mono (of_c F hs1 hZl (by omega) (by omega) (by omega)) ?_
    rintro m H7 ⟨hp7, mb, rfl, hmb, hm⟩
    have hp17 := hp16.trans hp7
    have hp07 := hp1.trans hp17
    have hb7 := hp07.get hb
    have h8 : 8 * n ≤ 281474976710656 := by omega
    have hX := Pre.new H7 [.cells ((List.replicate n 0).map nv) 3 none false]
    have hp08 := hp07.trans hX
    simp (disch := omega) only [zA, zB, zC, zD, zF, zG, zH, ↓reduceIte, xnew_makeN, h8]
    have hz0 := zero_evs (α := α) F (n := n)
    rcases hm with ⟨hM0, hm⟩ | ⟨hM0, sb, bl, hm, hnew⟩
    · have hr0 : rows = [] := List.eq_nil_of_length_eq_zero (by rw [← hZn, hM0]; rfl)
      subst hr0
      have hm8 : (H7 ++ [.cells ((List.replicate n 0).map nv) 3 none false])[mb]? = some (.cells [nv p, nv e, .slice (some ⟨b, 0, none⟩) e c, .slice none 0 0] 134 none false) := hX.get hm
      refine FZ.use (preduce0_c hm8 (by omega)) ?_
      simp (disch := omega) only [zA, zB, zC, zD, zF, zG, zH, ↓reduceIte, hm8]
      refine loopV1.nat 0 (fun k i H' => i = nv 0 ∧ H' = H7 ++ [.cells ((List.replicate n 0).map nv) 3 none false]) ⟨rfl, rfl⟩ (fun _ _ _ h => absurd h (Nat.not_lt_zero _)) ?_
      rintro i _ ⟨rfl, rfl⟩ J2
      simp (disch := omega) only [zA, zB, zC, zD, zF, zG, zH, ↓reduceIte]
      refine ⟨hp08, ?_⟩
      have hls : lsolve n [] bs = some (List.replicate n Fl.zero) := by
        simp [lsolve, lbeside, lreduce, lfill]
      rw [hls]
      refine ⟨_, rfl, ?_, fun a l c h => by cases h; exact hp07.len⟩
      rw [hz0]
      exact Row.of (e := 3) (op := none) (r := false) (by simp) (by simp) (Nat.le_refl _)
    · have hmlt := hm.lt
      have hbn : b ∉ mb :: sb :: bl := fun hx => by have := hnew b hx; have := get_lt hb; have := hp06.len; omega
      have hpos := List.length_pos_iff.2 hM0
      refine FZ.mono (preduce_c F (hp08.get hb) hbn (hm.pre hX) (by omega) (by omega) (Nat.le_add_right n 1) hpos) ?_
      rintro piv H9 ⟨bs', M', P, hm9, hr9, hl9, hs9, ha9, hf9, hsub9, hlen9⟩
      have v9 := hm9.var
      have hPl := hr9.len
      have hbm := hm9.len
      have hpl : xpure .lenS [piv] = some (nv P.length) := by have := ha9.row.len; simpa using this
      have hxb : H7.length ∉ mb :: sb :: bs' := fun hx => by
        have : H7.length ∈ mb :: sb :: bl := by
          simp only [List.mem_cons] at hx ⊢
          rcases hx with h | h | h
          · exact .inl h
          · exact .inr (.inl h)
          · exact .inr (.inr (hsub9 _ h))
        have := hmlt _ this
        omega
      have hxb2 : H7.length ∉ mb :: sb :: bl := fun hx => by have := hmlt _ hx; omega
      have hx9 : H9[H7.length]? = some (.cells (evs cd (List.replicate n (Fl.zero : α))) 3 none false) := by
        rw [hf9 _ (by simp) hxb2, ← hz0]; simp
      have hp19 : Pre (H ++ [fbx p e b c]) H9 := fun x hx => by
        have hl6 := hp16.len
        have hxn : x ∉ mb :: sb :: bl := fun hx2 => by have h := hnew x hx2; omega
        rw [hf9 x (by have h := hp7.len; simp only [List.length_append, List.length_cons, List.length_nil] at h hx hl6 ⊢; omega) hxn]
        exact (hp17.trans hX) x hx
      have hMl : M'.length = bs.length := by omega
      have hbsl : bs'.length = bs.length := by omega
      rw [hbsl] at v9
      have hset : H9.set H7.length (.cells (evs cd (List.replicate n (Fl.zero : α))) 3 none false) = H9 := set_same hx9
      simp (disch := omega) only [zA, zB, zC, zD, zF, zG, zH, ↓reduceIte, v9]
      refine loopV1.nat bs.length (fun k i H' => i = nv k ∧ H' = H9.set H7.length (.cells (evs cd (lfill n (M'.take (min k P.length)) (List.replicate n Fl.zero))) 3 none false) ∧ ∀ j, P.length ≤ j → j < k → ent M' j n = Fl.zero) ⟨rfl, by rw [Nat.zero_min, List.take_zero]; exact hset.symm, fun j _ h => absurd h (Nat.not_lt_zero _)⟩ ?_ ?_
      · rintro k i _ hk ⟨rfl, rfl, hz⟩ J2 hJ2
        have hne : ∀ x ∈ mb :: sb :: bs', (H9.set H7.length (.cells (evs cd (lfill n (M'.take (min k P.length)) (List.replicate n Fl.zero))) 3 none false))[x]? = H9[x]? := fun x hx => List.getElem?_set_ne fun (e : H7.length = x) => hxb (by rw [e]; exact hx)
        have hmk := hm9.keep hne
        obtain ⟨op, ho⟩ := hmk.spine
        have hkb : k < bs'.length := by omega
        have l1 := ld_sp ho hkb
        have hkM : k < M'.length := by omega
        have hw9 := row_len hm9.width hkM
        have l2 := ld_ev (hmk.row k hkM) (k := n) (by omega)
        have hcell : (H9.set H7.length (.cells (evs cd (lfill n (M'.take (min k P.length)) (List.replicate n Fl.zero))) 3 none false))[H7.length]? = some (.cells (evs cd (lfill n (M'.take (min k P.length)) (List.replicate n Fl.zero))) 3 none false) := List.getElem?_set_self (get_lt hx9)
        obtain ⟨_, pi_, pd, _⟩ := (ha9.setLow (x := H7.length) (y := .cells (evs cd (lfill n (M'.take (min k P.length)) (List.replicate n Fl.zero))) 3 none false) (by simp)).row.all 0
        by_cases hkP : k < P.length
        · have hplt := hr9.lt k hkP
          have s1 := st_ev (x := (M'.getD k []).getD n Fl.zero) hcell (k := P.getD k 0) (by rw [lfill_length]; simpa using hplt)
          rw [List.set_set] at s1
          have hn1 : n < n + 1 := Nat.lt_succ_self n
          simp (disch := omega) only [zA, zB, zC, zD, zF, zG, zH, ↓reduceIte, hk, hkb, l1, hpl, hkP, pi_, pd, hn1, l2, hplt, s1]
          refine hJ2 _ _ ⟨rfl, ?_, fun j h1 h2 => hz j h1 (by omega)⟩
          rw [Nat.min_eq_left (by omega), Nat.min_eq_left (by omega), lfill_succ hkM, hr9.piv_eq (by omega) hkP]
        · by_cases he : ent M' k n = Fl.zero
          · have he0 : cd ((M'.getD k []).getD n Fl.zero) = 0 := (F.eq0 _).2 he
            have hn1 : n < n + 1 := Nat.lt_succ_self n
            simp (disch := omega) only [zA, zB, zC, zD, zF, zG, zH, ↓reduceIte, hk, hkb, l1, hpl, hkP, hn1, l2, he0]
            refine hJ2 _ _ ⟨rfl, ?_, fun j h1 h2 => ?_⟩
            · rw [Nat.min_eq_right (by omega), Nat.min_eq_right (by omega)]
            · by_cases hjk : j = k
              · rw [hjk]; exact he
              · exact hz j h1 (by omega)
          · have he0 : ¬ cd ((M'.getD k []).getD n Fl.zero) = 0 := fun hh => he ((F.eq0 _).1 hh)
            have hn1 : n < n + 1 := Nat.lt_succ_self n
            simp (disch := omega) only [zA, zB, zC, zD, zF, zG, zH, ↓reduceIte, hk, hkb, l1, hpl, hkP, hn1, l2, he0]
            have hls := psolve_eq (bs := bs) hl hr9 hs9
            rw [if_pos] at hls
            · rw [← hls]
              refine ⟨fun x hx => ?_, rfl⟩
              rw [List.getElem?_set_ne (by have h := hp07.len; omega)]
              exact (hp1.trans hp19) x hx
            · rw [List.any_eq_true]
              refine ⟨M'.getD k [], ?_, decide_eq_true (show (M'.getD k []).getD n Fl.zero ≠ Fl.zero from he)⟩
              rw [show M'.getD k [] = (M'.drop P.length).getD (k - P.length) [] by simp [List.getD_eq_getElem?_getD, show P.length + (k - P.length) = k by omega]]
              exact getD_mem (by rw [List.length_drop]; omega)
      · rintro i _ ⟨rfl, rfl, hz⟩ J2
        simp (disch := omega) only [zA, zB, zC, zD, zF, zG, zH, ↓reduceIte]
        have hls := psolve_eq (bs := bs) hl hr9 hs9
        rw [if_neg] at hls
        · rw [← hls]
          refine ⟨fun x hx => ?_, _, rfl, ?_, fun a l c h => by cases h; exact hp07.len⟩
          · rw [List.getElem?_set_ne (by have h := hp07.len; omega)]
            exact (hp1.trans hp19) x hx
          · rw [Nat.min_eq_right (by omega)]
            exact Row.of (e := 3) (op := none) (r := false) (List.getElem?_set_self (get_lt hx9)) (by rw [List.length_map, lfill_length]; simp) (Nat.le_refl _)
        · rw [List.any_eq_true]
          rintro ⟨y, hy, hyn⟩
          obtain ⟨k, hk, rfl⟩ := List.mem_iff_getElem.1 hy
          rw [List.length_drop] at hk
          have h1 := hz (P.length + k) (by omega) (by omega)
          have h2 := of_decide_eq_true hyn
          rw [List.getElem_drop] at h2
          unfold ent at h1
          rw [getD_at (by omega)] at h1
          exact h2 h1
end
end Go.Sim

namespace Go.Sim
open Go Go.Proofs
theorem zheap_step2 {H0 : AH} {n m k : Nat} {row : Nat → List Value} {z : List Value} (hk : k < m) : ((zheap H0 n m k row ++ [AB.cells z 3 none false]).set H0.length (.cells ((zsp (H0.length + 1) n m k).set k (.slice (some ⟨(zheap H0 n m k row).length, 0, none⟩) n n)) 26 none false)).set (zheap H0 n m k row).length (.cells (row k) 3 none false) = zheap H0 n m (k + 1) row := by
  rw [← zheap_step hk, List.set_comm _ _ (by rw [zheap_len]; omega), set_last]
section
variable {α : Type} [Fl α] [DecidableEq α] {cd : α → Nat} {p e b c q : Nat} {blk : AB} {H : AH}
def InvP (cd : α → Nat) (H0 H : AH) (r : Value) : Option (List (List α)) → Prop
  | none => r = .tuple [.slice none 0 0, nv 4].toArray
  | some x => ∃ s, r = .tuple [s, nv 0].toArray ∧ RowLo H0.length H s (evr cd x)
theorem inverse_p (F : FOK α cd p e b c q blk) {v : Value} {n : Nat} {A : List (List α)} (hb : H[b]? = some blk) (hv : RowR H v (evr cd A)) (hA : ∀ x ∈ A, x.length = A.length) (hn' : A.length = n) (hn : n ≤ 400) (hn0 : 0 < n) :
    FN Try.prog 104 [fldv p e b e c, v] H (fun r H' => Pre H H' ∧ InvP cd H H' r (linv A)) := by
  refine g104_of ?_
  unfold g104
  have hp1 := Pre.new H [fbx p e b c]
  obtain ⟨ws, hws, hwl, hwr⟩ := hv.open
  obtain ⟨wl, _, _, _⟩ := hws.allV
  rw [hwl, hn'] at wl
  have h24 : 24 * n ≤ 281474976710656 := by omega
  have h8 : 8 * n ≤ 281474976710656 := by omega
  have hH0 : (H ++ [fbx p e b c]).length = H.length + 1 := by simp
  have hst : H ++ [fbx p e b c, .cells (List.replicate n (.slice none 0 0)) 26 none false] = zheap (H ++ [fbx p e b c]) n n 0 (fun i => evs cd (lunit (α := α) n i)) := by rw [zheap_zero]; simp
  simp (disch := omega) only [zA, zB, zC, zD, zF, zG, zH, ↓reduceIte, wl, xnew_makeS, h24]
  refine loopV1.nat n (fun k i H' => i = nv k ∧ H' = zheap (H ++ [fbx p e b c]) n n k (fun i => evs cd (lunit (α := α) n i))) ⟨rfl, hst⟩ ?_ ?_
  · rintro k i _ hk ⟨rfl, rfl⟩ J hJ
    have hg := zheap_get (H0 := H ++ [fbx p e b c]) (n := n) (m := n) (k := k) (row := fun i => evs cd (lunit (α := α) n i)) [.cells ((List.replicate n 0).map nv) 3 none false]
    have s1 := st_cell (v := .slice (some ⟨(zheap (H ++ [fbx p e b c]) n n k (fun i => evs cd (lunit (α := α) n i))).length, 0, none⟩) n n) hg (k := k) (by simp [zsp]; exact hk) rfl rfl
    have hstep := zheap_step2 (H0 := H ++ [fbx p e b c]) (row := fun i => evs cd (lunit (α := α) n i)) (n := n) (z := (List.replicate n 0).map nv) hk
    have hzl := zheap_len (H0 := H ++ [fbx p e b c]) (row := fun i => evs cd (lunit (α := α) n i)) (n := n) (m := n) (k := k)
    rw [hH0] at s1 hstep hzl hg
    generalize hZ : zheap (H ++ [fbx p e b c]) n n k (fun i => evs cd (lunit (α := α) n i)) = Z at *
    generalize hS : zsp (H.length + 1 + 1) n n k = S at *
    have hSl : S.length = n := by rw [← hS]; simp [zsp]
    have hsp : ((Z ++ [AB.cells ((List.replicate n 0).map nv) 3 none false]).set (H.length + 1) (.cells (S.set k (.slice (some ⟨Z.length, 0, none⟩) n n)) 26 none false))[H.length + 1]? = some (.cells (S.set k (.slice (some ⟨Z.length, 0, none⟩) n n)) 26 none false) := List.getElem?_set_self (by simp; omega)
    have l1 : xload none ((Z ++ [AB.cells ((List.replicate n 0).map nv) 3 none false]).set (H.length + 1) (.cells (S.set k (.slice (some ⟨Z.length, 0, none⟩) n n)) 26 none false)) [.pointer (some ⟨H.length + 1, k, none⟩)] = some (.slice (some ⟨Z.length, 0, none⟩) n n) := by
      rw [xload_at hsp]
      simp [xpart, List.getElem?_set_self (show k < S.length by omega)]
    have hz : ((Z ++ [AB.cells ((List.replicate n 0).map nv) 3 none false]).set (H.length + 1) (.cells (S.set k (.slice (some ⟨Z.length, 0, none⟩) n n)) 26 none false))[Z.length]? = some (.cells (evs cd (List.replicate n (Fl.zero : α))) 3 none false) := by
      rw [List.getElem?_set_ne (by omega), zero_evs F]; simp
    have s2 := st_ev (x := (Fl.one : α)) hz (k := k) (by simpa using hk)
    rw [F.one, show (List.replicate n Fl.zero).set k Fl.one = lunit (α := α) n k from rfl, hstep] at s2
    simp (disch := omega) only [zA, zB, zC, zD, zF, zG, zH, ↓reduceIte, hk, xnew_makeN, h8, s1, l1, s2]
    exact hJ _ _ ⟨rfl, rfl⟩
  · rintro i _ ⟨rfl, rfl⟩ J
    have hpZ : Pre (H ++ [fbx p e b c]) (zheap (H ++ [fbx p e b c]) n n n (fun i => evs cd (lunit (α := α) n i))) := zheap_pre
    obtain ⟨hul, hun⟩ := lunits_len (α := α) n
    have hg : (zheap (H ++ [fbx p e b c]) n n n (fun i => evs cd (lunit (α := α) n i)))[H.length + 1]? = some (.cells (zsp (H.length + 1 + 1) n n n) 26 none false) := by
      have := zheap_get (H0 := H ++ [fbx p e b c]) (n := n) (m := n) (k := n) (row := fun i => evs cd (lunit (α := α) n i)) []
      rw [hH0] at this
      simpa using this
    have hz : RowR (zheap (H ++ [fbx p e b c]) n n n (fun i => evs cd (lunit (α := α) n i))) (.slice (some ⟨H.length + 1, 0, none⟩) n n) (evr cd (lunits n)) := by
      rw [← hH0]
      refine zheap_row rfl (by rw [List.length_map, hul]) (fun i hi => ?_) (fun cs hcs => ?_)
      · simp [lunits, List.getD_eq_getElem?_getD, hi]
      · obtain ⟨x, hx, rfl⟩ := List.mem_map.1 hcs
        rw [List.length_map, hun x hx]
    have hZl := zheap_len (H0 := H ++ [fbx p e b c]) (row := fun i => evs cd (lunit (α := α) n i)) (n := n) (m := n) (k := n)
    rw [hH0] at hZl
    generalize zheap (H ++ [fbx p e b c]) n n n (fun i => evs cd (lunit (α := α) n i)) = Z at *
    have hp0Z := hp1.trans hpZ
    have hbxZ := hpZ.get (b := H.length) (x := fbx p e b c) (by simp)
    have hAn : ∀ x ∈ A, x.length = n := fun x hx => by rw [hA x hx, hn']
    simp (disch := omega) only [zA, zB, zC, zD, zF, zG, zH, ↓reduceIte, hbxZ]
    refine FZ.mono (beside_p (hv.pre hp0Z) hz hAn hun (by omega) (by omega) (by omega) (by omega) hn0 hn0) ?_
    rintro s1 H7 ⟨hp7, hs1⟩
    have hp17 := hpZ.trans hp7
    have hp07 := hp1.trans hp17
    have hbx7 := hp17.get (b := H.length) (x := fbx p e b c) (by simp)
    have hBl := lbeside_len hAn hun
    have hBn : (lbeside A (lunits n)).length = n := by simp [lbeside, hul]; omega
    simp (disch := omega) only [zA, zB, zC, zD, zF, zG, zH, ↓reduceIte, hbx7]
    refine FZ.mono (of_c F hs1 hBl (by omega) (by omega) (by omega)) ?_
    rintro m H8 ⟨hp8, mb, rfl, hmb, hm⟩
    have hp18 := hp17.trans hp8
    have hp08 := hp1.trans hp18
    rcases hm with ⟨hM0, hm⟩ | ⟨hM0, sb, bl, hm, hnew⟩
    · rw [hM0] at hBn; simp at hBn; omega
    have hmlt := hm.lt
    have hbn : b ∉ mb :: sb :: bl := fun hx => by have := hnew b hx; have := get_lt hb; have := hp07.len; omega
    simp (disch := omega) only [zA, zB, zC, zD, zF, zG, zH, ↓reduceIte]
    refine FZ.mono (preduce_c F (hp08.get hb) hbn hm (by omega) (by omega) (by omega) (by omega)) ?_
    rintro piv H9 ⟨bs', M', P, hm9, hr9, hl9, hs9, ha9, hf9, hsub9, hlen9⟩
    have v9 := hm9.var
    have hPl := hr9.len
    have hbm := hm9.len
    have hpl : xpure .lenS [piv] = some (nv P.length) := by have := ha9.row.len; simpa using this
    have hp09 : Pre H H9 := fun x hx => by
      have hl7 := hp07.len
      have hxn : x ∉ mb :: sb :: bl := fun hx2 => by have h := hnew x hx2; omega
      rw [hf9 x (by have h := hp08.len; omega) hxn]
      exact hp08 x hx
    have hsub' : ∀ x ∈ mb :: sb :: bs', x ∈ mb :: sb :: bl := by
      intro x hx
      simp only [List.mem_cons] at hx ⊢
      rcases hx with h | h | h
      · exact .inl h
      · exact .inr (.inl h)
      · exact .inr (.inr (hsub9 _ h))
    have hl7 := hp7.len
    have hxb : H.length + 1 ∉ mb :: sb :: bs' := fun hx => by have := hnew _ (hsub' _ hx); omega
    have hsp9 : H9[H.length + 1]? = some (.cells (zsp (H.length + 1 + 1) n n n) 26 none false) := by
      rw [hf9 _ (by have := hp8.len; omega) (fun hx => by have := hnew _ hx; omega), (hp7.trans hp8) _ (by omega)]
      exact hg
    have hMl : M'.length = A.length := by omega
    have hinv := pinv_eq (A := A) hA (by rw [hn']; exact hr9) (by omega) (by rw [hn']; exact hs9)
    by_cases hlt : P.length < n
    · simp (disch := omega) only [zA, zB, zC, zD, zF, zG, zH, ↓reduceIte, hpl, hlt]
      rw [if_pos (by omega)] at hinv
      rw [← hinv]
      exact ⟨hp09, rfl⟩
    · have hbsl : bs'.length = n := by omega
      rw [hbsl] at v9
      simp (disch := omega) only [zA, zB, zC, zD, zF, zG, zH, ↓reduceIte, hpl, hlt, v9]
      rw [if_neg (by omega)] at hinv
      generalize hZS : zsp (H.length + 1 + 1) n n n = ZS at *
      have hZSl : ZS.length = n := by rw [← hZS]; simp [zsp]
      have hset : H9.set (H.length + 1) (.cells ZS 26 none false) = H9 := set_same hsp9
      have hvl : (bs'.map fun bl => (.slice (some ⟨bl, n, none⟩) n n : Value)).length = n := by simp [hbsl]
      generalize hVS : (bs'.map fun bl => (.slice (some ⟨bl, n, none⟩) n n : Value)) = VS at *
      have hVSg : ∀ k, k < n → VS.getD k undef = .slice (some ⟨bs'.getD k 0, n, none⟩) n n := fun k hk => by
        rw [← hVS]; simp [List.getD_eq_getElem?_getD, List.getElem?_eq_getElem (show k < bs'.length by omega)]
      have hsl : ∀ bl, xpure (.slS 1 true false) [rsl (n + n) bl, nv n] = some (.slice (some ⟨bl, n, none⟩) n n) := fun bl => by
        simp only [xpure, bnds, Option.getD_some, Option.getD_none]
        rw [if_pos ⟨trivial, by omega, by omega, by omega⟩, if_neg (by omega), if_pos (by omega)]
        have e : (((n + n : Nat) : Int).toNat - (n : Int).toNat) = n := by omega
        have e2 : (n + n - (n : Int).toNat) = n := by omega
        rw [e, e2]
        simp
      refine loopV1.nat n (fun k i H' => i = nv k ∧ H' = H9.set (H.length + 1) (.cells (VS.take k ++ ZS.drop k) 26 none false)) ⟨rfl, by simpa using hset.symm⟩ ?_ ?_
      · rintro k i _ hk ⟨rfl, rfl⟩ J2 hJ2
        have hne : ∀ x ∈ mb :: sb :: bs', (H9.set (H.length + 1) (.cells (VS.take k ++ ZS.drop k) 26 none false))[x]? = H9[x]? := fun x hx => List.getElem?_set_ne fun (e : H.length + 1 = x) => hxb (by rw [e]; exact hx)
        have hmk := hm9.keep hne
        obtain ⟨op, ho⟩ := hmk.spine
        have hkb : k < bs'.length := by omega
        have l1 := ld_sp ho hkb
        have hcell : (H9.set (H.length + 1) (.cells (VS.take k ++ ZS.drop k) 26 none false))[H.length + 1]? = some (.cells (VS.take k ++ ZS.drop k) 26 none false) := List.getElem?_set_self (get_lt hsp9)
        have s1 := st_cell (v := .slice (some ⟨bs'.getD k 0, n, none⟩) n n) hcell (k := k) (by simp; omega) rfl rfl
        rw [List.set_set, ← hVSg k hk, pre_set undef ZS VS k (by omega) (by omega), hVSg k hk] at s1
        simp (disch := omega) only [zA, zB, zC, zD, zF, zG, zH, ↓reduceIte, hk, hkb, l1, hsl, s1]
        exact hJ2 _ _ ⟨rfl, rfl⟩
      · rintro i _ ⟨rfl, rfl⟩ J2
        simp (disch := omega) only [zA, zB, zC, zD, zF, zG, zH, ↓reduceIte]
        rw [← hinv]
        have hfin : VS.take n ++ ZS.drop n = VS := by rw [List.take_of_length_le (by omega), List.drop_of_length_le (by omega), List.append_nil]
        rw [hfin]
        refine ⟨fun x hx => ?_, _, rfl, ?_⟩
        · rw [List.getElem?_set_ne (by omega)]
          exact hp09 x hx
        · have hne : ∀ x ∈ mb :: sb :: bs', (H9.set (H.length + 1) (.cells VS 26 none false))[x]? = H9[x]? := fun x hx => List.getElem?_set_ne fun (e : H.length + 1 = x) => hxb (by rw [e]; exact hx)
          have hmk := hm9.keep hne
          obtain ⟨_, hrw⟩ := hmk.rows
          have hcell : (H9.set (H.length + 1) (.cells VS 26 none false))[H.length + 1]? = some (.cells VS 26 none false) := List.getElem?_set_self (get_lt hsp9)
          have hx := RowX.of_take (k := n) (c := n) hcell (by omega) (Nat.le_refl _)
          rw [List.take_of_length_le (by omega)] at hx
          refine ⟨VS, hx, ⟨by simp; omega, fun k hk => ?_⟩, fun a l c h => by cases h; simp, fun x hx a l c h => ?_⟩
          rotate_left
          · rw [← hVS] at hx
            obtain ⟨bl0, hbl0, rfl⟩ := List.mem_map.1 hx
            cases h
            have := hnew bl0 (hsub' bl0 (by simp [hbl0]))
            have := hp07.len
            show H.length ≤ bl0
            omega
          have hk' : k < n := by simp at hk; omega
          obtain ⟨v2, e2, hv2⟩ := (hrw k (by omega)).from (lo := n) (by rw [List.length_map, row_len hm9.width (by omega)]; omega)
          rw [hsl] at e2
          rw [hVSg k hk', Option.some.inj e2]
          have : (evr cd (M'.map fun x => x.drop A.length)).getD k [] = (evs cd (M'.getD k [])).drop n := by
            simp [List.getD_eq_getElem?_getD, List.getElem?_eq_getElem (show k < M'.length by omega), hn']
          rw [this]
          exact hv2
end
end Go.Sim

namespace Go.Sim
open Go Go.Proofs
theorem app_fresh {H : AH} {b by_ : Nat} {u : Value} {us : List Value} {e : TypeId} (h : H[b]? = some (.cells [] e none false)) (hu : RowX H u us) (h1 : us.all one = true) (h0 : us ≠ []) (hb : us.length * by_ ≤ 140737488355328) (hl : us.length ≤ 9223372036854775807) :
    xact (.app e 1 by_) H [.slice (some ⟨b, 0, none⟩) 0 0, u] = some (.slice (some ⟨H.length, 0, none⟩) us.length us.length, H ++ [.cells us e (some 1) false]) := by
  have he := hu.2
  have hs := hu.1.slen
  have hp := List.length_pos_iff.2 h0
  unfold xact
  simp only [he]
  rw [if_pos ⟨by rw [hs]; simpa [Sim.slen] using hb, by rw [hs]; simpa [Sim.slen] using hl, h1⟩]
  simp only [h, hs]
  rw [if_neg (by omega), if_pos trivial, if_pos (by simp)]
  simp
theorem stB_two {H : AH} {x y c0 c1 : Value} {e : TypeId} {op : Option Nat} {bl : Nat} (h1 : one x = true) (h2 : one y = true) : stB 2 H (some (.cells [c0, c1] e op false)) bl 0 (.agg #[x, y]) = some (undef, H.set bl (.cells [x, y] e op false)) :=
  stB_all (c' := [x, y]) rfl rfl (by simp [h1, h2])
section
variable {α : Type} [Fl α] [DecidableEq α] {cd : α → Nat} {p e b c q : Nat} {blk : AB} {H : AH}
abbrev matv (p e b c n : Nat) (v : Value) : Value := .agg [nv p, nv e, .slice (some ⟨b, 0, none⟩) e c, nv n, v].toArray
abbrev mbx (p e b c n : Nat) (v : Value) : AB := .cells [nv p, nv e, .slice (some ⟨b, 0, none⟩) e c, nv n, v] 63 none false
end
end Go.Sim

namespace Go.Sim
open Go Go.Proofs
def AccLo (H0 H : AH) (v : Value) (css : List (List Value)) (e : TypeId) : Prop := ∃ vs, Acc H0 H v vs e ∧ Rws H vs css ∧ (∀ cs ∈ css, cs.all plain = true) ∧ ∀ x ∈ vs, Lo H0.length x
theorem AccLo.acc {H0 H : AH} {v : Value} {css : List (List Value)} {e : TypeId} (h : AccLo H0 H v css e) : AccR H0 H v css e := let ⟨vs, a, b, c, _⟩ := h; ⟨vs, a, b, c⟩
theorem AccLo.pre {H0 H H' : AH} {v : Value} {css : List (List Value)} {e : TypeId} (h : AccLo H0 H v css e) (hp : Pre H H') : AccLo H0 H' v css e := let ⟨vs, h1, h2, h3, h4⟩ := h; ⟨vs, h1.pre hp, h2.pre hp, h3, h4⟩
theorem AccLo.setLow {H0 H : AH} {v : Value} {css : List (List Value)} {e : TypeId} {x : Nat} {y : AB} (h : AccLo H0 H v css e) (hx : x < H0.length) : AccLo H0 (H.set x y) v css e := by
  obtain ⟨vs, h1, h2, h3, h4⟩ := h
  refine ⟨vs, h1.setLow hx, ⟨h2.1, fun k hk => (h2.2 k hk).setLow (h4 _ ?_) hx⟩, h3, h4⟩
  exact getD_mem (by rw [h2.1]; exact hk)
theorem AccLo.mono {H0 H1 H : AH} {v : Value} {css : List (List Value)} {e : TypeId} (h : AccLo H1 H v css e) (hl : H0.length ≤ H1.length) : AccLo H0 H v css e := let ⟨vs, h1, h2, h3, h4⟩ := h; ⟨vs, h1.mono hl, h2, h3, fun x hx a l c e => Nat.le_trans hl (h4 x hx a l c e)⟩
theorem AccLo.new {H0 H : AH} (hl : H0.length ≤ H.length) {e : TypeId} {Y : AH} : AccLo H0 (H ++ .cells [] e none false :: Y) (.slice (some ⟨H.length, 0, none⟩) 0 0) [] e :=
  ⟨[], (Own.new hl (cs := []) rfl).acc, ⟨rfl, by simp⟩, by simp, by simp⟩
theorem AccLo.app1 {H0 H : AH} (hl0 : H0.length ≤ H.length) {v u : Value} {css : List (List Value)} {us : List Value} {e : TypeId} {by_ : Nat} (h : AccLo H0 H v css e) (hu : Row H u us) (hlo : Lo H0.length u) (hpl : us.all plain = true) (hb : (css.length + 1) * by_ ≤ 140737488355328) (hl : css.length + 1 ≤ 9223372036854775807) {e2 : TypeId} :
    ∃ v' H', xact (.app e 1 by_) (H ++ [.cells [u] e2 none false]) [v, .slice (some ⟨H.length, 0, none⟩) 1 1] = some (v', H') ∧ AccLo H0 H' v' (css ++ [us]) e ∧ (Pre H0 H → Pre H0 H') ∧ H.length ≤ H'.length := by
  obtain ⟨vs, h1, h2, h3, h4⟩ := h
  have hlen := h2.1
  have hplain : ∀ cs ∈ css ++ [us], cs.all plain = true := by
    intro cs hcs
    rcases List.mem_append.1 hcs with hc | hc
    · exact h3 _ hc
    · rw [List.mem_singleton.1 hc]; exact hpl
  have hlow : ∀ x ∈ vs ++ [u], Lo H0.length x := by
    intro x hx
    rcases List.mem_append.1 hx with hc | hc
    · exact h4 _ hc
    · rw [List.mem_singleton.1 hc]; exact hlo
  obtain ⟨v', H', q1, q2, q3, q4⟩ := h1.app1G (by_ := by_) (e2 := e2) hl0 hu.one (by rw [hlen]; exact hb) (by rw [hlen]; exact hl)
  have hr : ∀ r cs, Row H r cs → cs.all plain = true → Row H' r cs := by
    intro r cs hr hc
    rcases h1 with ⟨rfl, rfl⟩ | ⟨b, hb1, rfl, op, h4', h5⟩
    · exact hr.pre fun b' hb' => q3 b' hb' (fun _ _ => by simp)
    · exact hr.keep hc h5 h2.isSl fun b' hb' hne => q3 b' hb' (fun l c => by simp; intro e; exact absurd e.symm hne)
  refine ⟨v', H', q1, ⟨vs ++ [u], q2, Rws.snoc ⟨hlen, fun k hk' => hr _ _ (h2.2 k hk') (h3 _ (getD_mem hk'))⟩ (hr _ _ hu hpl), hplain, hlow⟩, fun hp b hb => ?_, q4⟩
  rw [q3 b (by omega) (fun l c e => ?_)]
  · exact hp b hb
  · rcases h1 with ⟨_, rfl⟩ | ⟨b', hb1, rfl, _⟩
    · cases e
    · cases e; omega
section
variable {α : Type} [Fl α] [DecidableEq α] {cd : α → Nat} {p e b c q : Nat} {blk : AB} {H : AH}
theorem turn_lo {v : Value} {n m : Nat} {rows : List (List α)} (hv : RowR H v (evr cd rows)) (hl : ∀ x ∈ rows, x.length = m) (hR : rows.length ≤ 1000) (hn : n ≤ 1000) (hm : n ≤ m) :
    FN Try.prog 58 [nv n, v] H (fun r H' => Pre H H' ∧ AccLo H H' r (evr cd (lturn n rows)) 26) := by
  refine g58_of ?_
  unfold g58
  obtain ⟨vs, hvs, hvl, hvr⟩ := hv.open
  simp (disch := omega) only [zA, zB, zC, zD, zF, zG, zH, ↓reduceIte]
  refine loopV2.nat n (fun k out i H' => i = nv k ∧ Pre H H' ∧ AccLo H H' out (evr cd ((lturn n rows).take k)) 26) ⟨rfl, Pre.new _ _, AccLo.new (Nat.le_refl _)⟩ ?_ ?_
  · rintro k out i H2 hk ⟨rfl, hp, ho⟩ J hJ
    simp (disch := omega) only [zA, zB, zC, zD, zF, zG, zH, ↓reduceIte, hk]
    refine loopV2.nat rows.length (fun j s i H' => i = nv j ∧ Pre H2 H' ∧ Acc H2 H' s (evs cd ((rows.map fun r => r.getD k Fl.zero).take j)) 3) ⟨rfl, Pre.new _ _, (Own.new (Nat.le_refl _) rfl).acc⟩ ?_ ?_
    · rintro j s i H4 hj ⟨rfl, hp4, hs⟩ J2 hJ2
      have hp04 := hp.trans hp4
      obtain ⟨vl, vi, vd, _⟩ := (hvs.pre hp04).allV
      obtain ⟨rl, ri, rd, _⟩ := ((hvr j hj).pre hp04).all Fl.zero
      have hj' : j < vs.length := by omega
      have hkr : k < (rows.getD j []).length := by rw [row_len hl hj]; omega
      obtain ⟨out', H5, e1, ho', hp', _⟩ := hs.app1 (by_ := 8) hp4.len (u := nv (cd ((rows.getD j []).getD k Fl.zero))) rfl (by simp; omega) (by simp; omega) (e2 := 3)
      simp (disch := (first | omega | (simp only [stLen] <;> omega) | (simp only [all_nv]; done) | rfl)) only [zA, zB, zC, zD, zF, zG, zH, Nat.reduceEqDiff, Nat.reduceLT, Nat.reduceLeDiff, ↓reduceIte, vl, vi, vd, hj', ri, rd, hkr, e1, hj]
      refine hJ2 _ _ _ ⟨rfl, hp' hp4, ?_⟩
      rw [List.take_succ_eq_append_getElem (by simpa using hj)]
      simpa [List.getD_eq_getElem?_getD, List.getElem?_eq_getElem hj] using ho'
    · rintro s i H4 ⟨rfl, hp4, hs⟩ J2
      have hp04 := hp.trans hp4
      obtain ⟨vl, vi, vd, _⟩ := (hvs.pre hp04).allV
      rw [List.take_of_length_le (by simp)] at hs
      have hlt : ((lturn n rows).take k).length ≤ 1000 := by simp; omega
      obtain ⟨out', H5, e1, ho', hp', _⟩ := (ho.pre hp4).app1 (by_ := 24) hp04.len hs.row (fun a l c hv => Nat.le_trans hp.len (hs.lo a l c hv)) (evs_plain _) (by simp; omega) (by simp; omega) (e2 := 26)
      simp (disch := (first | omega | (simp only [stLen] <;> omega) | (simp only [all_nv]; done) | rfl)) only [zA, zB, zC, zD, zF, zG, zH, Nat.reduceEqDiff, Nat.reduceLT, Nat.reduceLeDiff, ↓reduceIte, vl, hvl, hs.row.fill, e1, hk]
      refine hJ _ _ _ ⟨rfl, hp' hp04, ?_⟩
      rw [List.take_succ_eq_append_getElem (by simpa [lturn] using hk)]
      simpa [lturn] using ho'
  · rintro out i H3 ⟨rfl, hp, ho⟩ J
    simp (disch := omega) only [zA, zB, zC, zD, zF, zG, zH, ↓reduceIte]
    rw [List.take_of_length_le (by simp [lturn])] at ho
    exact ⟨hp, ho⟩
end
end Go.Sim

namespace Go.Sim
open Go Go.Proofs
theorem AccLo.app1K {H0 H : AH} (hl0 : H0.length ≤ H.length) {v u : Value} {css : List (List Value)} {us : List Value} {e : TypeId} {by_ : Nat} (h : AccLo H0 H v css e) (hu : Row H u us) (hlo : Lo H0.length u) (hpl : us.all plain = true) (hb : (css.length + 1) * by_ ≤ 140737488355328) (hl : css.length + 1 ≤ 9223372036854775807) {e2 : TypeId} :
    ∃ v' H', xact (.app e 1 by_) (H ++ [.cells [u] e2 none false]) [v, .slice (some ⟨H.length, 0, none⟩) 1 1] = some (v', H') ∧ AccLo H0 H' v' (css ++ [us]) e ∧ (Pre H0 H → Pre H0 H') ∧ H.length ≤ H'.length ∧ ∀ r cs, Row H r cs → cs.all plain = true → Row H' r cs := by
  obtain ⟨vs, h1, h2, h3, h4⟩ := h
  have hlen := h2.1
  have hplain : ∀ cs ∈ css ++ [us], cs.all plain = true := by
    intro cs hcs
    rcases List.mem_append.1 hcs with hc | hc
    · exact h3 _ hc
    · rw [List.mem_singleton.1 hc]; exact hpl
  have hlow : ∀ x ∈ vs ++ [u], Lo H0.length x := by
    intro x hx
    rcases List.mem_append.1 hx with hc | hc
    · exact h4 _ hc
    · rw [List.mem_singleton.1 hc]; exact hlo
  obtain ⟨v', H', q1, q2, q3, q4⟩ := h1.app1G (by_ := by_) (e2 := e2) hl0 hu.one (by rw [hlen]; exact hb) (by rw [hlen]; exact hl)
  have hr : ∀ r cs, Row H r cs → cs.all plain = true → Row H' r cs := by
    intro r cs hr hc
    rcases h1 with ⟨rfl, rfl⟩ | ⟨b, hb1, rfl, op, h4', h5⟩
    · exact hr.pre fun b' hb' => q3 b' hb' (fun _ _ => by simp)
    · exact hr.keep hc h5 h2.isSl fun b' hb' hne => q3 b' hb' (fun l c => by simp; intro e; exact absurd e.symm hne)
  refine ⟨v', H', q1, ⟨vs ++ [u], q2, Rws.snoc ⟨hlen, fun k hk' => hr _ _ (h2.2 k hk') (h3 _ (getD_mem hk'))⟩ (hr _ _ hu hpl), hplain, hlow⟩, fun hp b hb => ?_, q4, hr⟩
  rw [q3 b (by omega) (fun l c e => ?_)]
  · exact hp b hb
  · rcases h1 with ⟨_, rfl⟩ | ⟨b', hb1, rfl, _⟩
    · cases e
    · cases e; omega
section
variable {α : Type} [Fl α] [DecidableEq α] {cd : α → Nat} {p e b c q : Nat} {blk : AB} {H : AH}
abbrev uv (k : Nat) : Value := .int .u16 (k : Int)
theorem list_c (F : FOK α cd p e b c q blk) {v : Value} {n : Nat} {us : List Nat} (hus : ∀ u ∈ us, u < 65536) (hb : H[b]? = some blk) (hv : Row H v (us.map uv)) (hn : n ≤ 1000) :
    FN Try.prog 32 [fldv p e b e c, nv n, v] H (fun r H' => Pre H H' ∧ ∃ xs : List α, xs.length = n ∧ Acc H H' r (evs cd xs) 3) := by
  refine g32_of ?_
  unfold g32
  have hp1 := Pre.new H [fbx p e b c]
  have hq2 := F.q2
  have hq64 := F.q64
  simp (disch := omega) only [zA, zB, zC, zD, zF, zG, zH, ↓reduceIte]
  refine loopV2.nat n (fun k out i H' => i = nv k ∧ Pre (H ++ [fbx p e b c]) H' ∧ ∃ xs : List α, xs.length = k ∧ Acc (H ++ [fbx p e b c]) H' out (evs cd xs) 3) ⟨rfl, Pre.snoc _ _ _, [], rfl, Acc.start1 rfl⟩ ?_ ?_
  · rintro k out i H3 hk ⟨rfl, hp, xs, hxs, ho⟩ J hJ
    have hp03 := hp1.trans hp
    have hbx3 := hp.get (b := H.length) (x := fbx p e b c) (by simp)
    simp (disch := omega) only [zA, zB, zC, zD, zF, zG, zH, ↓reduceIte, hk]
    refine joinV1.mid (fun x H4 => ∃ m, m ≤ 80000 ∧ x = nv m ∧ H4 = H3) ?_ ?_
    · intro J2 hJ2
      have hv3 := hv.pre hp03
      have vl := hv3.len
      rw [List.length_map] at vl
      by_cases h0 : us.length = 0
      · simp (disch := omega) only [zA, zB, zC, zD, zF, zG, zH, ↓reduceIte, vl, h0]
        exact hJ2 _ _ ⟨0, by omega, rfl, rfl⟩
      · have hpos : 0 < us.length := by omega
        obtain ⟨_, vi, vd, _⟩ := hv3.allV
        have hlt : k % us.length < us.length := Nat.mod_lt _ hpos
        have hlt' : k % us.length < (us.map uv).length := by rw [List.length_map]; exact hlt
        have hg : (us.map uv).getD (k % us.length) undef = uv (us.getD (k % us.length) 0) := by
          simp [List.getD_eq_getElem?_getD, List.getElem?_eq_getElem hlt]
        have d1 := vd _ hlt'
        rw [hg] at d1
        have hu := hus _ (getD_mem (d := 0) hlt)
        have hkd : k / us.length ≤ k := Nat.div_le_self _ _
        have hwr : IntKind.i64.wrap ((us.getD (k % us.length) 0 : Nat) : Int) = ((us.getD (k % us.length) 0 : Nat) : Int) := wrap64 (by omega) (by omega)
        simp (disch := omega) only [zA, zB, zC, zD, zF, zG, zH, ↓reduceIte, vl, hpos, vi, d1, hwr]
        refine hJ2 _ _ ⟨us.getD (k % us.length) 0 + 7 * (k / us.length), by omega, by norm_cast, rfl⟩
    · rintro x H4 ⟨m, hm, rfl, rfl⟩
      refine joinV1.mid (fun x H5 => ∃ m, m ≤ 80000 ∧ x = nv m ∧ H5 = H4) ?_ ?_
      · intro J3 hJ3
        by_cases h3 : m % 3 = 0
        · simp (disch := omega) only [zA, zB, zC, zD, zF, zG, zH, ↓reduceIte, h3]
          exact hJ3 _ _ ⟨0, by omega, rfl, rfl⟩
        · simp (disch := omega) only [zA, zB, zC, zD, zF, zG, zH, ↓reduceIte, h3]
          exact hJ3 _ _ ⟨m, hm, rfl, rfl⟩
      · rintro x H5 ⟨m, hm, rfl, rfl⟩
        simp (disch := omega) only [zA, zB, zC, zD, zF, zG, zH, ↓reduceIte, hbx3]
        refine FZ.use (F.rsize _ (hp03.get hb)) ?_
        obtain ⟨y, hy⟩ := F.sur (m / 3 % q) (Nat.mod_lt _ (by omega))
        obtain ⟨out', H8, e1, ho', hp', _⟩ := ho.app1 (by_ := 8) hp.len (u := nv (cd y)) rfl (by simp; omega) (by simp; omega) (e2 := 3)
        rw [hy] at e1
        have hq0 : 0 < q := by omega
        simp (disch := (first | omega | (simp only [stLen] <;> omega) | (simp only [all_nv]; done) | rfl)) only [zA, zB, zC, zD, zF, zG, zH, Nat.reduceEqDiff, Nat.reduceLT, Nat.reduceLeDiff, ↓reduceIte, hq0, e1]
        refine hJ _ _ _ ⟨rfl, hp' hp, xs ++ [y], by simp [hxs], ?_⟩
        simpa [hy] using ho'
  · rintro out i H3 ⟨rfl, hp, xs, hxs, ho⟩ J
    simp (disch := omega) only [zA, zB, zC, zD, zF, zG, zH, ↓reduceIte]
    exact ⟨hp1.trans hp, xs, hxs, ho.mono (by simp)⟩
theorem rem16 {u : Nat} (h : u < 65536) : xbin .rem 0 (uv u) (.int .u16 4) = some (uv (u % 4)) := xbin_remN (b := 4) (by decide)
theorem eql16 {u : Nat} : xbin .eql 0 (uv u) (.int .u16 0) = some (.bool (decide (u = 0))) := xbin_eqlN (b := 0)
theorem rows_c (F : FOK α cd p e b c q blk) {v : Value} {n m : Nat} {us : List Nat} (hus : ∀ u ∈ us, u < 65536) (hb : H[b]? = some blk) (hv : Row H v (us.map uv)) (hn : n ≤ 30) (hm : m ≤ 30) (hn0 : 0 < n) :
    FN Try.prog 31 [fldv p e b e c, nv n, nv m, v] H (fun r H' => Pre H H' ∧ ∃ xss : List (List α), xss.length = m ∧ (∀ x ∈ xss, x.length = n) ∧ AccLo H H' r (evr cd xss) 26) := by
  refine g31_of ?_
  unfold g31
  have hp1 := Pre.new H [fbx p e b c]
  have hnm : n * m ≤ 900 := Nat.mul_le_mul hn hm
  have hp2 := Pre.new H [fbx p e b c, .cells [] 26 none false]
  simp (disch := omega) only [zA, zB, zC, zD, zF, zG, zH, ↓reduceIte]
  refine FZ.mono (list_c F hus (hp2.get hb) (hv.pre hp2) (n := n * m) (by omega)) ?_
  rintro v19 H3 ⟨hp3, xs, hxl, hx⟩
  have hp13 := (Pre.snoc H (fbx p e b c) [.cells [] 26 none false]).trans hp3
  refine loopV2.nat m (fun k out i H' => i = nv k ∧ Pre (H ++ [fbx p e b c]) H' ∧ Row H' v19 (evs cd xs) ∧ ∃ xss : List (List α), xss.length = k ∧ (∀ x ∈ xss, x.length = n) ∧ AccLo (H ++ [fbx p e b c]) H' out (evr cd xss) 26) ⟨rfl, hp13, hx.row, [], rfl, by simp, by have h := (AccLo.new (H0 := H ++ [fbx p e b c]) (H := H ++ [fbx p e b c]) (Nat.le_refl _) (e := 26) (Y := [])).pre (by simpa using hp3); simpa using h⟩ ?_ ?_
  · rintro k out i H4 hk ⟨rfl, hp14, hxr, xss, hxs, hxn, ho⟩ J hJ
    have hp04 := hp1.trans hp14
    have hbx4 := hp14.get (b := H.length) (x := fbx p e b c) (by simp)
    have hkn : k * n + n ≤ n * m := by have := Nat.mul_le_mul_right n (show k + 1 ≤ m by omega); rw [Nat.add_mul, Nat.one_mul] at this; rw [Nat.mul_comm n m]; exact this
    have hk1 : (k + 1) * n = k * n + n := by rw [Nat.add_mul, Nat.one_mul]
    obtain ⟨w, e1, hw⟩ := hxr.part (lo := k * n) (hi := (k + 1) * n) (by omega) (by rw [List.length_map]; omega) (by rw [List.length_map]; omega)
    obtain ⟨ys, hys, hyl⟩ : ∃ ys : List α, evs cd ys = ((evs cd xs).drop (k * n)).take ((k + 1) * n - k * n) ∧ ys.length = n := ⟨(xs.drop (k * n)).take ((k + 1) * n - k * n), by simp [evs, List.map_drop, List.map_take], by rw [List.length_take, List.length_drop, hk1]; omega⟩
    rw [← hys] at hw
    have hX := Pre.new H4 [.cells [] 3 none false]
    have hne : evs cd ys ≠ [] := fun h => by have h2 := congrArg List.length h; rw [List.length_map, hyl] at h2; simp at h2; omega
    have a1 := app_fresh (by_ := 8) (b := H4.length) (e := 3) (H := H4 ++ [.cells [] 3 none false]) (by simp) ((hw.pre hX).x hne) (by simp [one]) hne (by rw [List.length_map]; omega) (by rw [List.length_map]; omega)
    have hXa := (Pre.new (H4 ++ [.cells [] 3 none false]) [.cells (evs cd ys) 3 (some 1) false])
    have h4a : Pre H4 (H4 ++ [.cells [] 3 none false, .cells (evs cd ys) 3 (some 1) false]) := Pre.new _ _
    have hrowA : Row (H4 ++ [.cells [] 3 none false, .cells (evs cd ys) 3 (some 1) false]) (.slice (some ⟨H4.length + 1, 0, none⟩) n n) (evs cd ys) := Row.of (e := 3) (op := some 1) (r := false) (by simp) (by rw [List.length_map, hyl]) (Nat.le_refl _)
    simp only [List.append_assoc, List.cons_append, List.nil_append, List.length_append, List.length_cons, List.length_nil, List.length_map, hyl] at a1
    generalize hA : H4 ++ [.cells [] 3 none false, .cells (evs cd ys) 3 (some 1) false] = HA at *
    have hmul1 : n * (k + 1) = (k + 1) * n := Nat.mul_comm _ _
    have hkn0 : k * n ≤ (k + 1) * n := by omega
    simp (disch := omega) only [zA, zB, zC, zD, zF, zG, zH, ↓reduceIte, hk, e1, a1]
    have hp1A := hp14.trans h4a
    have hp0A := hp1.trans hp1A
    refine joinV1.mid (fun x Hx => Pre HA Hx ∧ Lo (H ++ [fbx p e b c]).length x ∧ ∃ zs : List α, zs.length = n ∧ Row Hx x (evs cd zs)) ?_ ?_
    · intro J2 hJ2
      have stay : J2 (.slice (some ⟨H4.length + 1, 0, none⟩) n n) HA := hJ2 _ _ ⟨Pre.refl _, fun a l c h => by cases h; have := hp14.len; show _ ≤ H4.length + 1; omega, ys, hyl, hrowA⟩
      have hvA := hv.pre hp0A
      have vl := hvA.len
      rw [List.length_map] at vl
      by_cases hk1 : 1 < k
      · by_cases h0 : us.length = 0
        · simp (disch := omega) only [zA, zB, zC, zD, zF, zG, zH, ↓reduceIte, hk1, vl, h0]
          exact stay
        · have hpos : 0 < us.length := by omega
          obtain ⟨_, vi, vd, _⟩ := hvA.allV
          have hlt : k % us.length < us.length := Nat.mod_lt _ hpos
          have hlt' : k % us.length < (us.map uv).length := by rw [List.length_map]; exact hlt
          have hg : (us.map uv).getD (k % us.length) undef = uv (us.getD (k % us.length) 0) := by
            simp [List.getD_eq_getElem?_getD, List.getElem?_eq_getElem hlt]
          have d1 := vd _ hlt'
          rw [hg] at d1
          have hu := hus _ (getD_mem (d := 0) hlt)
          have m1 := rem16 hu
          by_cases hc : us.getD (k % us.length) 0 % 4 = 0
          · have hbxA := hp1A.get (b := H.length) (x := fbx p e b c) (by simp)
            obtain ⟨xl, xi, xd, _⟩ := (hxr.pre h4a).all Fl.zero
            obtain ⟨vs, hvs, hvl, hvr⟩ := (ho.pre h4a).acc.rowR.open
            obtain ⟨ol, oi, od, _⟩ := hvs.allV
            have k1 : k - 1 < vs.length := by omega
            have k2 : k - 2 < vs.length := by omega
            have kx : k < xs.length := by have := Nat.le_mul_of_pos_right k hn0; omega
            have kn : k * n < xs.length := by omega
            have r1 := hvr (k - 1) (by omega)
            have r2 := hvr (k - 2) (by omega)
            have w1 := row_len hxn (show k - 1 < xss.length by omega)
            have w2 := row_len hxn (show k - 2 < xss.length by omega)
            have d2 := od _ k1
            have d3 := od _ k2
            have d4 := xd _ kx
            have d5 := xd _ kn
            have i1 : ¬ k < 1 := by omega
            have i2 : ¬ k < 2 := by omega
            simp (disch := omega) only [zA, zB, zC, zD, zF, zG, zH, ↓reduceIte, hk1, vl, hpos, vi, hlt, d1, m1, eql16, hc, hbxA, xi, oi, d2, d3, d4, d5, k1, k2, kx, kn, i1, i2]
            refine FZ.mono (times_c F (hp0A.get hb) r1 (by omega)) ?_
            rintro t H19 ⟨hp19, ht⟩
            have hp119 := hp1A.trans hp19
            have hbx19 := hp119.get (b := H.length) (x := fbx p e b c) (by simp)
            obtain ⟨_, _, od19, _⟩ := (hvs.pre hp19).allV
            obtain ⟨_, _, xd19, _⟩ := ((hxr.pre h4a).pre hp19).all Fl.zero
            have d6 := od19 _ k2
            have d7 := xd19 _ kn
            simp (disch := omega) only [zA, zB, zC, zD, zF, zG, zH, ↓reduceIte, hbx19, d6, d7]
            refine FZ.mono (more_c F ((hp1.trans hp119).get hb) ht.row (r2.pre hp19) ?_ ?_) ?_
            · rw [lmore_length (by simp), List.length_replicate, w1, w2]; exact Nat.le_refl _
            · rw [lmore_length (by simp), List.length_replicate, w1]; omega
            rintro y H20 ⟨hp20, hy⟩
            refine hJ2 _ _ ⟨hp19.trans hp20, fun a l c h => Nat.le_trans hp119.len (hy.lo a l c h), _, ?_, hy.row⟩
            rw [lmore_length (by rw [lmore_length (by simp), List.length_replicate, w1, w2]; exact Nat.le_refl _), lmore_length (by simp), List.length_replicate, w1]
          · simp (disch := omega) only [zA, zB, zC, zD, zF, zG, zH, ↓reduceIte, hk1, vl, hpos, vi, hlt, d1, m1, eql16, hc]
            exact stay
      · simp (disch := omega) only [zA, zB, zC, zD, zF, zG, zH, ↓reduceIte, hk1]
        exact stay
    · rintro x Hx ⟨hpx, hzlo, zs, hzl, hzr⟩
      have hp4x := h4a.trans hpx
      have hpp := hp14.trans hp4x
      obtain ⟨out', H8, e2, ho', hp', _, hkeep⟩ := (ho.pre hp4x).app1K (by_ := 24) hpp.len hzr hzlo (evs_plain _) (by simp; omega) (by simp; omega) (e2 := 26)
      simp (disch := (first | omega | (simp only [stLen] <;> omega) | (simp only [all_nv]; done) | rfl)) only [zA, zB, zC, zD, zF, zG, zH, Nat.reduceEqDiff, Nat.reduceLT, Nat.reduceLeDiff, ↓reduceIte, hzr.fill, e2]
      refine hJ _ _ _ ⟨rfl, hp' hpp, hkeep _ _ (hxr.pre hp4x) (evs_plain _), xss ++ [zs], by simp [hxs], fun x hx => ?_, by simpa using ho'⟩
      rcases List.mem_append.1 hx with h | h
      · exact hxn x h
      · rw [List.mem_singleton.1 h]; exact hzl
  · rintro out i H4 ⟨rfl, hp14, hxr, xss, hxs, hxn, ho⟩ J
    simp (disch := omega) only [zA, zB, zC, zD, zF, zG, zH, ↓reduceIte]
    exact ⟨hp1.trans hp14, xss, hxs, hxn, ho.mono (by simp)⟩
end
end Go.Sim

namespace Go.Sim
open Go Go.Proofs
theorem same_p {H : AH} {s t : Value} {ea eb : Nat} {xs ys : List Nat} (hs : Row H s (xs.map nv)) (ht : Row H t (ys.map nv)) (hx : xs.length ≤ 100000) :
    FN Try.prog 43 [.agg [s, nv ea].toArray, .agg [t, nv eb].toArray] H (fun r H' => r = .bool (decide (ea = eb) && decide (xs = ys)) ∧ H' = H) := by
  refine FN.pre0 (g43_of ?_) rfl
  unfold g43
  have hp2 := Pre.new H [.cells [s, nv ea] 76 none false, .cells [t, nv eb] 76 none false]
  by_cases he : ea = eb
  · subst he
    simp (disch := omega) only [zA, zB, zC, zD, zF, zG, zH, ↓reduceIte]
    refine FZ.use (same_c (hs.pre hp2) (ht.pre hp2) hx) ?_
    simp (disch := omega) only [zA, zB, zC, zD, zF, zG, zH, ↓reduceIte]
    refine ⟨hp2, ?_⟩
    simp
  · simp (disch := omega) only [zA, zB, zC, zD, zF, zG, zH, ↓reduceIte, he]
    refine ⟨hp2, ?_⟩
    simp [he]
section
variable {α : Type} [Fl α] [DecidableEq α] {cd : α → Nat} {p e b c q : Nat} {blk : AB} {H : AH}
theorem solved_c (F : FOK α cd p e b c q blk) {v w : Value} {n : Nat} {rows : List (List α)} {bs : List α} (hb : H[b]? = some blk) (hv : RowR H v (evr cd rows)) (hw : Row H w (evs cd bs)) (hl : ∀ x ∈ rows, x.length = n) (hbl : rows.length = bs.length) (hR : rows.length ≤ 400) (hn : n ≤ 500) (hn0 : 0 < n) :
    FN Try.prog 44 [matv p e b c n v, w] H (fun r H' => Pre H H' ∧ match lsolve n rows bs with
      | none => r = .agg [.slice none 0 0, nv 4].toArray
      | some x => ∃ s, r = .agg [s, nv 0].toArray ∧ Row H' s (evs cd x) ∧ Lo H.length s) := by
  refine g44_of ?_
  unfold g44
  have hp2 := Pre.new H [mbx p e b c n v, .cells [.slice none 0 0, nv 0] 76 none false]
  simp (disch := omega) only [zA, zB, zC, zD, zF, zG, zH, ↓reduceIte]
  refine FZ.mono (solve_p F (hp2.get hb) (hv.pre hp2) (hw.pre hp2) hl hbl hR hn hn0) ?_
  rintro r H3 ⟨hp3, hr⟩
  have hp03 := hp2.trans hp3
  have h76 := hp3.get (b := H.length + 1) (x := .cells [.slice none 0 0, nv 0] 76 none false) (by simp)
  have key : ∀ (s : Value) (k : Nat), one s = true → Pre H (H3.set (H.length + 1) (.cells [s, nv k] 76 none false)) ∧ stB 2 H3 (some (.cells [.slice none 0 0, nv 0] 76 none false)) (H.length + 1) 0 (.agg #[s, nv k]) = some (undef, H3.set (H.length + 1) (.cells [s, nv k] 76 none false)) ∧ (H3.set (H.length + 1) (.cells [s, nv k] 76 none false))[H.length + 1]? = some (.cells [s, nv k] 76 none false) := by
    intro s k hs
    exact ⟨fun x hx => by rw [List.getElem?_set_ne (by omega)]; exact hp03 x hx, stB_two hs rfl, List.getElem?_set_self (get_lt h76)⟩
  cases hso : lsolve n rows bs with
  | none =>
    rw [hso] at hr
    rw [show r = .tuple [.slice none 0 0, nv 4].toArray from hr]
    obtain ⟨k1, k2, k3⟩ := key (.slice none 0 0) 4 rfl
    simp (disch := (first | omega | (simp only [stLen] <;> omega) | (simp only [all_nv]; done) | rfl)) only [zA, zB, zC, zD, zF, zG, zH, Nat.reduceEqDiff, Nat.reduceLT, Nat.reduceLeDiff, ↓reduceIte, h76, k2, k3]
    exact k1
  | some x =>
    rw [hso] at hr
    obtain ⟨s, rfl, hrow, hlo⟩ := hr
    obtain ⟨k1, k2, k3⟩ := key s 0 hrow.one
    simp (disch := (first | omega | (simp only [stLen] <;> omega) | (simp only [all_nv]; done) | rfl)) only [zA, zB, zC, zD, zF, zG, zH, Nat.reduceEqDiff, Nat.reduceLT, Nat.reduceLeDiff, ↓reduceIte, hrow.fill, h76, k2, k3]
    exact ⟨k1, s, rfl, hrow.setLow hlo (by simp), fun a l c h => by have := hlo a l c h; simp at this; omega⟩
theorem inverted_c (F : FOK α cd p e b c q blk) {v : Value} {n : Nat} {A : List (List α)} (hb : H[b]? = some blk) (hv : RowR H v (evr cd A)) (hA : ∀ x ∈ A, x.length = A.length) (hn' : A.length = n) (hn : n ≤ 400) (hn0 : 0 < n) :
    FN Try.prog 53 [fldv p e b e c, v] H (fun r H' => Pre H H' ∧ match linv A with
      | none => r = .agg [.slice none 0 0, nv 4].toArray
      | some x => ∃ s, r = .agg [s, nv 0].toArray ∧ RowR H' s (evr cd x)) := by
  refine g53_of ?_
  unfold g53
  have hp2 := Pre.new H [fbx p e b c, .cells [.slice none 0 0, nv 0] 83 none false]
  simp (disch := omega) only [zA, zB, zC, zD, zF, zG, zH, ↓reduceIte]
  refine FZ.mono (inverse_p F (hp2.get hb) (hv.pre hp2) hA hn' hn hn0) ?_
  rintro r H3 ⟨hp3, hr⟩
  have hp03 := hp2.trans hp3
  have h76 := hp3.get (b := H.length + 1) (x := .cells [.slice none 0 0, nv 0] 83 none false) (by simp)
  have key : ∀ (s : Value) (k : Nat), one s = true → Pre H (H3.set (H.length + 1) (.cells [s, nv k] 83 none false)) ∧ stB 2 H3 (some (.cells [.slice none 0 0, nv 0] 83 none false)) (H.length + 1) 0 (.agg #[s, nv k]) = some (undef, H3.set (H.length + 1) (.cells [s, nv k] 83 none false)) ∧ (H3.set (H.length + 1) (.cells [s, nv k] 83 none false))[H.length + 1]? = some (.cells [s, nv k] 83 none false) := by
    intro s k hs
    exact ⟨fun x hx => by rw [List.getElem?_set_ne (by omega)]; exact hp03 x hx, stB_two hs rfl, List.getElem?_set_self (get_lt h76)⟩
  cases hso : linv A with
  | none =>
    rw [hso] at hr
    rw [show r = .tuple [.slice none 0 0, nv 4].toArray from hr]
    obtain ⟨k1, k2, k3⟩ := key (.slice none 0 0) 4 rfl
    simp (disch := (first | omega | (simp only [stLen] <;> omega) | (simp only [all_nv]; done) | rfl)) only [zA, zB, zC, zD, zF, zG, zH, Nat.reduceEqDiff, Nat.reduceLT, Nat.reduceLeDiff, ↓reduceIte, h76, k2, k3]
    exact k1
  | some x =>
    rw [hso] at hr
    obtain ⟨s, rfl, hrow⟩ := hr
    obtain ⟨vs, hvs, _⟩ := hrow.rowR
    obtain ⟨k1, k2, k3⟩ := key s 0 hvs.1.one
    simp (disch := (first | omega | (simp only [stLen] <;> omega) | (simp only [all_nv]; done) | rfl)) only [zA, zB, zC, zD, zF, zG, zH, Nat.reduceEqDiff, Nat.reduceLT, Nat.reduceLeDiff, ↓reduceIte, hvs.1.fill, h76, k2, k3]
    exact ⟨k1, s, rfl, (hrow.setLow (by simp)).rowR⟩
theorem square_c (F : FOK α cd p e b c q blk) {v : Value} {n : Nat} {us : List Nat} (hus : ∀ u ∈ us, u < 65536) (hb : H[b]? = some blk) (hv : Row H v (us.map uv)) (hn : n ≤ 30) (hn0 : 0 < n) :
    FN Try.prog 52 [fldv p e b e c, nv n, v] H (fun r H' => Pre H H' ∧ ∃ xss : List (List α), xss.length = n ∧ (∀ x ∈ xss, x.length = n) ∧ RowR H' r (evr cd xss)) := by
  refine g52_of ?_
  unfold g52
  have hp1 := Pre.new H [fbx p e b c]
  simp (disch := omega) only [zA, zB, zC, zD, zF, zG, zH, ↓reduceIte]
  refine FZ.mono (rows_c F hus (hp1.get hb) (hv.pre hp1) hn hn hn0) ?_
  rintro r H2 ⟨hp2, xss, h1, h2, h3⟩
  exact ⟨hp1.trans hp2, xss, h1, h2, h3.acc.rowR⟩
end
end Go.Sim

namespace Go.Sim
open Go Go.Proofs
section
variable {α : Type} [Fl α] [DecidableEq α] {cd : α → Nat} {p e b c q : Nat} {blk : AB} {H : AH}
theorem reduced_c (F : FOK α cd p e b c q blk) {v : Value} {n : Nat} {L : List (List α)} (hv : RowR H v (evr cd L)) (hL : LRed n L) (hn : n ≤ 1000) (hLn : L.length ≤ 1000) :
    FN Try.prog 56 [nv n, v] H (fun r H' => r = .bool true ∧ H' = H) := by
  refine g56_of ?_
  unfold g56
  obtain ⟨vs, hvs, hvl, hvr⟩ := hv.open
  obtain ⟨vl, vi, vd, _⟩ := hvs.allV
  refine loopV2.nat L.length (fun k last i H' => i = nv k ∧ H' = H ∧ ∃ z : Int, last = .int .i64 z ∧ ∀ j, k ≤ j → j < L.length → z < lpiv (L.getD j [])) ⟨rfl, rfl, -1, rfl, fun j _ _ => by omega⟩ ?_ ?_
  · rintro k last i H hk ⟨rfl, rfl, z, rfl, hz⟩ J hJ
    have hk' : k < vs.length := by omega
    have rk := hvr k hk
    obtain ⟨h1, h2, h3⟩ := hL.row _ (getD_mem (d := []) hk)
    obtain ⟨ul, ui, ud, _⟩ := rk.all Fl.zero
    rw [h1] at ul
    have e1 : xbin .leq 0 (nv (lpiv (L.getD k []))) (.int .i64 z) = some (.bool false) := by
      rw [xbin_leq, decide_eq_false]; have := hz k (Nat.le_refl _) hk; omega
    have d1 := vd k hk'
    have hpl : lpiv (L.getD k []) < (L.getD k []).length := by omega
    have u1 := ud _ hpl
    rw [h3, F.one] at u1
    simp (disch := omega) only [zA, zB, zC, zD, zF, zG, zH, ↓reduceIte, vl, vi, hk', d1, ul]
    refine FZ.use (pivot_c F rk (by omega)) ?_
    have hge : ¬ n ≤ lpiv (L.getD k []) := by omega
    simp (disch := omega) only [zA, zB, zC, zD, zF, zG, zH, ↓reduceIte, e1, h2, hge, vi, hk', d1, ui, hpl, u1]
    refine loopV1.nat L.length (fun m i H' => i = nv m ∧ H' = H) ⟨rfl, rfl⟩ ?_ ?_
    · rintro m i H hm ⟨rfl, rfl⟩ J2 hJ2
      have hm' : m < vs.length := by omega
      have rm := hvr m hm
      obtain ⟨g1, g2, g3⟩ := hL.row _ (getD_mem (d := []) hm)
      obtain ⟨wl, wi, wd, _⟩ := rm.all Fl.zero
      rw [g1] at wl
      have d2 := vd m hm'
      have hpm : lpiv (L.getD k []) < (L.getD m []).length := by omega
      have w1 := wd _ hpm
      by_cases hmk : m = k
      · subst hmk
        simp (disch := omega) only [zA, zB, zC, zD, zF, zG, zH, ↓reduceIte, vl, vi, hm', d2, wl]
        exact hJ2 _ _ ⟨rfl, rfl⟩
      · have h0 : (L.getD m []).getD (lpiv (L.getD k [])) Fl.zero = Fl.zero := hL.red.alone k m hk hm (Ne.symm hmk)
        rw [h0, F.zero] at w1
        simp (disch := omega) only [zA, zB, zC, zD, zF, zG, zH, ↓reduceIte, vl, vi, hm', d2, wl, hmk, wi, hpm, w1]
        exact hJ2 _ _ ⟨rfl, rfl⟩
    · rintro i H ⟨rfl, rfl⟩ J2
      simp (disch := omega) only [zA, zB, zC, zD, zF, zG, zH, ↓reduceIte, vl, hvl, hk]
      refine hJ _ _ _ ⟨rfl, rfl, _, rfl, fun j h1 h2 => ?_⟩
      have := hL.red.inc k j (by omega) h2
      omega
  · rintro last i H ⟨rfl, rfl, z, rfl, hz⟩ J
    simp (disch := omega) only [zA, zB, zC, zD, zF, zG, zH, ↓reduceIte, vl, hvl]
theorem comb_cong {c d : Nat → α} (R : Nat → Vc α) : ∀ m, (∀ i, i < m → c i = d i) → comb c R m = comb d R m
  | 0, _ => rfl
  | k + 1, h => by rw [comb, comb, comb_cong R k (fun i hi => h i (by omega)), h k (by omega)]
def lsum (n : Nat) (L : List (List α)) (xs : List α) : List α := lcomb n L (L.map fun l => xs.getD (lpiv l) Fl.zero)
theorem sum_c (F : FOK α cd p e b c q blk) {v w : Value} {n : Nat} {L : List (List α)} {xs : List α} (hb : H[b]? = some blk) (hv : RowR H v (evr cd L)) (hw : Row H w (evs cd xs)) (hl : ∀ x ∈ L, x.length = n ∧ lpiv x < n) (hx : xs.length = n) (hn : n ≤ 1000) (hLn : L.length ≤ 1000) :
    FN Try.prog 57 [fldv p e b e c, nv n, v, w] H (fun r H' => Pre H H' ∧ Row H' r (evs cd (lsum n L xs))) := by
  refine g57_of ?_
  unfold g57
  have hp1 := Pre.new H [fbx p e b c]
  obtain ⟨vs, hvs, hvl, hvr⟩ := hv.open
  simp (disch := omega) only [zA, zB, zC, zD, zF, zG, zH, ↓reduceIte]
  refine loopV2.nat L.length (fun k out i H' => i = nv k ∧ Pre (H ++ [fbx p e b c]) H' ∧ Acc (H ++ [fbx p e b c]) H' out (evs cd ((L.map fun l => xs.getD (lpiv l) Fl.zero).take k)) 3) ⟨rfl, Pre.snoc _ _ _, Acc.start1 rfl⟩ ?_ ?_
  · rintro k out i H3 hk ⟨rfl, hp, ho⟩ J hJ
    have hp03 := hp1.trans hp
    obtain ⟨vl, vi, vd, _⟩ := (hvs.pre hp03).allV
    obtain ⟨wl, wi, wd, _⟩ := (hw.pre hp03).all Fl.zero
    have hk' : k < vs.length := by omega
    have rk := (hvr k hk).pre hp03
    obtain ⟨h1, h2⟩ := hl _ (getD_mem (d := []) hk)
    have d1 := vd k hk'
    have hpl : lpiv (L.getD k []) < xs.length := by omega
    simp (disch := omega) only [zA, zB, zC, zD, zF, zG, zH, ↓reduceIte, vl, hvl, hk, vi, hk', d1]
    refine FZ.use (pivot_c F rk (by omega)) ?_
    obtain ⟨out', H6, e1, ho', hp', _⟩ := ho.app1 (by_ := 8) hp.len (u := nv (cd (xs.getD (lpiv (L.getD k [])) Fl.zero))) rfl (by simp; omega) (by simp; omega) (e2 := 3)
    simp (disch := (first | omega | (simp only [stLen] <;> omega) | (simp only [all_nv]; done) | rfl)) only [zA, zB, zC, zD, zF, zG, zH, Nat.reduceEqDiff, Nat.reduceLT, Nat.reduceLeDiff, ↓reduceIte, wi, wd, hpl, e1]
    refine hJ _ _ _ ⟨rfl, hp' hp, ?_⟩
    rw [List.take_succ_eq_append_getElem (by simpa using hk)]
    simpa [List.getD_eq_getElem?_getD, List.getElem?_eq_getElem hk] using ho'
  · rintro out i H3 ⟨rfl, hp, ho⟩ J
    have hp03 := hp1.trans hp
    have hbx3 := hp.get (b := H.length) (x := fbx p e b c) (by simp)
    obtain ⟨vl, _, _, _⟩ := (hvs.pre hp03).allV
    rw [List.take_of_length_le (by simp)] at ho
    simp (disch := omega) only [zA, zB, zC, zD, zF, zG, zH, ↓reduceIte, vl, hvl, hbx3]
    refine FZ.mono (combine_c F (n := n) (hp03.get hb) (hv.pre hp03) ho.row (fun x hx => (hl x hx).1) (by omega) ?_ ?_) ?_
    · exact hn
    · simp
    rintro r H7 ⟨hp7, hr⟩
    exact ⟨hp03.trans hp7, hr.row⟩
theorem lsum_eq {n : Nat} {L : List (List α)} {xs : List α} (hL : LRed n L) (hx : xs.length = n) (hs : LSpan L (toV xs)) : lsum n L xs = xs := by
  have hl := hL.piv.1
  refine toV_inj (by rw [lsum, lcomb, lcombk_length hl _ (Nat.le_refl _), hx]) ?_
  rw [lsum, lcomb, toV_lcombk hl _ (Nat.le_refl _)]
  refine Eq.trans (comb_cong _ _ fun i hi => ?_) (hL.red.coord hs).symm
  simp [toV, List.getD_eq_getElem?_getD, List.getElem?_eq_getElem hi]
end
end Go.Sim

namespace Go.Sim
open Go Go.Proofs
theorem stB_three {H : AH} {x y z c0 c1 c2 : Value} {e : TypeId} {op : Option Nat} {bl : Nat} (h1 : one x = true) (h2 : one y = true) (h3 : one z = true) : stB 3 H (some (.cells [c0, c1, c2] e op false)) bl 0 (.agg #[x, y, z]) = some (undef, H.set bl (.cells [x, y, z] e op false)) :=
  stB_all (c' := [x, y, z]) rfl rfl (by simp [h1, h2, h3])
theorem stB_five {H : AH} {x y z u v c0 c1 c2 c3 c4 : Value} {e : TypeId} {op : Option Nat} {bl : Nat} (h1 : one x = true) (h2 : one y = true) (h3 : one z = true) (h4 : one u = true) (h5 : one v = true) : stB 5 H (some (.cells [c0, c1, c2, c3, c4] e op false)) bl 0 (.agg #[x, y, z, u, v]) = some (undef, H.set bl (.cells [x, y, z, u, v] e op false)) :=
  stB_all (c' := [x, y, z, u, v]) rfl rfl (by simp [h1, h2, h3, h4, h5])
def FldP (H : AH) (f : (α : Type) → [Fl α] → [DecidableEq α] → (cd : α → Nat) → (p e b c q : Nat) → AB → Prop) : Prop :=
  ∃ (α : Type) (i1 : Fl α) (i2 : DecidableEq α) (cd : α → Nat) (p e b c q : Nat) (blk : AB), H[b]? = some blk ∧ FOK α cd p e b c q blk ∧ q ≤ 16 ∧ f α cd p e b c q blk
def FldOK : Prop := ∀ (H : AH) (k : Nat), k < 256 → FN Try.prog 67 [.int .u8 (k : Int)] H (fun r H' => Pre H H' ∧ FldP H' fun α _ _ cd p e b c q blk => r = fldv p e b e c ∧ H.length ≤ b)
def ExOK : Prop := ∀ H : AH, FN Try.prog 29 [] H (fun r H' => r = .bool true ∧ H' = H)
theorem made_c (hF : FldOK) {H : AH} {y : Value} {us : List Nat} {k n m : Nat} (hk : k < 256) (hn : n < 256) (hm : m < 256) (hus : ∀ u ∈ us, u < 65536) (hy : Row H y (us.map uv)) :
    FN Try.prog 30 [.agg [.int .u8 (k : Int), .int .u8 (n : Int), .int .u8 (m : Int), y].toArray] H (fun r H' => Pre H H' ∧ FldP H' fun α _ _ cd p e b c q blk => ∃ (v : Value) (n' : Nat) (xss : List (List α)), r = matv p e b c n' v ∧ 0 < n' ∧ n' ≤ 8 ∧ xss.length ≤ 6 ∧ (∀ x ∈ xss, x.length = n') ∧ RowR H' v (evr cd xss)) := by
  refine g30_of ?_
  unfold g30
  have hp2 := Pre.new H [.cells [.int .u8 (k : Int), .int .u8 (n : Int), .int .u8 (m : Int), y] 58 none false, .cells [nv 0, nv 0, .slice none 0 0, nv 0, .slice none 0 0] 63 none false]
  have w1 : IntKind.i64.wrap (n : Int) = (n : Int) := wrap64 (by omega) (by omega)
  have w2 : IntKind.i64.wrap (m : Int) = (m : Int) := wrap64 (by omega) (by omega)
  simp (disch := omega) only [zA, zB, zC, zD, zF, zG, zH, ↓reduceIte]
  refine FZ.mono (hF _ _ hk) ?_
  rintro r H3 ⟨hp3, α, i1, i2, cd, p, e, b, c, q, blk, hb, F, hq, rfl, hbl⟩
  have hp03 := hp2.trans hp3
  have hraw3 := hp3.get (b := H.length) (x := .cells [.int .u8 (k : Int), .int .u8 (n : Int), .int .u8 (m : Int), y] 58 none false) (by simp)
  have h63 := hp3.get (b := H.length + 1) (x := .cells [nv 0, nv 0, .slice none 0 0, nv 0, .slice none 0 0] 63 none false) (by simp)
  have s1 := stB_three (H := H3 ++ [.cells [nv 0, nv 0, .slice none 0 0] 61 none false]) (bl := H3.length) (x := nv p) (y := nv e) (z := .slice (some ⟨b, 0, none⟩) e c) (c0 := nv 0) (c1 := nv 0) (c2 := .slice none 0 0) (e := 61) (op := none) rfl rfl rfl
  rw [set_last] at s1
  have hX := Pre.new H3 [fbx p e b c]
  have hp05 := hp03.trans hX
  have hraw5 := hX.get hraw3
  have h63' := hX.get h63
  have hn8 : n % 8 < 8 := Nat.mod_lt _ (by omega)
  have hm7 : m % 7 < 7 := Nat.mod_lt _ (by omega)
  simp (disch := omega) only [zA, zB, zC, zD, zF, zG, zH, ↓reduceIte, s1, hraw5, w1, w2]
  refine FZ.mono (rows_c F hus (hX.get hb) (hy.pre hp05) (n := 1 + n % 8) (m := m % 7) (by omega) (by omega) (by omega)) ?_
  rintro v H6 ⟨hp6, xss, hx1, hx2, hx3⟩
  have hp36 := hX.trans hp6
  have hp06 := hp03.trans hp36
  have hbx6 := hp6.get (b := H3.length) (x := fbx p e b c) (by simp)
  have h636 := hp36.get h63
  obtain ⟨vs, hvs, hvr⟩ := hx3.acc.rowR
  have e0 : xfill [nv 0, nv 0, .slice none 0 0, nv 0, .slice none 0 0] [(0, 3), (3, 1), (4, 1)] [fldv p e b e c, nv (1 + n % 8), v] = some [nv p, nv e, .slice (some ⟨b, 0, none⟩) e c, nv (1 + n % 8), v] := by
    have h := hvs.1.isSl
    cases v <;> simp [isSl] at h
    rfl
  have s2 := stB_five (H := H6) (bl := H.length + 1) (x := nv p) (y := nv e) (z := .slice (some ⟨b, 0, none⟩) e c) (u := nv (1 + n % 8)) (v := v) (c0 := nv 0) (c1 := nv 0) (c2 := .slice none 0 0) (c3 := nv 0) (c4 := .slice none 0 0) (e := 63) (op := none) rfl rfl rfl rfl hvs.1.one
  have g2 : (H6.set (H.length + 1) (.cells [nv p, nv e, .slice (some ⟨b, 0, none⟩) e c, nv (1 + n % 8), v] 63 none false))[H.length + 1]? = some (.cells [nv p, nv e, .slice (some ⟨b, 0, none⟩) e c, nv (1 + n % 8), v] 63 none false) := List.getElem?_set_self (get_lt h636)
  have hle3 : H.length + 2 ≤ H3.length := by have := hp3.len; simp at this; omega
  simp (disch := omega) only [zA, zB, zC, zD, zF, zG, zH, ↓reduceIte, hbx6, e0, h636, s2, g2]
  refine ⟨fun x hx => ?_, α, i1, i2, cd, p, e, b, c, q, blk, ?_, F, hq, v, 1 + n % 8, xss, rfl, by omega, by omega, by omega, hx2, ?_⟩
  · rw [List.getElem?_set_ne (by omega)]
    exact hp06 x hx
  · rw [List.getElem?_set_ne (by simp at hbl; omega)]
    exact hp36.get hb
  · exact (hx3.setLow (by simp; omega)).acc.rowR
end Go.Sim

namespace Go.Sim
open Go Go.Proofs
abbrev iv (z : Int) : Value := .int .i64 z
def inR (q : Nat) (z : Int) : Bool := decide (0 ≤ z) && decide (z < q)
def vecB (n q : Nat) (zs : List Int) : Bool := decide (zs.length = n) && zs.all (inR q)
def valB (n q : Nat) (vb : Bool) (rows : List (List Int)) : Bool := decide (1 ≤ n) && decide (n ≤ 24) && decide (rows.length ≤ 64) && vb && rows.all (vecB n q)
theorem all_false {β : Type} {f : β → Bool} {l : List β} {k : Nat} {d : β} (hk : k < l.length) (h : f (l.getD k d) = false) : l.all f = false := by
  rw [List.all_eq_false]
  exact ⟨l.getD k d, getD_mem hk, by rw [h]; simp⟩
theorem all_take {β : Type} {f : β → Bool} {l : List β} (h : ∀ k, k < l.length → ∀ d, f (l.getD k d) = true) : l.all f = true := by
  rw [List.all_eq_true]
  intro x hx
  obtain ⟨k, hk, rfl⟩ := List.mem_iff_getElem.1 hx
  have := h k hk l[k]
  simpa [List.getD_eq_getElem?_getD, List.getElem?_eq_getElem hk] using this
theorem RowR.openI {H : AH} {v : Value} {rows : List (List Int)} (h : RowR H v (rows.map fun l => l.map iv)) : ∃ vs, Row H v vs ∧ vs.length = rows.length ∧ ∀ k, k < rows.length → Row H (vs.getD k undef) ((rows.getD k []).map iv) := by
  obtain ⟨vs, h1, h2⟩ := h
  refine ⟨vs, h1.1, by simpa using h2.1, fun k hk => ?_⟩
  have := h2.2 k (by simpa using hk)
  have e : (rows.map fun l => l.map iv).getD k [] = (rows.getD k []).map iv := by simp [List.getD_eq_getElem?_getD, List.getElem?_eq_getElem hk]
  rwa [e] at this
section
variable {p e b l c q : Nat} {blk : AB} {H : AH}
abbrev gv (p e b l c : Nat) : Value := .agg [nv p, nv e, .slice (some ⟨b, 0, none⟩) l c].toArray
abbrev gbx (p e b l c : Nat) : AB := .cells [nv p, nv e, .slice (some ⟨b, 0, none⟩) l c] 61 none false
theorem vector_r {v : Value} {n : Nat} {zs : List Int} (hb : H[b]? = some blk) (hS : ∀ H' : AH, H'[b]? = some blk → FN Try.prog 62 [gv p e b l c] H' (fun r H'' => r = nv q ∧ H'' = H')) (hv : Row H v (zs.map iv)) (hz : zs.length ≤ 1000) :
    FN Try.prog 59 [gv p e b l c, nv n, v] H (fun r H' => r = .bool (vecB n q zs) ∧ H' = H) := by
  refine FN.pre0 (g59_of ?_) rfl
  unfold g59
  have hp1 := Pre.new H [gbx p e b l c]
  have vl := hv.len
  rw [List.length_map] at vl
  by_cases hn : zs.length = n
  · subst hn
    simp (disch := omega) only [zA, zB, zC, zD, zF, zG, zH, ↓reduceIte, vl]
    refine loopV1.nat zs.length (fun k i H' => i = nv k ∧ H' = H ++ [gbx p e b l c] ∧ ∀ j, j < k → inR q (zs.getD j 0) = true) ⟨rfl, rfl, fun j h => absurd h (Nat.not_lt_zero _)⟩ ?_ ?_
    · rintro k i _ hk ⟨rfl, rfl, hin⟩ J hJ
      obtain ⟨_, vi, vd, _⟩ := (hv.pre hp1).allV
      have hk' : k < (zs.map iv).length := by rw [List.length_map]; exact hk
      have d1 := vd k hk'
      have hg : (zs.map iv).getD k undef = iv (zs.getD k 0) := by simp [List.getD_eq_getElem?_getD, List.getElem?_eq_getElem hk]
      rw [hg] at d1
      have vi1 := vi k hk'
      by_cases h0 : zs.getD k 0 < 0
      · have e1 : xbin .lss 0 (iv (zs.getD k 0)) (nv 0) = some (.bool true) := by rw [xbin_lss, decide_eq_true]; simpa using h0
        simp (disch := omega) only [zA, zB, zC, zD, zF, zG, zH, ↓reduceIte, hk, vi1, d1, e1]
        refine ⟨hp1, ?_⟩
        have : zs.all (inR q) = false := all_false hk (d := 0) (by unfold inR; rw [decide_eq_false (show ¬ 0 ≤ zs.getD k 0 by omega)]; rfl)
        simp [vecB, this]
      · have e1 : xbin .lss 0 (iv (zs.getD k 0)) (nv 0) = some (.bool false) := by rw [xbin_lss, decide_eq_false]; simpa using h0
        simp (disch := omega) only [zA, zB, zC, zD, zF, zG, zH, ↓reduceIte, hk, vi1, d1, e1]
        refine FZ.use (hS _ (hp1.get hb)) ?_
        by_cases h1 : zs.getD k 0 < q
        · have e2 : xbin .geq 0 (iv (zs.getD k 0)) (nv q) = some (.bool false) := by rw [xbin_geq, decide_eq_false]; omega
          simp (disch := omega) only [zA, zB, zC, zD, zF, zG, zH, ↓reduceIte, d1, e2]
          refine hJ _ _ ⟨rfl, rfl, fun j hj => ?_⟩
          by_cases hjk : j = k
          · subst hjk; unfold inR; rw [decide_eq_true (show 0 ≤ zs.getD j 0 by omega), decide_eq_true h1]; rfl
          · exact hin j (by omega)
        · have e2 : xbin .geq 0 (iv (zs.getD k 0)) (nv q) = some (.bool true) := by rw [xbin_geq, decide_eq_true]; omega
          simp (disch := omega) only [zA, zB, zC, zD, zF, zG, zH, ↓reduceIte, d1, e2]
          refine ⟨hp1, ?_⟩
          have : zs.all (inR q) = false := all_false hk (d := 0) (by unfold inR; rw [decide_eq_false h1, Bool.and_false])
          simp [vecB, this]
    · rintro i _ ⟨rfl, rfl, hin⟩ J
      simp (disch := omega) only [zA, zB, zC, zD, zF, zG, zH, ↓reduceIte]
      refine ⟨hp1, ?_⟩
      have : zs.all (inR q) = true := all_take fun k hk d => by have := hin k hk; simpa [List.getD_eq_getElem?_getD, List.getElem?_eq_getElem hk] using this
      simp [vecB, this]
  · simp (disch := omega) only [zA, zB, zC, zD, zF, zG, zH, ↓reduceIte, vl, hn]
    refine ⟨hp1, ?_⟩
    simp [vecB, hn]
end
end Go.Sim

namespace Go.Sim
open Go Go.Proofs
section
variable {p e b l c q : Nat} {blk : AB} {H : AH}
theorem out_c {z : Int} {bq : Nat} (hq : H[bq]? = some (.cells [nv q] 3 none false)) : FN Try.prog 90 [iv z, .pointer (some ⟨bq, 0, none⟩)] H (fun r H' => r = .bool (!inR q z) ∧ H' = H) := by
  refine g90_of ?_
  unfold g90
  by_cases h0 : z < 0
  · have e1 : xbin .lss 0 (iv z) (nv 0) = some (.bool true) := by rw [xbin_lss, decide_eq_true]; simpa using h0
    simp (disch := omega) only [zA, zB, zC, zD, zF, zG, zH, ↓reduceIte, e1]
    unfold inR; rw [decide_eq_false (show ¬ 0 ≤ z by omega)]; rfl
  · have e1 : xbin .lss 0 (iv z) (nv 0) = some (.bool false) := by rw [xbin_lss, decide_eq_false]; simpa using h0
    by_cases h1 : z < q
    · have e2 : xbin .geq 0 (iv z) (nv q) = some (.bool false) := by rw [xbin_geq, decide_eq_false]; omega
      simp (disch := omega) only [zA, zB, zC, zD, zF, zG, zH, ↓reduceIte, e1, hq, e2]
      unfold inR; rw [decide_eq_true (show 0 ≤ z by omega), decide_eq_true h1]; rfl
    · have e2 : xbin .geq 0 (iv z) (nv q) = some (.bool true) := by rw [xbin_geq, decide_eq_true]; omega
      simp (disch := omega) only [zA, zB, zC, zD, zF, zG, zH, ↓reduceIte, e1, hq, e2]
      unfold inR; rw [decide_eq_false h1, Bool.and_false]; rfl
theorem valid_r {v : Value} {n : Nat} {vb : Bool} {rows : List (List Int)} (hb : H[b]? = some blk) (hV : ∀ H' : AH, H'[b]? = some blk → FN Try.prog 105 [gv p e b l c] H' (fun r H'' => r = .bool vb ∧ H'' = H')) (hS : vb = true → ∀ H' : AH, H'[b]? = some blk → FN Try.prog 62 [gv p e b l c] H' (fun r H'' => r = nv q ∧ H'' = H')) (hv : RowR H v (rows.map fun l => l.map iv)) (hz : ∀ x ∈ rows, x.length ≤ 1000) (hn : n ≤ 1000) (hR : rows.length ≤ 1000) :
    FN Try.prog 55 [gv p e b l c, nv n, v] H (fun r H' => r = .bool (valB n q vb rows) ∧ H' = H) := by
  refine FN.pre0 (g55_of ?_) rfl
  unfold g55
  have hp1 := Pre.new H [gbx p e b l c]
  have hbx : (H ++ [gbx p e b l c])[H.length]? = some (gbx p e b l c) := by simp
  obtain ⟨vs, hvs, hvl, hvr⟩ := (hv.pre hp1).openI
  obtain ⟨vl, vi, vd, _⟩ := hvs.allV
  by_cases h1 : n < 1
  · simp (disch := omega) only [zA, zB, zC, zD, zF, zG, zH, ↓reduceIte, h1]
    refine ⟨hp1, ?_⟩
    simp [valB, show ¬ 1 ≤ n by omega]
  by_cases h2 : 24 < n
  · simp (disch := omega) only [zA, zB, zC, zD, zF, zG, zH, ↓reduceIte, h1, h2]
    refine ⟨hp1, ?_⟩
    simp [valB, show ¬ n ≤ 24 by omega]
  by_cases h3 : 64 < rows.length
  · simp (disch := omega) only [zA, zB, zC, zD, zF, zG, zH, ↓reduceIte, h1, h2, vl, hvl, h3]
    refine ⟨hp1, ?_⟩
    simp [valB, show ¬ rows.length ≤ 64 by omega]
  simp (disch := omega) only [zA, zB, zC, zD, zF, zG, zH, ↓reduceIte, h1, h2, vl, hvl, h3]
  refine FZ.use (hV _ (hp1.get hb)) ?_
  cases vb with
  | false =>
    simp (disch := omega) only [zA, zB, zC, zD, zF, zG, zH, ↓reduceIte]
    refine ⟨hp1, ?_⟩
    simp [valB]
  | true =>
    simp (disch := omega) only [zA, zB, zC, zD, zF, zG, zH, ↓reduceIte]
    refine loopV1.nat rows.length (fun k i H' => i = nv k ∧ H' = H ++ [gbx p e b l c] ∧ ∀ j, j < k → vecB n q (rows.getD j []) = true) ⟨rfl, rfl, fun j h => absurd h (Nat.not_lt_zero _)⟩ ?_ ?_
    · rintro k i _ hk ⟨rfl, rfl, hin⟩ J hJ
      have hk' : k < vs.length := by omega
      have d1 := vd k hk'
      simp (disch := omega) only [zA, zB, zC, zD, zF, zG, zH, ↓reduceIte, vl, hvl, hk, vi, d1, hk']
      refine FZ.use (vector_r (hp1.get hb) (hS rfl) (hvr k hk) (hz _ (getD_mem hk))) ?_
      cases hr : vecB n q (rows.getD k []) with
      | true =>
        simp (disch := omega) only [zA, zB, zC, zD, zF, zG, zH, ↓reduceIte]
        refine hJ _ _ ⟨rfl, rfl, fun j hj => ?_⟩
        by_cases hjk : j = k
        · rw [hjk]; exact hr
        · exact hin j (by omega)
      | false =>
        simp (disch := omega) only [zA, zB, zC, zD, zF, zG, zH, ↓reduceIte]
        refine ⟨hp1, ?_⟩
        simp [valB, all_false hk hr]
    · rintro i _ ⟨rfl, rfl, hin⟩ J
      simp (disch := omega) only [zA, zB, zC, zD, zF, zG, zH, ↓reduceIte, vl, hvl]
      refine ⟨hp1, ?_⟩
      have : rows.all (vecB n q) = true := all_take fun k hk d => by have := hin k hk; simpa [List.getD_eq_getElem?_getD, List.getElem?_eq_getElem hk] using this
      simp [valB, this, show 1 ≤ n by omega, show n ≤ 24 by omega, show rows.length ≤ 64 by omega]
end
end Go.Sim

namespace Go.Sim
open Go Go.Proofs
section
variable {p e b l c q : Nat} {blk : AB} {H : AH}
end
section
variable {α : Type} [Fl α] [DecidableEq α] {cd : α → Nat} {p e b c q : Nat} {blk : AB} {H : AH}
theorem evr_iv (cd : α → Nat) (xss : List (List α)) : evr cd xss = (xss.map fun x => x.map fun a => ((cd a : Nat) : Int)).map fun l => l.map iv := by
  simp [evs, Function.comp_def]
theorem vecB_ok (F : FOK α cd p e b c q blk) {n : Nat} {x : List α} (hx : x.length = n) : vecB n q (x.map fun a => ((cd a : Nat) : Int)) = true := by
  have h : (x.map fun a => ((cd a : Nat) : Int)).all (inR q) = true := by
    rw [List.all_eq_true]
    intro z hz
    obtain ⟨a, _, rfl⟩ := List.mem_map.1 hz
    have := F.lt a
    simp [inR]; exact this
  simp [vecB, hx, h]
theorem valB_ok (F : FOK α cd p e b c q blk) {n : Nat} {xss : List (List α)} (hx : ∀ x ∈ xss, x.length = n) (h1 : 0 < n) (h2 : n ≤ 24) (h3 : xss.length ≤ 64) : valB n q true (xss.map fun x => x.map fun a => ((cd a : Nat) : Int)) = true := by
  have h : (xss.map fun x => x.map fun a => ((cd a : Nat) : Int)).all (vecB n q) = true := by
    rw [List.all_eq_true]
    intro z hz
    obtain ⟨a, ha, rfl⟩ := List.mem_map.1 hz
    exact vecB_ok F (hx a ha)
  simp [valB, h, show 1 ≤ n by omega, h2, h3]
theorem valid_r_ok (F : FOK α cd p e b c q blk) {v : Value} {n : Nat} {xss : List (List α)} (hb : H[b]? = some blk) (hv : RowR H v (evr cd xss)) (hx : ∀ x ∈ xss, x.length = n) (h1 : 0 < n) (h2 : n ≤ 24) (h3 : xss.length ≤ 64) : FN Try.prog 55 [fldv p e b e c, nv n, v] H (fun r H' => r = .bool true ∧ H' = H) := by
  rw [evr_iv] at hv
  have := valid_r (q := q) (vb := true) (n := n) hb (fun H' h => F.rvalid H' h) (fun _ H' h => F.rsize H' h) hv (fun x hx' => by obtain ⟨y, hy, rfl⟩ := List.mem_map.1 hx'; rw [List.length_map, hx y hy]; omega) (by omega) (by rw [List.length_map]; omega)
  rw [valB_ok F hx h1 h2 h3] at this
  exact this
theorem vector_r_ok (F : FOK α cd p e b c q blk) {v : Value} {n : Nat} {xs : List α} (hb : H[b]? = some blk) (hv : Row H v (evs cd xs)) (hx : xs.length = n) (hn : n ≤ 1000) : FN Try.prog 59 [fldv p e b e c, nv n, v] H (fun r H' => r = .bool true ∧ H' = H) := by
  have hv' : Row H v ((xs.map fun a => ((cd a : Nat) : Int)).map iv) := by simpa [evs, Function.comp_def] using hv
  have := vector_r (q := q) (n := n) hb (fun H' h => F.rsize H' h) hv' (by rw [List.length_map]; omega)
  rw [vecB_ok F hx] at this
  exact this
end
end Go.Sim

namespace Go.Sim
section
variable {α : Type} [Fl α] [DecidableEq α]
open Fl
theorem vun_comm (i j : Nat) : (vun i j : α) = vun j i := by
  unfold vun
  by_cases h : j = i
  · rw [if_pos h, if_pos h.symm]
  · rw [if_neg h, if_neg (Ne.symm h)]
theorem ldot_dot {n : Nat} {r x : List α} (hr : r.length = n) : ldot r x = dotn n (toV r) (toV x) := by rw [ldot, ldotk_dotn, hr]
theorem full_span {n : Nat} {A : List (List α)} (hl : ∀ x ∈ A, x.length = n) (h : (lreduce A).length = n) {u : Vc α} (hu : ∀ j, n ≤ j → u j = zero) : LSpan A u := by
  have h1 := rank_null hl
  have h2 : lkernel n A = [] := List.eq_nil_of_length_eq_zero (by omega)
  refine (nul_lkernel hl u).1 ?_
  rw [h2]
  refine ⟨hu, fun w hw => ?_⟩
  obtain ⟨c, rfl⟩ := span_comb hw
  exact dotn_vz u n
section
variable {A X : List (List α)}
theorem linv_left (hl : ∀ x ∈ A, x.length = A.length) (h : linv A = some X) : ∀ i j, i < A.length → j < A.length → dotn A.length (rowV X i) (fun k => ent A k j) = vun j i := by
  have hi := linv_some hl h
  have hr := (linv_rank hl).1 (by rw [h]; simp)
  have hy : ∀ i, i < A.length → ∃ c : Nat → α, vun i = comb c (rowV A) A.length := fun i hi => span_comb (full_span hl hr fun j hj => if_neg (by omega))
  have hy' : ∃ y : Nat → Nat → α, ∀ i, i < A.length → vun i = comb (y i) (rowV A) A.length := ⟨fun i => if h : i < A.length then (hy i h).choose else fun _ => zero, fun i h => by simp only [h, dif_pos]; exact (hy i h).choose_spec⟩
  obtain ⟨y, hy⟩ := hy'
  have h2 : ∀ i j, i < A.length → j < A.length → dotn A.length (y i) (fun k => ent A k j) = vun j i := fun i j h1 h2 => by
    have := congrFun (hy i h1) j
    rw [comb_dot] at this
    rw [vun_comm j i, this]; rfl
  intro i j h1 h3
  rw [← h2 i j h1 h3]
  exact dotn_cong _ fun k hk => by
    congr 1
    exact inv_unique (a := fun i j => ent A i j) hi.2.2 h2 i k h1 hk
theorem linv_back (hl : ∀ x ∈ A, x.length = A.length) (h : linv A = some X) : (∀ x ∈ X, x.length = X.length) ∧ linv X = some A := by
  have hi := linv_some hl h
  have h1 := hi.1
  refine ⟨fun x hx => by rw [hi.2.1 x hx, h1], linv_eq (fun x hx => by rw [hi.2.1 x hx, h1]) ⟨h1.symm, fun x hx => by rw [hl x hx, h1], fun i j a b => ?_⟩ fun i j a b => ?_⟩
  · rw [h1] at a b ⊢; exact linv_left hl h i j a b
  · rw [h1] at a b ⊢; exact hi.2.2 i j a b
theorem apply_col {n : Nat} {B Y : List (List α)} (hBn : B.length = n) (hB : ∀ x ∈ B, x.length = n) (hY : Y.length = n) (h : ∀ i j, i < n → j < n → dotn n (rowV B i) (fun k => ent Y k j) = vun j i) {j : Nat} (hj : j < n) : (B.map fun r => ldot r ((lturn n Y).getD j [])) = lunit n j := by
  refine List.ext_getElem (by simp [lunit, hBn]) fun i h1 h2 => ?_
  have hi : i < n := by simpa [hBn] using h1
  have e1 := unit_at (α := α) (i := i) hj
  simp only [List.getElem_map]
  rw [ldot_dot (hB _ (List.getElem_mem _)), ← rowV_at (show i < B.length by omega)]
  rw [dotn_cong (u' := rowV B i) (w' := fun k => ent Y k j) n (fun k hk => by rw [show toV ((lturn n Y).getD j []) k = ent Y k j from lturn_ent hj (by omega)]), h i j hi hj]
  have e2 : toV (lunit (α := α) n j) i = (lunit n j)[i] := by simp only [toV, List.getD_eq_getElem?_getD, List.getElem?_eq_getElem h2, Option.getD_some]
  rw [← e2, e1]
theorem apply_back {n : Nat} {B Y : List (List α)} (hBn : B.length = n) (hB : ∀ x ∈ B, x.length = n) (hY : Y.length = n) (hY2 : ∀ x ∈ Y, x.length = n) (h : ∀ i j, i < n → j < n → dotn n (rowV Y i) (fun k => ent B k j) = vun j i) {v : List α} (hv : v.length = n) : (Y.map fun r => ldot r (B.map fun s => ldot s v)) = v := by
  refine List.ext_getElem (by simp [hY, hv]) fun i h1 h2 => ?_
  have hi : i < n := by simpa [hY] using h1
  simp only [List.getElem_map]
  rw [ldot_dot (hY2 _ (List.getElem_mem _)), ← rowV_at (show i < Y.length by omega)]
  have e1 : dotn n (rowV Y i) (toV (B.map fun s => ldot s v)) = dotn n (rowV Y i) (fun k => dotn n (rowV B k) (toV v)) := dotn_cong n fun k hk => by
    congr 1
    have hk' : k < B.length := by omega
    simp only [toV, List.getD_eq_getElem?_getD, List.getElem?_map, List.getElem?_eq_getElem hk', Option.map_some, Option.getD_some]
    rw [ldot_dot (hB _ (List.getElem_mem hk')), rowV_at hk']
  have h3 := dotn_comb (toV v) (rowV Y i) (rowV B) n n
  have h4 : dotn n (toV v) (comb (rowV Y i) (rowV B) n) = toV v i := by
    rw [dotn_cong (u' := toV v) (w' := vun i) n, dotn_un _ _ _ hi]
    intro l hl
    congr 1
    rw [comb_dot]
    exact (h i l hi hl).trans (vun_comm l i)
  rw [e1, dotn_cong (u' := rowV Y i) (w' := fun k => dotn n (toV v) (rowV B k)) n (fun k hk => by rw [dotn_comm]), ← h3, h4]
  simp [toV, List.getD_eq_getElem?_getD, List.getElem?_eq_getElem h2]
end
end
end Go.Sim

namespace Go.Sim
section
variable {α : Type} [Fl α] [DecidableEq α]
open Fl
theorem comb_cong' {c d : Nat → α} (R : Nat → Vc α) : ∀ m, (∀ i, i < m → c i = d i) → comb c R m = comb d R m
  | 0, _ => rfl
  | k + 1, h => by rw [comb, comb, comb_cong' R k (fun i hi => h i (by omega)), h k (by omega)]
variable {n : Nat} {A : List (List α)}
theorem turn_kernel (hl : ∀ x ∈ A, x.length = n) {u : List α} (hu : u.length = A.length) : Nul A.length (LSpan (lturn n A)) (toV u) ↔ lcomb n A u = List.replicate n zero := by
  obtain ⟨t1, t2⟩ := lturn_len n A
  have hc : toV (lcomb n A u) = comb (toV u) (rowV A) A.length := by rw [lcomb, toV_lcombk hl _ (Nat.le_refl _)]
  have hlen : (lcomb n A u).length = n := by rw [lcomb, lcombk_length hl _ (Nat.le_refl _)]
  have hdot : ∀ j, j < n → dotn A.length (rowV (lturn n A) j) (toV u) = comb (toV u) (rowV A) A.length j := fun j hj => by
    rw [comb_dot, dotn_comm]
    exact dotn_cong _ fun i hi => by rw [ent_rowV, lturn_ent hj hi]; rfl
  constructor
  · intro h
    refine toV_inj (by rw [hlen]; simp) ?_
    rw [toV_zero, hc]
    funext j
    by_cases hj : j < n
    · rw [← hdot j hj]; exact h.2 _ (Span.row (by omega))
    · exact LSpan.len hl (comb_span _ _ _) j (by omega)
  · intro h
    refine Nul.of (fun j hj => toV_out (by omega)) fun j hj => ?_
    rw [hdot j (by omega), ← hc, h, toV_zero]; rfl
theorem no_sol (hl : ∀ x ∈ A, x.length = n) {bs : List α} (hb : A.length = bs.length) (h : lsolve n A bs = none) : ∃ i, i < (lkernel A.length (lturn n A)).length ∧ ldot ((lkernel A.length (lturn n A)).getD i []) bs ≠ zero := by
  obtain ⟨t1, t2⟩ := lturn_len n A
  obtain ⟨k1, k2⟩ := lkernel_red t2
  obtain ⟨c, h1, h2⟩ := lsolve_none hl hb h
  have hcc : ∀ R : Nat → Vc α, comb (vcut A.length c) R A.length = comb c R A.length := fun R => comb_cong' R _ fun i hi => by simp [vcut, hi]
  have hnul : Nul A.length (LSpan (lturn n A)) (vcut A.length c) := by
    refine Nul.of (fun j hj => if_neg (by omega)) fun j hj => ?_
    have := congrFun h1 j
    rw [comb_dot] at this
    rw [dotn_comm]
    refine Eq.trans (dotn_cong _ fun i hi => ?_) this
    rw [ent_rowV, lturn_ent (by omega) hi]
    simp [vcut, hi]; rfl
  have hs := (k2 _).2 hnul
  apply Classical.byContradiction
  intro hn
  have hz : dotn A.length (vcut A.length c) (toV bs) = zero := by
    refine hs.sub (S := fun u => dotn A.length u (toV bs) = zero) (dotn_vz _ _) (fun u v hu hv => ?_) (fun c u hu => ?_) (fun x hx => ?_)
    · show dotn _ (va u v) _ = zero; rw [dotn_va, hu, hv, add_zero]
    · show dotn _ (vs c u) _ = zero; rw [dotn_vs, hu, Fl.mul_zero]
    · obtain ⟨i, hi, rfl⟩ := List.mem_iff_getElem.1 hx
      apply Classical.byContradiction
      intro hne
      refine hn ⟨i, hi, ?_⟩
      rw [getD_at hi, ldot_dot (k1.piv.1 _ (List.getElem_mem hi))]
      exact hne
  rw [dotn_cong (u' := c) (w' := toV bs) _ (fun i hi => by simp [vcut, hi]), h2] at hz
  exact one_ne hz
end
end Go.Sim

namespace Go.Sim
open Go Go.Proofs
section
variable {α : Type} [Fl α] [DecidableEq α]
theorem lspan_set {L : List (List α)} {k : Nat} {w : List α} (hk : k < L.length) (h1 : LSpan L (toV w)) (h2 : LSpan (L.set k w) (toV (L.getD k []))) (u : Vc α) : LSpan (L.set k w) u ↔ LSpan L u := by
  constructor
  · refine LSpan.mono fun x hx => ?_
    rcases List.mem_or_eq_of_mem_set hx with h | rfl
    · exact LSpan.mem h
    · exact h1
  · refine LSpan.mono fun x hx => ?_
    obtain ⟨j, hj, rfl⟩ := List.mem_iff_getElem.1 hx
    by_cases hjk : k = j
    · subst hjk; rw [← getD_at hj]; exact h2
    · have : (L.set k w)[j]'(by simpa using hj) = L[j] := List.getElem_set_ne hjk _
      rw [← this]
      exact LSpan.mem (List.getElem_mem _)
theorem lspan_scale {n : Nat} {L : List (List α)} {k : Nat} {a : α} (hk : k < L.length) (ha : a ≠ Fl.zero) (u : Vc α) : LSpan (L.set k (lmore (List.replicate (L.getD k []).length Fl.zero) a (L.getD k []))) u ↔ LSpan L u := by
  have e : toV (lmore (List.replicate (L.getD k []).length Fl.zero) a (L.getD k [])) = vs a (toV (L.getD k [])) := by rw [toV_lmore (by simp), toV_zero, zero_va]
  refine lspan_set hk ?_ ?_ u
  · rw [e]; exact Span.smul _ (LSpan.at_ hk)
  · have h := LSpan.mem (L := L.set k (lmore (List.replicate (L.getD k []).length Fl.zero) a (L.getD k []))) (x := lmore (List.replicate (L.getD k []).length Fl.zero) a (L.getD k [])) (by
      rw [List.mem_iff_getElem]; exact ⟨k, by simpa using hk, by simp⟩)
    rw [e] at h
    have h2 := Span.smul (Fl.inv a) h
    rw [vs_vs, Fl.mul_comm, Fl.mul_inv _ ha, vs_one] at h2
    exact h2
theorem lspan_more {L : List (List α)} {i k : Nat} {a : α} (hi : i < L.length) (hk : k < L.length) (hik : i ≠ k) (hl : (L.getD i []).length = (L.getD k []).length) (u : Vc α) : LSpan (L.set i (lmore (L.getD i []) a (L.getD k []))) u ↔ LSpan L u := by
  have e := toV_lmore (a := a) hl
  refine lspan_set hi ?_ ?_ u
  · rw [e]; exact Span.add (LSpan.at_ hi) (Span.smul _ (LSpan.at_ hk))
  · have h := LSpan.mem (L := L.set i (lmore (L.getD i []) a (L.getD k []))) (x := lmore (L.getD i []) a (L.getD k [])) (by
      rw [List.mem_iff_getElem]; exact ⟨i, by simpa using hi, by simp⟩)
    have hkk := LSpan.mem (L := L.set i (lmore (L.getD i []) a (L.getD k []))) (x := L.getD k []) (by
      rw [List.mem_iff_getElem]; exact ⟨k, by simpa using hk, by rw [List.getElem_set_ne hik]; exact (getD_at hk).symm⟩)
    rw [e] at h
    have h2 := Span.add h (Span.smul (Fl.neg Fl.one) (Span.smul a hkk))
    rw [va_assoc, vneg, va_zero] at h2
    exact h2
theorem lspan_swap {L : List (List α)} {i k : Nat} (hi : i < L.length) (hk : k < L.length) (u : Vc α) : LSpan ((L.set i (L.getD k [])).set k (L.getD i [])) u ↔ LSpan L u := by
  constructor
  · refine LSpan.mono fun x hx => ?_
    rcases List.mem_or_eq_of_mem_set hx with h | rfl
    · rcases List.mem_or_eq_of_mem_set h with h | rfl
      · exact LSpan.mem h
      · exact LSpan.at_ hk
    · exact LSpan.at_ hi
  · refine LSpan.mono fun x hx => ?_
    obtain ⟨j, hj, rfl⟩ := List.mem_iff_getElem.1 hx
    refine LSpan.mem ?_
    rw [List.mem_iff_getElem]
    by_cases hji : j = i
    · subst hji
      exact ⟨k, by simpa using hk, by simp [List.getD_eq_getElem?_getD, List.getElem?_eq_getElem hj]⟩
    · by_cases hjk : j = k
      · subst hjk
        refine ⟨i, by simpa using hi, ?_⟩
        rw [List.getElem_set_ne hji]; simp [List.getD_eq_getElem?_getD, List.getElem?_eq_getElem hj]
      · exact ⟨j, by simpa using hj, by rw [List.getElem_set_ne (Ne.symm hjk), List.getElem_set_ne (Ne.symm hji)]⟩
end
structure Spn (H0 H : AH) (nb : Nat) (S : List Value) (css : List (List Value)) : Prop where
  cell : H[nb]? = some (.cells S 26 (some 1) false)
  rws : Rws H S css
  pl : ∀ cs ∈ css, cs.all plain = true
  pre : Pre H0 H
  hi : H0.length ≤ nb
theorem Spn.go {H0 H H' : AH} {nb : Nat} {S : List Value} {css : List (List Value)} (h : Spn H0 H nb S css) (hp : Pre H H') : Spn H0 H' nb S css :=
  ⟨hp.get h.cell, h.rws.pre hp, h.pl, h.pre.trans hp, h.hi⟩
theorem Spn.st {H0 H : AH} {nb : Nat} {S : List Value} {css : List (List Value)} (h : Spn H0 H nb S css) {i : Nat} (hi : i < css.length) {u : Value} {w : List Value} (hu : Row H u w) (hw : w.all plain = true) :
    xact (.st 1) H [.pointer (some ⟨nb, i, none⟩), u] = some (undef, H.set nb (.cells (S.set i u) 26 (some 1) false)) ∧ Spn H0 (H.set nb (.cells (S.set i u) 26 (some 1) false)) nb (S.set i u) (css.set i w) := by
  have hl := h.rws.1
  refine ⟨st_cell h.cell (by omega) hu.cells hu.one, List.getElem?_set_self (get_lt h.cell), ⟨by simp [hl], fun k hk => ?_⟩, fun cs hcs => ?_, fun x hx => ?_, h.hi⟩
  · have hkeep : ∀ r cs, Row H r cs → cs.all plain = true → Row (H.set nb (.cells (S.set i u) 26 (some 1) false)) r cs := fun r cs hr hc => hr.keep hc h.cell h.rws.isSl fun b' _ hb' => List.getElem?_set_ne (Ne.symm hb')
    rw [List.length_set] at hk
    rw [getD_set (by omega), getD_set hi]
    by_cases hki : k = i
    · rw [if_pos hki, if_pos hki]; exact hkeep _ _ hu hw
    · rw [if_neg hki, if_neg hki]; exact hkeep _ _ (h.rws.2 k hk) (h.pl _ (getD_mem hk))
  · rcases List.mem_or_eq_of_mem_set hcs with h2 | rfl
    · exact h.pl _ h2
    · exact hw
  · rw [List.getElem?_set_ne (by have := h.hi; omega)]; exact h.pre x hx
theorem Spn.rowR {H0 H : AH} {nb : Nat} {S : List Value} {css : List (List Value)} (h : Spn H0 H nb S css) : RowR H (.slice (some ⟨nb, 0, none⟩) css.length css.length) css := by
  have hl := h.rws.1
  have hx := RowX.of_take (k := css.length) (c := css.length) h.cell (by omega) (Nat.le_refl _)
  rw [List.take_of_length_le (by omega)] at hx
  exact ⟨S, hx, h.rws⟩
theorem Spn.ld {H0 H : AH} {nb : Nat} {S : List Value} {css : List (List Value)} (h : Spn H0 H nb S css) {i : Nat} (hi : i < css.length) : xload none H [.pointer (some ⟨nb, i, none⟩)] = some (S.getD i undef) := by
  have hl := h.rws.1
  rw [xload_at h.cell]
  simp [xpart, List.getD_eq_getElem?_getD, List.getElem?_eq_getElem (show i < S.length by omega)]
theorem Spn.stB {H0 H : AH} {nb : Nat} {S : List Value} {css : List (List Value)} (h : Spn H0 H nb S css) {i : Nat} (hi : i < css.length) {u : Value} {w : List Value} (hu : Row H u w) (hw : w.all plain = true) :
    ∃ H' S', stB 1 H H[nb]? nb i u = some (undef, H') ∧ Spn H0 H' nb S' (css.set i w) :=
  ⟨_, _, by rw [← xact_st]; exact (h.st hi hu hw).1, (h.st hi hu hw).2⟩
theorem Spn.ldB {H0 H : AH} {nb : Nat} {S : List Value} {css : List (List Value)} (h : Spn H0 H nb S css) {i : Nat} (hi : i < css.length) : ∃ u, loadB none H[nb]? i = some u ∧ Row H u (css.getD i []) := by
  have := h.ld hi
  rw [xload_ptr] at this
  exact ⟨_, this, h.rws.2 i hi⟩
end Go.Sim
