/- Part of the proof: TrD, TrF, ShLo, TrG, TrH, TrI, TrJ, TrM, TrN, TrQ, TrL9. -/
import Derived.Test.YtgcoidbhikfdkaaPZzXfTToTrC
import Derived.Test.YtgcoidbhikfdkaaPTrG1
import Derived.Test.YtgcoidbhikfdkaaPRtIToShFr
import Derived.Test.YtgcoidbhikfdkaaPTrA
import Derived.Test.YtgcoidbhikfdkaaPTrE
set_option linter.all false
namespace Go.Sim
open Go Go.Proofs Kr
section
variable {H : AH} {q n k i : Nat}
abbrev ub (n : Nat) : Value := .int .u8 (n : Int)
theorem b_rem {a b m : Nat} (h : b ≠ 0) : xbin .rem m (ub a) (ub b) = some (ub (a % b)) := by
  have h1 : (a : Int).tmod (b : Int) = ((a % b : Nat) : Int) := by rw [Int.tmod_eq_emod_of_nonneg (by omega)]; rfl
  simp only [xbin]
  rw [if_pos ⟨trivial, by omega⟩, h1]
theorem b_conv {a : Nat} (h : a < 256) : xpure (.conv .i64) [ub a] = some (nv a) := by
  have : xpure (.conv .i64) [ub a] = some (.int .i64 (IntKind.i64.wrap (a : Int))) := rfl
  rw [this, wrapI (by omega) (by omega)]
def ExOK15 : Prop := ∀ H : AH, FN Try.prog 13 [] H (fun r H' => r = .bool true ∧ H' = H)
theorem pow_le9 {q n : Nat} (hq : 2 ≤ q ∧ q ≤ 5) (hn : n ≤ 9) : q ^ n ≤ 1953125 :=
  Nat.le_trans (Nat.pow_le_pow_left hq.2 n) (Nat.le_trans (Nat.pow_le_pow_right (by omega) hn) (by decide))
theorem Kz_le {q n k i : Nat} (hq : 2 ≤ q ∧ q ≤ 5) (hn : n ≤ 9) (hk : k ≤ n) (hi : i ≤ n) : (Kz q n k i).natAbs ≤ 1953125 := by
  rw [← Kc_eq hq hn hk hi]
  have h := pow_le9 hq hn
  exact Nat.le_trans (sum_le (by omega) (by omega) hk hi (Nat.le_refl _)) h
end
end Go.Sim

namespace Go.Sim
open Go Go.Proofs Kr
section
variable {H : AH}
theorem rsize_c {a b : Nat} {w : Value} (ha : a < 256) (hb : b < 256) : FN Try.prog 14 [.agg [ub a, ub b, w].toArray] H (fun r H' => r = .agg [nv (2 + a % 3), nv (b % 7)].toArray ∧ H' = H) := by
  refine FN.pre0' (g14_of ?_) (by simp [ground, scal])
  unfold g14
  have ec : cellsL (.agg [ub a, ub b, w].toArray) = [ub a, ub b, w] := rfl
  have r0 : xbin .rem 0 (ub a) (.int .u8 3) = some (ub (a % 3)) := b_rem (b := 3) (by omega)
  have r1 : xbin .rem 0 (ub b) (.int .u8 7) = some (ub (b % 7)) := b_rem (b := 7) (by omega)
  have c0 := b_conv (a := a % 3) (by omega)
  have c1 := b_conv (a := b % 7) (by omega)
  have hx : (xfill [nv 0, nv 0] [(0, 1), (1, 1)] [nv (2 + a % 3), nv (b % 7)]) = some [nv (2 + a % 3), nv (b % 7)] := rfl
  simp (disch := (first | omega | (simp only [stLen] <;> omega) | (simp only [all_nv]; done) | rfl)) only [zA, zB, zC, zD, zF, zG, zH, Nat.reduceEqDiff, Nat.reduceLT, Nat.reduceLeDiff, ↓reduceIte, ec, r0, r1, c0, c1, hx]
  rw [stB2 rfl rfl]
  simp (disch := (first | omega | (simp only [stLen] <;> omega) | (simp only [all_nv]; done) | rfl)) only [zA, zB, zC, zD, zF, zG, zH, Nat.reduceEqDiff, Nat.reduceLT, Nat.reduceLeDiff, ↓reduceIte]
  exact Pre.new _ _
theorem rpow_c {a n : Nat} (ha : 1 ≤ a) (hn : n ≤ 24) (h : a ^ n < 9223372036854775808) : FN Try.prog 27 [nv a, nv n] H (fun r H' => r = nv (a ^ n) ∧ H' = H) := by
  refine g27_of ?_
  unfold g27
  have hmono : ∀ k, k ≤ n → a ^ k ≤ a ^ n := fun k hk => Nat.pow_le_pow_right ha hk
  refine loopV2.nat n (fun k x v H' => v = nv k ∧ H' = H ∧ x = nv (a ^ k)) ⟨rfl, rfl, by simp⟩ ?_ ?_
  · rintro k x v H1 hk ⟨rfl, rfl, rfl⟩ J hJ
    have hp : a ^ k * a = a ^ (k + 1) := (Nat.pow_succ ..).symm
    have := hmono (k + 1) (by omega)
    have hb : a ^ k * a < 9223372036854775808 := by omega
    have hk1 : k + 1 < 1000 := by omega
    simp (disch := (first | omega | (simp only [stLen] <;> omega) | (simp only [all_nv]; done) | rfl)) only [zA, zB, zC, zD, zF, zG, zH, Nat.reduceEqDiff, Nat.reduceLT, Nat.reduceLeDiff, ↓reduceIte, hk, hb, hk1]
    exact hJ _ _ _ ⟨rfl, rfl, congrArg (fun x => nv x) hp⟩
  · rintro x v H1 ⟨rfl, rfl, rfl⟩ J
    simp (disch := (first | omega | (simp only [stLen] <;> omega) | (simp only [all_nv]; done) | rfl)) only [zA, zB, zC, zD, zF, zG, zH, Nat.reduceEqDiff, Nat.reduceLT, Nat.reduceLeDiff, ↓reduceIte]
theorem one_c {z : Int} : FN Try.prog 26 [zv z] H (fun r H' => r = frv z 1 ∧ H' = H) := by
  refine FN.pre0' (g26_of ?_) (by simp [frv, ground, scal])
  unfold g26
  have hx : (xfill [nv 0, nv 0] [(0, 1), (1, 1)] [zv z, nv 1]) = some [zv z, nv 1] := rfl
  simp (disch := (first | omega | (simp only [stLen] <;> omega) | (simp only [all_nv]; done) | rfl)) only [zA, zB, zC, zD, zF, zG, zH, Nat.reduceEqDiff, Nat.reduceLT, Nat.reduceLeDiff, ↓reduceIte, hx]
  rw [stB2 rfl rfl]
  simp (disch := (first | omega | (simp only [stLen] <;> omega) | (simp only [all_nv]; done) | rfl)) only [zA, zB, zC, zD, zF, zG, zH, Nat.reduceEqDiff, Nat.reduceLT, Nat.reduceLeDiff, ↓reduceIte]
  exact ⟨Pre.new _ _, rfl⟩
theorem u_and1 {a m : Nat} (ha : a < 18446744073709551616) : xbin .and m (uw a) (.int .u64 1) = some (uw (a % 2)) := by
  have e : xbin .and m (uw a) (.int .u64 1) = some (.int .u64 (IntKind.u64.wrap ((BitVec.ofInt 64 (a : Int) &&& BitVec.ofInt 64 1).toNat : Nat))) := rfl
  have h : (BitVec.ofInt 64 (a : Int) &&& BitVec.ofInt 64 1).toNat = a % 2 := by
    rw [BitVec.toNat_and]
    have e1 : (BitVec.ofInt 64 (a : Int)).toNat = a := by simp; omega
    have e2 : (BitVec.ofInt 64 1).toNat = 1 := rfl
    rw [e1, e2, Nat.and_one_is_mod]
  rw [e, h, wrapU]
  congr 2; omega
theorem bit_c {b p : Nat} (hb : b < 18446744073709551616) (hp : p < 64) : FN Try.prog 86 [uw b, nv p] H (fun r H' => r = .bool (decide (bt b p = 1)) ∧ H' = H) := by
  refine g86_of ?_
  unfold g86
  have c0 := c_u64 (d := p) (by omega)
  have s0 := u_shrK (a := b) (k := p) (m := 0) (by omega)
  have hlt : b / 2 ^ p < 18446744073709551616 := Nat.lt_of_le_of_lt (Nat.div_le_self _ _) hb
  have a0 := u_and1 (m := 0) hlt
  have e0 : xbin .eql 0 (uw (b / 2 ^ p % 2)) (.int .u64 1) = some (.bool (decide (b / 2 ^ p % 2 = 1))) := u_eql (b := 1)
  simp (disch := (first | omega | (simp only [stLen] <;> omega) | (simp only [all_nv]; done) | rfl)) only [zA, zB, zC, zD, zF, zG, zH, Nat.reduceEqDiff, Nat.reduceLT, Nat.reduceLeDiff, ↓reduceIte, c0, s0, a0, e0]
  rfl
theorem pcs_c {b : Nat} (hb : b < 18446744073709551616) : FN Try.prog 85 [uw b] H (fun r H' => r = nv (pc 64 (bt b)) ∧ H' = H) := by
  refine g85_of ?_
  unfold g85
  have hle : ∀ k, pc k (bt b) ≤ k := fun k => pc_le k (bt b)
  refine loopV2.nat 64 (fun k x v H' => v = nv k ∧ H' = H ∧ x = nv (pc k (bt b))) ⟨rfl, rfl, rfl⟩ ?_ ?_
  · rintro k x v H1 hk ⟨rfl, rfl, rfl⟩ J hJ
    have h1 := hle k
    have hk1 : k + 1 < 1000 := by omega
    simp (disch := (first | omega | (simp only [stLen] <;> omega) | (simp only [all_nv]; done) | rfl)) only [zA, zB, zC, zD, zF, zG, zH, Nat.reduceEqDiff, Nat.reduceLT, Nat.reduceLeDiff, ↓reduceIte, hk]
    refine joinV1.intro fun J2 hJ2 => ?_
    refine FZ.use (bit_c hb hk) ?_
    by_cases h : bt b k = 1
    · rw [decide_eq_true h]
      have hp1 : pc k (bt b) + 1 < 1000 := by omega
      have he : pc (k + 1) (bt b) = pc k (bt b) + 1 := by simp only [pc, h, if_true]
      simp (disch := (first | omega | (simp only [stLen] <;> omega) | (simp only [all_nv]; done) | rfl)) only [zA, zB, zC, zD, zF, zG, zH, Nat.reduceEqDiff, Nat.reduceLT, Nat.reduceLeDiff, ↓reduceIte, hp1]
      refine hJ2 _ _ ?_
      simp (disch := (first | omega | (simp only [stLen] <;> omega) | (simp only [all_nv]; done) | rfl)) only [zA, zB, zC, zD, zF, zG, zH, Nat.reduceEqDiff, Nat.reduceLT, Nat.reduceLeDiff, ↓reduceIte, hk1]
      exact hJ _ _ _ ⟨rfl, rfl, by rw [he]⟩
    · rw [decide_eq_false h]
      have he : pc (k + 1) (bt b) = pc k (bt b) := by simp only [pc, h, if_false, Nat.add_zero]
      simp (disch := (first | omega | (simp only [stLen] <;> omega) | (simp only [all_nv]; done) | rfl)) only [zA, zB, zC, zD, zF, zG, zH, Nat.reduceEqDiff, Nat.reduceLT, Nat.reduceLeDiff, ↓reduceIte]
      refine hJ2 _ _ ?_
      simp (disch := (first | omega | (simp only [stLen] <;> omega) | (simp only [all_nv]; done) | rfl)) only [zA, zB, zC, zD, zF, zG, zH, Nat.reduceEqDiff, Nat.reduceLT, Nat.reduceLeDiff, ↓reduceIte, hk1]
      exact hJ _ _ _ ⟨rfl, rfl, by rw [he]⟩
  · rintro x v H1 ⟨rfl, rfl, rfl⟩ J
    simp (disch := (first | omega | (simp only [stLen] <;> omega) | (simp only [all_nv]; done) | rfl)) only [zA, zB, zC, zD, zF, zG, zH, Nat.reduceEqDiff, Nat.reduceLT, Nat.reduceLeDiff, ↓reduceIte]
theorem pc_top {b n : Nat} (hb : b < 2 ^ n) : ∀ k, n ≤ k → pc k (bt b) = pc n (bt b) := by
  intro k
  induction k with
  | zero => intro h; obtain rfl : n = 0 := by omega
            rfl
  | succ k ih =>
    intro h
    by_cases e : n = k + 1
    · subst e; rfl
    · rw [← ih (by omega)]
      have : bt b k = 0 := by
        unfold bt
        rw [Nat.div_eq_of_lt (Nat.lt_of_lt_of_le hb (Nat.pow_le_pow_right (by omega) (by omega)))]
      simp only [pc, this]; rfl
theorem word_c {q n : Nat} {v : Value} {ws : List Nat} (hv : Row H v (ws.map nv)) (hl : ws.length = n) (hw : ∀ x ∈ ws, x < q) (hq : q ≤ 16) (hn : n ≤ 24) : FN Try.prog 120 [nv q, nv n, v] H (fun r H' => r = .bool true ∧ H' = H) := by
  refine g120_of ?_
  unfold g120
  obtain ⟨w1, w2, w3, _⟩ := hv.all 0
  simp (disch := (first | omega | (simp only [stLen] <;> omega) | (simp only [all_nv]; done) | rfl)) only [zA, zB, zC, zD, zF, zG, zH, Nat.reduceEqDiff, Nat.reduceLT, Nat.reduceLeDiff, ↓reduceIte, w1]
  refine loopV1.nat ws.length (fun k x H' => x = nv k ∧ H' = H) ⟨rfl, rfl⟩ ?_ ?_
  · rintro k x H1 hk ⟨rfl, rfl⟩ J hJ
    have hx : ws.getD k 0 < q := by
      rw [List.getD_eq_getElem?_getD, List.getElem?_eq_getElem hk]
      exact hw _ (List.getElem_mem hk)
    generalize hX : ws.getD k 0 = X at *
    have hge : ¬ q ≤ X := by omega
    have hk1 : k + 1 < 1000 := by omega
    have e0 : xbin .lss 0 (nv X) (nv 0) = some (.bool false) := by simp [xbin]
    simp (disch := (first | omega | (simp only [stLen] <;> omega) | (simp only [all_nv]; done) | rfl)) only [zA, zB, zC, zD, zF, zG, zH, Nat.reduceEqDiff, Nat.reduceLT, Nat.reduceLeDiff, ↓reduceIte, hk, w2, w3, hX, hge, e0, hk1]
    exact hJ _ _ ⟨rfl, rfl⟩
  · rintro x H1 ⟨rfl, rfl⟩ J
    simp (disch := (first | omega | (simp only [stLen] <;> omega) | (simp only [all_nv]; done) | rfl)) only [zA, zB, zC, zD, zF, zG, zH, Nat.reduceEqDiff, Nat.reduceLT, Nat.reduceLeDiff, ↓reduceIte, w1, hl]
theorem must_c {n d : Int} : FN Try.prog 124 [frv n d, nv 0] H (fun r H' => r = frv n d ∧ H' = H) := by
  refine FN.pre0' (g124_of ?_) (by simp [frv, ground, scal])
  unfold g124
  have ec : cellsL (frv n d) = [zv n, zv d] := rfl
  simp (disch := (first | omega | (simp only [stLen] <;> omega) | (simp only [all_nv]; done) | rfl)) only [zA, zB, zC, zD, zF, zG, zH, Nat.reduceEqDiff, Nat.reduceLT, Nat.reduceLeDiff, ↓reduceIte, ec]
  rw [stB2 rfl rfl]
  simp (disch := (first | omega | (simp only [stLen] <;> omega) | (simp only [all_nv]; done) | rfl)) only [zA, zB, zC, zD, zF, zG, zH, Nat.reduceEqDiff, Nat.reduceLT, Nat.reduceLeDiff, ↓reduceIte]
  exact ⟨Pre.new _ _, rfl⟩
end
end Go.Sim

namespace Go.Sim
namespace Lw
open Go
theorem getD_mem {β : Type} {l : List β} {k : Nat} {d : β} (hk : k < l.length) : l.getD k d ∈ l := by
  rw [List.getD_eq_getElem?_getD, List.getElem?_eq_getElem hk]; exact List.getElem_mem hk
theorem acc_setLow {H0 H : AH} {v : Value} {cs : List Value} {e : TypeId} {x : Nat} {y : AB} (h : Acc H0 H v cs e) (hx : x < H0.length) : Acc H0 (H.set x y) v cs e := by
  rcases h with h | ⟨b, hb1, rfl, op, h4, h5⟩
  · exact .inl h
  · refine .inr ⟨b, hb1, rfl, op, h4, ?_⟩
    rw [List.getElem?_set_ne (by omega)]
    exact h5
def Lo (n : Nat) (v : Value) : Prop := ∀ a l c, v = .slice (some a) l c → n ≤ a.block
theorem row_setLow {H : AH} {v : Value} {cs : List Value} {x n : Nat} {y : AB} (h : Row H v cs) (hl : Lo n v) (hx : x < n) : Row (H.set x y) v cs := by
  rcases h with h | ⟨b1, o, c, cc, e1, op1, r1, rfl, h2, h3, hcap⟩
  · exact .inl h
  · have := hl _ _ _ rfl
    exact .inr ⟨b1, o, c, cc, e1, op1, r1, rfl, by rw [List.getElem?_set_ne (by simp at this; omega)]; exact h2, h3, hcap⟩
theorem acc_lo {H0 H : AH} {v : Value} {cs : List Value} {e : TypeId} (h : Acc H0 H v cs e) : Lo H0.length v := by
  intro a l c hv
  rcases h with ⟨_, rfl⟩ | ⟨b, hb1, rfl, op, h4, h5⟩
  · cases hv
  · cases hv; exact hb1
def AccLo (H0 H : AH) (v : Value) (css : List (List Value)) (e : TypeId) : Prop := ∃ vs, Acc H0 H v vs e ∧ Rws H vs css ∧ (∀ cs ∈ css, cs.all plain = true) ∧ ∀ x ∈ vs, Lo H0.length x
theorem AccLo.acc {H0 H : AH} {v : Value} {css : List (List Value)} {e : TypeId} (h : AccLo H0 H v css e) : AccR H0 H v css e := let ⟨vs, a, b, c, _⟩ := h; ⟨vs, a, b, c⟩
theorem AccLo.pre {H0 H H' : AH} {v : Value} {css : List (List Value)} {e : TypeId} (h : AccLo H0 H v css e) (hp : Pre H H') : AccLo H0 H' v css e := let ⟨vs, h1, h2, h3, h4⟩ := h; ⟨vs, h1.pre hp, h2.pre hp, h3, h4⟩
theorem AccLo.setLow {H0 H : AH} {v : Value} {css : List (List Value)} {e : TypeId} {x : Nat} {y : AB} (h : AccLo H0 H v css e) (hx : x < H0.length) : AccLo H0 (H.set x y) v css e := by
  obtain ⟨vs, h1, h2, h3, h4⟩ := h
  refine ⟨vs, acc_setLow h1 hx, ⟨h2.1, fun k hk => row_setLow (h2.2 k hk) (h4 _ ?_) hx⟩, h3, h4⟩
  exact getD_mem (by rw [h2.1]; exact hk)
theorem AccLo.mono {H0 H1 H : AH} {v : Value} {css : List (List Value)} {e : TypeId} (h : AccLo H1 H v css e) (hl : H0.length ≤ H1.length) : AccLo H0 H v css e := let ⟨vs, h1, h2, h3, h4⟩ := h; ⟨vs, h1.mono hl, h2, h3, fun x hx a l c e => Nat.le_trans hl (h4 x hx a l c e)⟩
theorem AccLo.new {H0 H : AH} (hl : H0.length ≤ H.length) {e : TypeId} {Y : AH} : AccLo H0 (H ++ .cells [] e none false :: Y) (.slice (some ⟨H.length, 0, none⟩) 0 0) [] e :=
  ⟨[], (Own.new hl (cs := []) rfl).acc, ⟨rfl, by simp⟩, by simp, by simp⟩
theorem AccLo.app1 {H0 H : AH} (hl0 : H0.length ≤ H.length) {v u : Value} {css : List (List Value)} {us : List Value} {e : TypeId} {by_ : Nat} (h : AccLo H0 H v css e) (hu : Row H u us) (hlo : Lo H0.length u) (hpl : us.all plain = true) (hb : (css.length + 1) * by_ ≤ 140737488355328) (hl : css.length + 1 ≤ 9223372036854775807) {e2 : TypeId} :
    ∃ v' H', xact (.app e 1 by_) (H ++ [.cells [u] e2 none false]) [v, .slice (some ⟨H.length, 0, none⟩) 1 1] = some (v', H') ∧ AccLo H0 H' v' (css ++ [us]) e ∧ (Pre H0 H → Pre H0 H') ∧ H.length ≤ H'.length := by
  obtain ⟨vs, h1, h2, h3, h4⟩ := h
  have hlen := h2.1
  have hplain : ∀ cs ∈ css ++ [us], cs.all plain = true := by
    intro cs hcs
    rcases List.mem_append.1 hcs with hc | hc
    · exact h3 _ hc
    · rw [List.mem_singleton.1 hc]; exact hpl
  have hlow : ∀ x ∈ vs ++ [u], Lo H0.length x := by
    intro x hx
    rcases List.mem_append.1 hx with hc | hc
    · exact h4 _ hc
    · rw [List.mem_singleton.1 hc]; exact hlo
  obtain ⟨v', H', q1, q2, q3, q4⟩ := h1.app1G (by_ := by_) (e2 := e2) hl0 hu.one (by rw [hlen]; exact hb) (by rw [hlen]; exact hl)
  have hr : ∀ r cs, Row H r cs → cs.all plain = true → Row H' r cs := by
    intro r cs hr hc
    rcases h1 with ⟨rfl, rfl⟩ | ⟨b, hb1, rfl, op, h4', h5⟩
    · exact hr.pre fun b' hb' => q3 b' hb' (fun _ _ => by simp)
    · exact hr.keep hc h5 h2.isSl fun b' hb' hne => q3 b' hb' (fun l c => by simp; intro e; exact absurd e.symm hne)
  refine ⟨v', H', q1, ⟨vs ++ [u], q2, Rws.snoc ⟨hlen, fun k hk' => hr _ _ (h2.2 k hk') (h3 _ (getD_mem hk'))⟩ (hr _ _ hu hpl), hplain, hlow⟩, fun hp b hb => ?_, q4⟩
  rw [q3 b (by omega) (fun l c e => ?_)]
  · exact hp b hb
  · rcases h1 with ⟨_, rfl⟩ | ⟨b', hb1, rfl, _⟩
    · cases e
    · cases e; omega
end Lw
end Go.Sim

namespace Go.Sim
open Go Go.Proofs Kr Lw
def wl (q : Nat) (wss : List (List Nat)) (i k : Nat) : Nat := if i < wss.length ∧ k < (wss.getD i []).length then (wss.getD i []).getD k 0 % q else 0
def wM (wss : List (List Nat)) : Nat := max 1 (min wss.length 12)
def wdL (q n : Nat) (wss : List (List Nat)) : List (List Nat) := (List.range (wM wss)).map fun i => (List.range n).map fun k => wl q wss i k
def RowB (H : AH) (v : Value) (wss : List (List Nat)) : Prop := RowR H v (wss.map fun ws => ws.map ub) ∧ ∀ ws ∈ wss, ∀ x ∈ ws, x < 256
theorem RowB.pre {H H' : AH} {v : Value} {wss : List (List Nat)} (h : RowB H v wss) (hp : Pre H H') : RowB H' v wss := ⟨h.1.pre hp, h.2⟩
section
variable {H : AH}
theorem words_c {a b : Nat} {w : Value} {wss : List (List Nat)} (ha : a < 256) (hb : b < 256) (hw : RowB H w wss) :
    FN Try.prog 15 [.agg [ub a, ub b, w].toArray] H (fun r H' => Pre H H' ∧ AccLo H H' r ((wdL (2 + a % 3) (b % 7) wss).map fun l => l.map nv) 26) := by
  refine g15_of ?_
  unfold g15
  have ec : cellsL (.agg [ub a, ub b, w].toArray) = [ub a, ub b, w] := rfl
  simp (disch := (first | omega | (simp only [stLen] <;> omega) | (simp only [all_nv]; done) | rfl)) only [zA, zB, zC, zD, zF, zG, zH, Nat.reduceEqDiff, Nat.reduceLT, Nat.reduceLeDiff, ↓reduceIte, ec]
  refine FZ.use (rsize_c ha hb) ?_
  have hq : 2 ≤ 2 + a % 3 ∧ 2 + a % 3 ≤ 4 := by omega
  have hn : b % 7 ≤ 6 := by omega
  generalize 2 + a % 3 = q at *
  generalize b % 7 = n at *
  simp (disch := (first | omega | (simp only [stLen] <;> omega) | (simp only [all_nv]; done) | rfl)) only [zA, zB, zC, zD, zF, zG, zH, Nat.reduceEqDiff, Nat.reduceLT, Nat.reduceLeDiff, ↓reduceIte]
  rw [stB2 rfl rfl]
  simp (disch := (first | omega | (simp only [stLen] <;> omega) | (simp only [all_nv]; done) | rfl)) only [zA, zB, zC, zD, zF, zG, zH, Nat.reduceEqDiff, Nat.reduceLT, Nat.reduceLeDiff, ↓reduceIte]
  obtain ⟨X, hX⟩ : ∃ X, X = [AB.cells [ub a, ub b, w] 24 none false, AB.cells [nv q, nv n] 25 none false] := ⟨_, rfl⟩
  have hp1 : Pre H (H ++ X) := Pre.new _ _
  have hM : wM wss ≤ 12 := by unfold wM; omega
  have hmm : ∀ l : Nat, (xpure .min2 [nv l, nv 12]) = some (nv (min l 12)) := by
    intro l; rw [xp_min2']; congr 2; split <;> omega
  have hmx : ∀ l : Nat, (xpure .max2 [nv 1, nv (min l 12)]) = some (nv (max 1 (min l 12))) := by
    intro l; rw [xp_max2']; congr 2; split <;> omega
  have g0 : ∀ H', Pre (H ++ X) H' → H'[H.length]? = some (.cells [ub a, ub b, w] 24 none false) := fun H' hp => hp.get (by rw [hX]; simp)
  have g1 : ∀ H', Pre (H ++ X) H' → H'[H.length + 1]? = some (.cells [nv q, nv n] 25 none false) := fun H' hp => hp.get (by rw [hX]; simp)
  have pA : ∀ H' : AH, xpure (.ixA 2 1) [.pointer (some ⟨H.length + 1, 0, none⟩), nv 1] = some (.pointer (some ⟨H.length + 1, 1, none⟩)) := fun _ => rfl
  have pA0 : ∀ H' : AH, xpure (.ixA 2 1) [.pointer (some ⟨H.length + 1, 0, none⟩), nv 0] = some (.pointer (some ⟨H.length + 1, 0, none⟩)) := fun _ => rfl
  refine loopV2.nat (wM wss) (fun i out v H' => v = nv i ∧ Pre (H ++ X) H' ∧ AccLo (H ++ X) H' out ((List.range i).map fun i => ((List.range n).map fun k => wl q wss i k).map nv) 26) ⟨rfl, by have := Pre.new (H ++ X) [AB.cells [] 26 none false]; rw [hX] at this ⊢; simpa using this, by rw [hX]; have := AccLo.new (H0 := H ++ X) (H := H ++ X) (Nat.le_refl _) (e := 26) (Y := []); rw [hX] at this; simpa using this⟩ ?_ ?_
  · rintro i out v H3 hi ⟨rfl, hp, ho⟩ J hJ
    have l0 := g0 _ hp
    have hw3 := hw.pre (hp1.trans hp)
    obtain ⟨vs, hv, hr⟩ := hw3.1
    obtain ⟨w1, w2, w3, w4⟩ := hv.1.allV
    have hvl : vs.length = wss.length := by rw [hr.1]; simp
    rw [hvl] at w1
    have hi2 : i < max 1 (min wss.length 12) := hi
    simp (disch := (first | omega | (simp only [stLen] <;> omega) | (simp only [all_nv]; done) | rfl)) only [zA, zB, zC, zD, zF, zG, zH, Nat.reduceEqDiff, Nat.reduceLT, Nat.reduceLeDiff, ↓reduceIte, l0, w1, hmm, hmx, hi2]
    refine loopV2.nat n (fun k row v H' => v = nv k ∧ Pre H3 H' ∧ Acc H3 H' row (((List.range k).map fun k => wl q wss i k).map nv) 3) ⟨rfl, Pre.new _ _, (Own.new (Nat.le_refl _) (cs := []) rfl).acc⟩ ?_ ?_
    · rintro k row v H4 hk ⟨rfl, hp4, hr4⟩ J2 hJ2
      have hpa := hp.trans hp4
      have l0 := g0 _ hpa
      have l1 := g1 _ hpa
      have hv4 := hv.pre hp4
      have hrs4 := hr.pre hp4
      obtain ⟨w1, w2, w3, w4⟩ := hv4.1.allV
      rw [hvl] at w1
      simp (disch := (first | omega | (simp only [stLen] <;> omega) | (simp only [all_nv]; done) | rfl)) only [zA, zB, zC, zD, zF, zG, zH, Nat.reduceEqDiff, Nat.reduceLT, Nat.reduceLeDiff, ↓reduceIte, l1, pA, hk]
      refine joinV1.via (fun x H' => x = nv (wl q wss i k) ∧ H' = H4) ?_ ?_
      · intro J3 hJ3
        by_cases hil : i < wss.length
        · have hrow := hrs4.2 i (by simpa using hil)
          have hcs : (wss.map fun ws => ws.map ub).getD i [] = (wss.getD i []).map ub := by
            simp [List.getD_eq_getElem?_getD, List.getElem?_eq_getElem hil]
          rw [hcs] at hrow
          have hmem : wss.getD i [] ∈ wss := by
            rw [List.getD_eq_getElem?_getD, List.getElem?_eq_getElem hil]; exact List.getElem_mem hil
          have hby := hw.2 _ hmem
          obtain ⟨r1, r2, r3, _⟩ := hrow.all 0
          have hivs : i < vs.length := by omega
          have w2' := w2 i hivs
          have w3' := w3 i hivs
          generalize vs.getD i undef = rv at *
          generalize hR : wss.getD i [] = rw_ at *
          by_cases hkl : k < rw_.length
          · have hx : rw_.getD k 0 < 256 := by
              rw [List.getD_eq_getElem?_getD, List.getElem?_eq_getElem hkl]
              exact hby _ (List.getElem_mem hkl)
            have hb := b_conv hx
            have he : wl q wss i k = rw_.getD k 0 % q := by unfold wl; rw [hR, if_pos ⟨hil, hkl⟩]
            have hq0 : 0 < q := by omega
            have r2' := r2 k hkl
            have r3' := r3 k hkl
            rw [he] at hJ3
            generalize rw_.getD k 0 = y at *
            simp (disch := (first | omega | (simp only [stLen] <;> omega) | (simp only [all_nv]; done) | rfl)) only [zA, zB, zC, zD, zF, zG, zH, Nat.reduceEqDiff, Nat.reduceLT, Nat.reduceLeDiff, ↓reduceIte, l0, l1, w1, w2', w3', r1, r2', r3', hil, hkl, hb, pA0, hq0]
            exact hJ3 _ _ ⟨rfl, rfl⟩
          · have he : wl q wss i k = 0 := by unfold wl; rw [hR, if_neg (fun h => hkl h.2)]
            rw [he] at hJ3
            simp (disch := (first | omega | (simp only [stLen] <;> omega) | (simp only [all_nv]; done) | rfl)) only [zA, zB, zC, zD, zF, zG, zH, Nat.reduceEqDiff, Nat.reduceLT, Nat.reduceLeDiff, ↓reduceIte, l0, l1, w1, w2', w3', r1, hil, hkl]
            exact hJ3 _ _ ⟨rfl, rfl⟩
        · have he : wl q wss i k = 0 := by unfold wl; rw [if_neg (fun h => hil h.1)]
          rw [he] at hJ3
          simp (disch := (first | omega | (simp only [stLen] <;> omega) | (simp only [all_nv]; done) | rfl)) only [zA, zB, zC, zD, zF, zG, zH, Nat.reduceEqDiff, Nat.reduceLT, Nat.reduceLeDiff, ↓reduceIte, l0, l1, w1, hil]
          exact hJ3 _ _ ⟨rfl, rfl⟩
      · rintro x H5 ⟨rfl, rfl⟩
        obtain ⟨row', H8, e1, ho', hp', _⟩ := hr4.app1 (by_ := 8) hp4.len (u := nv (wl q wss i k)) rfl (by simp; omega) (by simp; omega) (e2 := 3)
        have hk1 : k + 1 < 1000 := by omega
        simp (disch := (first | omega | (simp only [stLen] <;> omega) | (simp only [all_nv]; done) | rfl)) only [zA, zB, zC, zD, zF, zG, zH, Nat.reduceEqDiff, Nat.reduceLT, Nat.reduceLeDiff, ↓reduceIte, e1, hk1]
        refine hJ2 _ _ _ ⟨rfl, hp' hp4, ?_⟩
        rw [List.range_succ, List.map_append, List.map_append]
        exact ho'
    · rintro row v H4 ⟨rfl, hp4, hr4⟩ J2
      have hpa := hp.trans hp4
      have l1 := g1 _ hpa
      have hf := hr4.row.fill
      obtain ⟨out', H8, e1, ho', hp', _⟩ := (ho.pre hp4).app1 (by_ := 24) hpa.len (u := row) hr4.row (fun a l c e => Nat.le_trans hp.len (acc_lo hr4 a l c e)) (by simp [plain]) (by simp; omega) (by simp; omega) (e2 := 26)
      have hi1 : i + 1 < 1000 := by omega
      simp (disch := (first | omega | (simp only [stLen] <;> omega) | (simp only [all_nv]; done) | rfl)) only [zA, zB, zC, zD, zF, zG, zH, Nat.reduceEqDiff, Nat.reduceLT, Nat.reduceLeDiff, ↓reduceIte, l1, pA, hf, e1, hi1]
      refine hJ _ _ _ ⟨rfl, hp' hpa, ?_⟩
      rw [List.range_succ, List.map_append]
      exact ho'
  · rintro out v H3 ⟨rfl, hp, ho⟩ J
    have l0 := g0 _ hp
    have hw3 := hw.pre (hp1.trans hp)
    obtain ⟨vs, hv, hr⟩ := hw3.1
    obtain ⟨w1, w2, w3, w4⟩ := hv.1.allV
    have hvl : vs.length = wss.length := by rw [hr.1]; simp
    rw [hvl] at w1
    have hi2 : ¬ wM wss < max 1 (min wss.length 12) := Nat.lt_irrefl _
    simp (disch := (first | omega | (simp only [stLen] <;> omega) | (simp only [all_nv]; done) | rfl)) only [zA, zB, zC, zD, zF, zG, zH, Nat.reduceEqDiff, Nat.reduceLT, Nat.reduceLeDiff, ↓reduceIte, l0, w1, hmm, hmx, hi2]
    refine ⟨hp1.trans hp, ?_⟩
    have := ho.mono (H0 := H) (by simp)
    simpa [wdL, Function.comp_def] using this
end
end Go.Sim

namespace Go.Sim
open Go Go.Proofs Kr
def lw (wss : List (List Nat)) (i c : Nat) : Nat := (wss.getD i []).getD c 0
def lo (n : Nat) (w : Nat → Nat → Nat) (j : Nat) : Nat → Nat
  | 0 => 0
  | i + 1 => lo n w j i + 2 * cn i fun y => decide (far n (w i) (w y) = j)
def prs (n : Nat) (w : Nat → Nat → Nat) (i j : Nat) : Nat := (if j = 0 then i else 0) + lo n w j i
theorem cn_le (m : Nat) (p : Nat → Bool) : cn m p ≤ m := by
  induction m with
  | zero => exact Nat.le_refl _
  | succ m ih => simp only [cn]; split <;> omega
theorem lo_le (n : Nat) (w : Nat → Nat → Nat) (j : Nat) : ∀ i, lo n w j i ≤ 2 * i * i := by
  intro i
  induction i with
  | zero => exact Nat.le_refl _
  | succ i ih =>
    have h := cn_le i fun y => decide (far n (w i) (w y) = j)
    simp only [lo]
    have e : 2 * (i + 1) * (i + 1) = 2 * i * i + 2 * i + 2 * (i + 1) := by
      rw [Nat.mul_add, Nat.mul_one, Nat.mul_add 2 i 1, Nat.add_mul]
    omega
theorem prs_le {n i j : Nat} {w : Nat → Nat → Nat} (hi : i ≤ 64) : prs n w i j ≤ 64 + 8192 := by
  have h1 := lo_le n w j i
  have h2 : 2 * i * i ≤ 2 * 64 * 64 := Nat.mul_le_mul (Nat.mul_le_mul_left 2 hi) hi
  unfold prs
  split <;> omega
theorem set_map {n d : Nat} {f g : Nat → Nat} (hd : d < n) (x : Nat) (h : ∀ j, j < n → g j = if j = d then x else f j) : ((List.range n).map f).set d x = (List.range n).map g := by
  refine List.ext_getElem? fun k => ?_
  rw [List.getElem?_set]
  by_cases hk : k < n
  · by_cases e : d = k
    · subst e
      simp [hk, h d hk]
    · simp [hk, e, h k hk, show ¬ k = d from fun h => e h.symm]
  · simp [hk]; intro e; omega
theorem getD_map {n d : Nat} {f : Nat → Nat} (hd : d < n) : ((List.range n).map f).getD d 0 = f d := by
  simp [List.getD_eq_getElem?_getD, hd]
theorem makeF_nat {a m : Nat} (hm : 0 < m) (ha : a ≤ 4611686018427387904) (hm2 : m ≤ 4611686018427387904) : makeF (a : Int) (m : Int) = .tuple [frv (rN a m) (rD a m), nv 0].toArray := by
  unfold makeF
  rw [if_neg (by omega)]
  by_cases h0 : (a : Int) = 0
  · rw [if_pos h0]
    have : a = 0 := by omega
    subst this
    have := red_zero hm
    have e1 : rN ((0 : Nat) : Int) m = 0 := this.1
    have e2 : rD ((0 : Nat) : Int) m = 1 := this.2
    rw [e1, e2]
    rfl
  · rw [if_neg h0]
    have hs : (!(decide ((a : Int) < 0) == decide ((m : Int) < 0))) = false := by rw [fst_bool, decide_eq_false]; omega
    rw [hs]
    have hle := red_le (a := (a : Int)) (m := m)
    rw [show ((a : Nat) : Int).natAbs = a from rfl] at hle
    rw [madeF_fin (a := (a : Int)) (m := m)]
    · unfold finF
      have hc : (rN (a : Int) m).natAbs ≤ 4611686018427387904 ∧ rD (a : Int) m ≤ 4611686018427387904 := ⟨by omega, by omega⟩
      rw [if_pos hc]
    · have hn : ¬ ((a : Nat) : Int) < 0 := by omega
      unfold rN
      rw [if_neg hn]
      rfl
    · rfl
section
variable {H : AH}
def dfs (n m : Nat) (w : Nat → Nat → Nat) : List (Int × Nat) := (List.range (n + 1)).map fun j => (rN (prs n w m j) m, rD (prs n w m j) m)
theorem dist_c {q n : Nat} {v : Value} {wss : List (List Nat)} (hq : 2 ≤ q ∧ q ≤ 16) (hn : n ≤ 24) (hm : 0 < wss.length) (hm2 : wss.length ≤ 64) (hw : ∀ ws ∈ wss, ws.length = n ∧ ∀ x ∈ ws, x < q) (hv : RowR H v (wss.map fun ws => ws.map nv)) :
    FN Try.prog 79 [nv q, nv n, v] H (fun r H' => Pre H H' ∧ ∃ u, r = .tuple [u, nv 0].toArray ∧ AccF H H' u (dfs n wss.length (lw wss))) := by
  refine g79_of ?_
  unfold g79
  refine FZ.use (inRange_c (q := q) (n := n)) ?_
  rw [decide_eq_true (show 2 ≤ (q : Int) ∧ (q : Int) ≤ 16 ∧ 0 ≤ (n : Int) ∧ (n : Int) ≤ 24 by omega)]
  obtain ⟨vs, hv1, hr⟩ := hv
  obtain ⟨w1, w2, w3, w4⟩ := hv1.1.allV
  have hvl : vs.length = wss.length := by rw [hr.1]; simp
  rw [hvl] at w1 w2 w3 w4
  have hl1 : ¬ wss.length < 1 := by omega
  have hl2 : ¬ 64 < wss.length := by omega
  have h8 : 8 * (n + 1) ≤ 281474976710656 := by omega
  simp (disch := (first | omega | (simp only [stLen] <;> omega) | (simp only [all_nv]; done) | rfl)) only [zA, zB, zC, zD, zF, zG, zH, Nat.reduceEqDiff, Nat.reduceLT, Nat.reduceLeDiff, ↓reduceIte, w1, hl1, hl2, xnew_makeN, h8]
  have hrep : (List.replicate (n + 1) 0) = (List.range (n + 1)).map (prs n (lw wss) 0) := by
    refine List.ext_getElem (by simp) fun k h1 h2 => ?_
    simp [prs, lo]
  rw [hrep]
  have hlen : wss.length = wss.length := rfl
  refine loopV1.nat wss.length (fun i x H' => x = nv i ∧ H' = H ++ [.cells (((List.range (n + 1)).map (prs n (lw wss) i)).map nv) 3 none false]) ⟨rfl, rfl⟩ ?_ ?_
  · rintro i x H1 hi ⟨rfl, rfl⟩ J hJ
    have hp := Pre.new H [AB.cells (((List.range (n + 1)).map (prs n (lw wss) i)).map nv) 3 none false]
    have w2' := w2 i hi
    have w4' := fun Y => w4 i Y hi
    have hmem : ∀ k, k < wss.length → wss.getD k [] ∈ wss := by
      intro k hk
      rw [List.getD_eq_getElem?_getD, List.getElem?_eq_getElem hk]; exact List.getElem_mem hk
    have hcs : ∀ k, k < wss.length → (wss.map fun ws => ws.map nv).getD k [] = (wss.getD k []).map nv := by
      intro k hk; simp [List.getD_eq_getElem?_getD, List.getElem?_eq_getElem hk]
    have hrow : ∀ k, k < wss.length → Row H (vs.getD k undef) ((wss.getD k []).map nv) := by
      intro k hk
      have := hr.2 k (by simpa using hk)
      rwa [hcs k hk] at this
    obtain ⟨hln, hlt⟩ := hw _ (hmem i hi)
    have hri := hrow i hi
    simp (disch := (first | omega | (simp only [stLen] <;> omega) | (simp only [all_nv]; done) | rfl)) only [zA, zB, zC, zD, zF, zG, zH, Nat.reduceEqDiff, Nat.reduceLT, Nat.reduceLeDiff, ↓reduceIte, hi, w1, w2', w4']
    refine FZ.use (word_c (hri.pre hp) hln hlt (by omega) hn) ?_
    have hg0 : ((List.range (n + 1)).map (prs n (lw wss) i)).getD 0 0 = prs n (lw wss) i 0 := getD_map (by omega)
    have hl0 : 0 < ((List.range (n + 1)).map (prs n (lw wss) i)).length := by simp
    have hb0 := prs_le (n := n) (j := 0) (w := lw wss) (show i ≤ 64 by omega)
    have hb0' : prs n (lw wss) i 0 + 1 < 100000 := by omega
    simp (disch := (first | omega | (simp only [stLen] <;> omega) | (simp only [all_nv]; done) | rfl)) only [zA, zB, zC, zD, zF, zG, zH, Nat.reduceEqDiff, Nat.reduceLT, Nat.reduceLeDiff, ↓reduceIte, hl0, hg0, hb0']
    have hset : ((List.range (n + 1)).map (prs n (lw wss) i)).set 0 (prs n (lw wss) i 0 + 1) = (List.range (n + 1)).map fun j => prs n (lw wss) i j + (if j = 0 then 1 else 0) + 2 * cn 0 fun y => decide (far n (lw wss i) (lw wss y) = j) := by
      refine set_map (by omega) _ fun j _ => ?_
      by_cases e : j = 0
      · subst e; simp [cn]
      · simp [cn, e]
    rw [hset]
    obtain ⟨v', hu1, hu2⟩ := hv1.1.upto (hi := i) (by omega) (by omega)
    obtain ⟨x1, x2, x3, x4⟩ := hu2.allV
    have hul : (vs.take i).length = i := by simp; omega
    rw [hul] at x1 x2 x3 x4
    simp (disch := (first | omega | (simp only [stLen] <;> omega) | (simp only [all_nv]; done) | rfl)) only [zA, zB, zC, zD, zF, zG, zH, Nat.reduceEqDiff, Nat.reduceLT, Nat.reduceLeDiff, ↓reduceIte, hu1, x1]
    refine loopV1.nat i (fun b x H' => x = nv b ∧ H' = H ++ [.cells (((List.range (n + 1)).map fun j => prs n (lw wss) i j + (if j = 0 then 1 else 0) + 2 * cn b fun y => decide (far n (lw wss i) (lw wss y) = j)).map nv) 3 none false]) ⟨rfl, rfl⟩ ?_ ?_
    · rintro b x H2 hb ⟨rfl, rfl⟩ J2 hJ2
      have x2' := x2 b hb
      have x4' := fun Y => x4 b Y hb
      have hgb : (vs.take i).getD b undef = vs.getD b undef := by
        simp [List.getD_eq_getElem?_getD, List.getElem?_take_of_lt hb]
      rw [hgb] at x4'
      have hrb := hrow b (by omega)
      obtain ⟨hlnb, hltb⟩ := hw _ (hmem b (by omega))
      obtain ⟨a1, a2, a3, a4⟩ := hri.all 0
      obtain ⟨b1, b2, b3, b4⟩ := hrb.all 0
      rw [hln] at a1 a2 a3 a4
      rw [hlnb] at b1 b2 b3 b4
      simp (disch := (first | omega | (simp only [stLen] <;> omega) | (simp only [all_nv]; done) | rfl)) only [zA, zB, zC, zD, zF, zG, zH, Nat.reduceEqDiff, Nat.reduceLT, Nat.reduceLeDiff, ↓reduceIte, hb, x2', x4', a1]
      refine loopV2.nat n (fun k f x H' => x = nv k ∧ H' = H ++ [.cells (((List.range (n + 1)).map fun j => prs n (lw wss) i j + (if j = 0 then 1 else 0) + 2 * cn b fun y => decide (far n (lw wss i) (lw wss y) = j)).map nv) 3 none false] ∧ f = nv (far k (lw wss i) (lw wss b))) ⟨rfl, rfl, rfl⟩ ?_ ?_
      · rintro k f x H3 hk ⟨rfl, rfl, rfl⟩ J3 hJ3
        have a2' := a2 k hk
        have a4' := fun Y => a4 k Y hk
        have b2' := b2 k hk
        have b4' := fun Y => b4 k Y hk
        have hfl := far_le k (lw wss i) (lw wss b)
        have hf1 : far k (lw wss i) (lw wss b) + 1 < 1000 := by omega
        have hk1 : k + 1 < 1000 := by omega
        have h1e : (wss.getD i []).getD k 0 = lw wss i k := rfl
        have h2e : (wss.getD b []).getD k 0 = lw wss b k := rfl
        simp only [h1e, h2e] at a4' b4'
        by_cases he : lw wss i k = lw wss b k
        · have hs : far (k + 1) (lw wss i) (lw wss b) = far k (lw wss i) (lw wss b) := by simp only [far, he, if_true, Nat.add_zero]
          have ne : xbin .neq 0 (nv (lw wss i k)) (nv (lw wss b k)) = some (.bool false) := by simp [xbin, he]
          simp (disch := (first | omega | (simp only [stLen] <;> omega) | (simp only [all_nv]; done) | rfl)) only [zA, zB, zC, zD, zF, zG, zH, Nat.reduceEqDiff, Nat.reduceLT, Nat.reduceLeDiff, ↓reduceIte, hk, a2', a4', b2', b4', ne, hk1]
          exact hJ3 _ _ _ ⟨rfl, rfl, by rw [hs]⟩
        · have hs : far (k + 1) (lw wss i) (lw wss b) = far k (lw wss i) (lw wss b) + 1 := by simp only [far, he, if_false]
          have ne : xbin .neq 0 (nv (lw wss i k)) (nv (lw wss b k)) = some (.bool true) := by simp [xbin]; omega
          simp (disch := (first | omega | (simp only [stLen] <;> omega) | (simp only [all_nv]; done) | rfl)) only [zA, zB, zC, zD, zF, zG, zH, Nat.reduceEqDiff, Nat.reduceLT, Nat.reduceLeDiff, ↓reduceIte, hk, a2', a4', b2', b4', ne, hk1, hf1]
          exact hJ3 _ _ _ ⟨rfl, rfl, by rw [hs]⟩
      · rintro f x H3 ⟨rfl, rfl, rfl⟩ J3
        have hfl := far_le n (lw wss i) (lw wss b)
        have hd : far n (lw wss i) (lw wss b) < n + 1 := by omega
        have hgd := getD_map (f := fun j => prs n (lw wss) i j + (if j = 0 then 1 else 0) + 2 * cn b fun y => decide (far n (lw wss i) (lw wss y) = j)) hd
        have hset : ((List.range (n + 1)).map fun j => prs n (lw wss) i j + (if j = 0 then 1 else 0) + 2 * cn b fun y => decide (far n (lw wss i) (lw wss y) = j)).set (far n (lw wss i) (lw wss b)) ((prs n (lw wss) i (far n (lw wss i) (lw wss b)) + (if far n (lw wss i) (lw wss b) = 0 then 1 else 0) + 2 * cn b fun y => decide (far n (lw wss i) (lw wss y) = far n (lw wss i) (lw wss b))) + 2) = (List.range (n + 1)).map fun j => prs n (lw wss) i j + (if j = 0 then 1 else 0) + 2 * cn (b + 1) fun y => decide (far n (lw wss i) (lw wss y) = j) := by
          refine set_map hd _ fun j _ => ?_
          simp only [cn]
          by_cases e : j = far n (lw wss i) (lw wss b)
          · subst e; simp; omega
          · simp [e, show ¬ far n (lw wss i) (lw wss b) = j from fun h => e h.symm]
        have hbd := prs_le (n := n) (j := far n (lw wss i) (lw wss b)) (w := lw wss) (show i ≤ 64 by omega)
        have hcb := cn_le b fun y => decide (far n (lw wss i) (lw wss y) = far n (lw wss i) (lw wss b))
        generalize hD : far n (lw wss i) (lw wss b) = D at *
        have hX : (prs n (lw wss) i D + (if D = 0 then 1 else 0) + 2 * cn b fun y => decide (far n (lw wss i) (lw wss y) = D)) + 2 < 100000 := by
          split <;> omega
        have hlD : D < ((List.range (n + 1)).map fun j => prs n (lw wss) i j + (if j = 0 then 1 else 0) + 2 * cn b fun y => decide (far n (lw wss i) (lw wss y) = j)).length := by simpa using hd
        generalize (prs n (lw wss) i D + (if D = 0 then 1 else 0) + 2 * cn b fun y => decide (far n (lw wss i) (lw wss y) = D)) = X at *
        have hb1 : b + 1 < 1000 := by omega
        rw [← hset] at hJ2
        generalize ((List.range (n + 1)).map fun j => prs n (lw wss) i j + (if j = 0 then 1 else 0) + 2 * cn b fun y => decide (far n (lw wss i) (lw wss y) = j)) = L at *
        simp (disch := (first | omega | (simp only [stLen] <;> omega) | (simp only [all_nv]; done) | rfl)) only [zA, zB, zC, zD, zF, zG, zH, Nat.reduceEqDiff, Nat.reduceLT, Nat.reduceLeDiff, ↓reduceIte, a1, hlD, hgd, hX, hb1]
        exact hJ2 _ _ ⟨rfl, rfl⟩
    · rintro x H2 ⟨rfl, rfl⟩ J2
      have hi1 : i + 1 < 1000 := by omega
      simp (disch := (first | omega | (simp only [stLen] <;> omega) | (simp only [all_nv]; done) | rfl)) only [zA, zB, zC, zD, zF, zG, zH, Nat.reduceEqDiff, Nat.reduceLT, Nat.reduceLeDiff, ↓reduceIte, x1, hi1]
      refine hJ _ _ ⟨rfl, ?_⟩
      congr 4
      refine List.map_congr_left fun j _ => ?_
      simp only [prs, lo]
      split <;> omega
  · rintro x H1 ⟨rfl, rfl⟩ J
    simp (disch := (first | omega | (simp only [stLen] <;> omega) | (simp only [all_nv]; done) | rfl)) only [zA, zB, zC, zD, zF, zG, zH, Nat.reduceEqDiff, Nat.reduceLT, Nat.reduceLeDiff, ↓reduceIte, w1]
    have hpp := Pre.new H [AB.cells (((List.range (n + 1)).map (prs n (lw wss) wss.length)).map nv) 3 none false]
    obtain ⟨HB, hHB⟩ : ∃ HB, HB = H ++ [AB.cells (((List.range (n + 1)).map (prs n (lw wss) wss.length)).map nv) 3 none false] := ⟨_, rfl⟩
    have hbl : HB[H.length]? = some (.cells (((List.range (n + 1)).map (prs n (lw wss) wss.length)).map nv) 3 none false) := by rw [hHB]; simp
    have hHl : H.length ≤ HB.length := by rw [hHB]; simp
    rw [← hHB] at hpp ⊢
    refine loopV2.nat (n + 1) (fun k out x H' => x = nv k ∧ Pre HB H' ∧ AccF HB H' out ((List.range k).map fun j => (rN (prs n (lw wss) wss.length j) wss.length, rD (prs n (lw wss) wss.length j) wss.length))) ⟨rfl, Pre.refl _, AccF.nil⟩ ?_ ?_
    · rintro k out x H2 hk ⟨rfl, hp, ho⟩ J2 hJ2
      have hrowp : Row H2 (.slice (some ⟨H.length, 0, none⟩) (n + 1) (n + 1)) (((List.range (n + 1)).map (prs n (lw wss) wss.length)).map nv) := Row.of (hp.get hbl) (by simp) (Nat.le_refl _)
      obtain ⟨p1, p2, p3, p4⟩ := hrowp.all 0
      have p2' := p2 k (by simpa using hk)
      have p3' := p3 k (by simpa using hk)
      rw [getD_map hk] at p3'
      have hb := prs_le (n := n) (j := k) (w := lw wss) hm2
      simp (disch := (first | omega | (simp only [stLen] <;> omega) | (simp only [all_nv]; done) | rfl)) only [zA, zB, zC, zD, zF, zG, zH, Nat.reduceEqDiff, Nat.reduceLT, Nat.reduceLeDiff, ↓reduceIte, hk, p2', p3', w1]
      refine FZ.use (rmake_c (n := (prs n (lw wss) wss.length k : Nat)) (d := (wss.length : Nat)) (by omega) (by omega)) ?_
      rw [makeF_nat hm (by omega) (by omega)]
      have eu : frv (rN (prs n (lw wss) wss.length k) wss.length) (rD (prs n (lw wss) wss.length k) wss.length) = .agg #[zv (rN (prs n (lw wss) wss.length k) wss.length), zv (rD (prs n (lw wss) wss.length k) wss.length)] := rfl
      rw [eu]
      simp (disch := (first | omega | (simp only [stLen] <;> omega) | (simp only [all_nv]; done) | rfl)) only [zA, zB, zC, zD, zF, zG, zH, Nat.reduceEqDiff, Nat.reduceLT, Nat.reduceLeDiff, ↓reduceIte]
      rw [stB2 rfl rfl]
      have hx2 : ∀ a b : Int, (xfill [nv 0, nv 0] [(0, 2)] [.agg #[zv a, zv b]]) = some [zv a, zv b] := fun a b => rfl
      have hk1 : k + 1 < 1000 := by omega
      obtain ⟨out', H8, e1, ho', hp', hl'⟩ := (ho.pre (Pre.new H2 [AB.cells [zv (rN (prs n (lw wss) wss.length k) wss.length), zv (rD (prs n (lw wss) wss.length k) wss.length)] 51 none false])).app1 (H := H2 ++ [AB.cells [zv (rN (prs n (lw wss) wss.length k) wss.length), zv (rD (prs n (lw wss) wss.length k) wss.length)] 51 none false]) (by have := hp.len; simp; omega) (rN (prs n (lw wss) wss.length k) wss.length) (rD (prs n (lw wss) wss.length k) wss.length) (by simp; omega)
      simp only [List.append_assoc, List.cons_append, List.nil_append, List.length_append, List.length_cons, List.length_nil, Nat.zero_add] at e1
      simp (disch := (first | omega | (simp only [stLen] <;> omega) | (simp only [all_nv]; done) | rfl)) only [zA, zB, zC, zD, zF, zG, zH, Nat.reduceEqDiff, Nat.reduceLT, Nat.reduceLeDiff, ↓reduceIte, hx2, e1, hk1]
      refine hJ2 _ _ _ ⟨rfl, fun b hb => ?_, ?_⟩
      · rw [hp' b hb, List.getElem?_append_left (by have := hp.len; omega)]; exact hp b hb
      · rw [List.range_succ, List.map_append]; exact ho'
    · rintro out x H2 ⟨rfl, hp, ho⟩ J2
      have hnn : ¬ n + 1 < n + 1 := Nat.lt_irrefl _
      simp (disch := (first | omega | (simp only [stLen] <;> omega) | (simp only [all_nv]; done) | rfl)) only [zA, zB, zC, zD, zF, zG, zH, Nat.reduceEqDiff, Nat.reduceLT, Nat.reduceLeDiff, ↓reduceIte, hnn]
      exact ⟨hpp.trans hp, out, rfl, ho.mono hHl⟩
end
end Go.Sim

namespace Go.Sim
open Go Go.Proofs Kr
def frR (a : Int) (m : Nat) : Value := frv (rN a m) (rD a m)
theorem finF_small {a : Int} {m : Nat} (ha : a.natAbs ≤ 4611686018427387904) (hm2 : m ≤ 4611686018427387904) : finF a m = .tuple [frR a m, nv 0].toArray := by
  have hle := red_le (a := a) (m := m)
  have hc : (rN a m).natAbs ≤ 4611686018427387904 ∧ rD a m ≤ 4611686018427387904 := ⟨by omega, by omega⟩
  unfold finF
  rw [if_pos hc]; rfl
theorem finF_eq {a b : Int} {m l : Nat} (hm : 0 < m) (hl : 0 < l) (h : a * l = b * m) : finF a m = finF b l := by
  obtain ⟨h1, h2⟩ := red_eq hm hl h
  unfold finF
  rw [h1, h2]
theorem frok {a : Int} {m : Nat} (hm : 0 < m) (ha : a.natAbs ≤ 4611686018427387904) (hm2 : m ≤ 4611686018427387904) : FrOK (rN a m) (rD a m) := by
  obtain ⟨_, h2, h3⟩ := red_ok (a := a) hm
  have hle := red_le (a := a) (m := m)
  exact ⟨h3, by omega, by omega, h2⟩
theorem natAbs_mul_le {a b : Int} {x y : Nat} (h1 : a.natAbs ≤ x) (h2 : b.natAbs ≤ y) : (a * b).natAbs ≤ x * y := by
  rw [Int.natAbs_mul]; exact Nat.mul_le_mul h1 h2
section
variable {H : AH} {m : Nat}
theorem radd_r {a b : Int} (hm : 0 < m) (hm2 : m ≤ 4096) (ha : a.natAbs ≤ 1125899906842624) (hb : b.natAbs ≤ 1125899906842624) :
    FN Try.prog 125 [frR a m, frR b m] H (fun r H' => r = .tuple [frR (a + b) m, nv 0].toArray ∧ H' = H) := by
  obtain ⟨e1, _, p1⟩ := red_ok (a := a) hm
  obtain ⟨e2, _, p2⟩ := red_ok (a := b) hm
  have l1 := red_le (a := a) (m := m)
  have l2 := red_le (a := b) (m := m)
  refine FN.mono (radd_c (frok hm (by omega) (by omega)) (frok hm (by omega) (by omega)) ?_) ?_
  · intro y hy hy2
    have b1 : (rN a m * (rD b m / Nat.gcd (rD a m) (rD b m) : Nat)).natAbs ≤ 1125899906842624 * 4096 := by
      refine natAbs_mul_le (by omega) ?_
      have := Nat.div_le_self (rD b m) (Nat.gcd (rD a m) (rD b m))
      rw [Int.natAbs_natCast]; omega
    have b2 : (rN b m * (rD a m / Nat.gcd (rD a m) (rD b m) : Nat)).natAbs ≤ 1125899906842624 * 4096 := by
      refine natAbs_mul_le (by omega) ?_
      have := Nat.div_le_self (rD a m) (Nat.gcd (rD a m) (rD b m))
      rw [Int.natAbs_natCast]; omega
    generalize rN a m * (rD b m / Nat.gcd (rD a m) (rD b m) : Nat) = x at *
    generalize rN b m * (rD a m / Nat.gcd (rD a m) (rD b m) : Nat) = z at *
    have ht : (x + z).natAbs < 18446744073709551616 := by omega
    rw [Nat.div_eq_of_lt ht, Nat.mod_eq_of_lt ht, Nat.zero_mod]
    exact div_short ht hy
  · rintro r H' ⟨rfl, rfl⟩
    refine ⟨?_, rfl⟩
    rw [finF_eq (Nat.mul_pos p1 p2) hm (b := a + b), finF_small (by omega) (by omega)]
    rw [Int.add_mul, Int.mul_right_comm, e1, Int.mul_right_comm (rN b m), e2, Int.natCast_mul, Int.add_mul]
    congr 1
    · rw [Int.mul_assoc]
    · rw [Int.mul_assoc, Int.mul_comm (rD b m : Int)]
theorem rmul_r {a K : Int} (hm : 0 < m) (hm2 : m ≤ 4096) (ha : a.natAbs ≤ 1048576) (hb : K.natAbs ≤ 1073741824) :
    FN Try.prog 126 [frR a m, frv K 1] H (fun r H' => r = .tuple [frR (a * K) m, nv 0].toArray ∧ H' = H) := by
  obtain ⟨e1, _, p1⟩ := red_ok (a := a) hm
  have h := rmul_c (H := H) (n1 := rN a m) (d1 := rD a m) (n2 := K) (d2 := 1) (frok hm (by omega) (by omega)) ⟨by omega, by omega, by omega, Nat.gcd_one_right _⟩
  refine FN.mono h ?_
  rintro r H' ⟨rfl, rfl⟩
  refine ⟨?_, rfl⟩
  have hl := natAbs_mul_le ha hb
  rw [finF_eq (Nat.mul_pos p1 (by omega)) hm (b := a * K), finF_small (by omega) (by omega)]
  rw [Nat.mul_one, Int.mul_right_comm, e1, Int.mul_right_comm]
theorem rdiv_r {a : Int} {b : Nat} (hm : 0 < m) (hm2 : m ≤ 4096) (ha : a.natAbs ≤ 1125899906842624) (hb0 : 0 < b) (hb : b ≤ 1125899906842624) :
    FN Try.prog 127 [frR a m, frR b m] H (fun r H' => r = .tuple [frR a b, nv 0].toArray ∧ H' = H) := by
  obtain ⟨e1, _, p1⟩ := red_ok (a := a) hm
  obtain ⟨e2, _, p2⟩ := red_ok (a := (b : Int)) hm
  have hs := red_sign (a := (b : Int)) hm
  have h := rdiv_c (H := H) (frok (a := a) hm (by omega) (by omega)) (frok (a := (b : Int)) hm (by rw [Int.natAbs_natCast]; omega) (by omega))
  refine FN.mono h ?_
  rintro r H' ⟨rfl, rfl⟩
  refine ⟨?_, rfl⟩
  have h1 : ¬ rN (b : Int) m = 0 := by rw [hs.2]; omega
  have h2 : ¬ rN (b : Int) m < 0 := by rw [hs.1]; omega
  unfold divF
  rw [if_neg h1, if_neg h2]
  have h3 : ((rN (b : Int) m).natAbs : Int) = rN (b : Int) m := by omega
  rw [finF_eq (Nat.mul_pos p1 (by omega)) hb0 (b := a), finF_small (by omega) (by omega)]
  refine Int.eq_of_mul_eq_mul_right (show (m : Int) ≠ 0 by omega) ?_
  rw [Int.natCast_mul, h3]
  calc rN a m * (rD (b : Int) m : Int) * b * m = (rN a m * m) * ((b : Int) * rD (b : Int) m) := by simp only [Int.mul_assoc, Int.mul_left_comm, Int.mul_comm]
    _ = (a * rD a m) * (rN (b : Int) m * m) := by rw [e1, e2]
    _ = a * ((rD a m : Int) * rN (b : Int) m) * m := by simp only [Int.mul_assoc]
end
end Go.Sim

namespace Go.Sim
open Go Go.Proofs Kr
theorem xp_dfr {l : List FuncId} {g : FuncId} {f c : Array Value} (h : l.contains g = true) : xpure (.dfr l) [.func (.func g) f c] = some undef := by
  simp [xpure]; simpa using h
def tk (q n : Nat) (A : Nat → Nat) (k i : Nat) : Int := sm i fun j => A j * Kc q n k j
def tfs (q n m : Nat) (A : Nat → Nat) (k : Nat) : List (Int × Nat) := (List.range k).map fun k => (rN (tk q n A k (n + 1)) (m * m), rD (tk q n A k (n + 1)) (m * m))
def afs (n m : Nat) (A : Nat → Nat) : List (Int × Nat) := (List.range (n + 1)).map fun j => (rN (A j) m, rD (A j) m)
theorem afs_get {n m : Nat} {A : Nat → Nat} {j : Nat} (hj : j < n + 1) : (afs n m A).getD j (0, 0) = (rN (A j) m, rD (A j) m) := by
  simp [afs, List.getD_eq_getElem?_getD, hj]
theorem sumN_le {A : Nat → Nat} {B : Nat} : ∀ i, (∀ j, j < i → A j ≤ B) → sumN i A ≤ i * B := by
  intro i
  induction i with
  | zero => intro _; simp [sumN]
  | succ i ih =>
    intro h
    have h1 := ih fun j hj => h j (by omega)
    have h2 := h i (by omega)
    simp only [sumN]
    rw [Nat.add_mul]; omega
theorem tk_le {q n : Nat} {A : Nat → Nat} {k : Nat} (hq : 2 ≤ q ∧ q ≤ 16) (hn : n ≤ 24) (hk : k ≤ n) (hf : q ^ n ≤ 2 ^ 30) (hA : ∀ j, j ≤ n → A j ≤ 8256) : ∀ i, i ≤ n + 1 → (tk q n A k i).natAbs ≤ i * (8256 * 1073741824) := by
  intro i
  induction i with
  | zero => intro _; simp [tk, sm]
  | succ i ih =>
    intro hi
    have h1 := ih (by omega)
    have h2 : (Kc q n k i).natAbs ≤ 1073741824 := Nat.le_trans (sum_le hq hn hk (by omega) (Nat.le_refl _)) hf
    have h3 := natAbs_mul_le (a := (A i : Int)) (b := Kc q n k i) (x := 8256) (y := 1073741824) (by have := hA i (by omega); omega) h2
    have e : tk q n A k (i + 1) = tk q n A k i + A i * Kc q n k i := rfl
    rw [e, Nat.add_mul]
    omega
section
variable {H : AH}
theorem turned_c {q n m : Nat} {A : Nat → Nat} {v : Value} (hq : 2 ≤ q ∧ q ≤ 16) (hn : n ≤ 24) (hf : q ^ n ≤ 2 ^ 30) (hm : 0 < m) (hm2 : m ≤ 64) (hA : ∀ j, j ≤ n → A j ≤ 8256) (hA0 : 0 < A 0) (hS : sumN (n + 1) A = m * m) (hv : RowF H v (afs n m A)) :
    FN Try.prog 80 [nv q, nv n, v] H (fun r H' => Pre H H' ∧ ∃ u, r = .tuple [u, nv 0].toArray ∧ AccF H H' u (tfs q n m A (n + 1))) := by
  refine g80_of ?_
  unfold g80
  have hfl : (afs n m A).length = n + 1 := by simp [afs]
  obtain ⟨w1, w2, w3, w4, w5, w6, w7⟩ := hv.all
  rw [hfl] at w1 w2 w3 w4 w5 w6 w7
  simp (disch := (first | omega | (simp only [stLen] <;> omega) | (simp only [all_nv]; done) | rfl)) only [zA, zB, zC, zD, zF, zG, zH, Nat.reduceEqDiff, Nat.reduceLT, Nat.reduceLeDiff, ↓reduceIte]
  refine FZ.use (inRange_c (q := q) (n := n)) ?_
  rw [decide_eq_true (show 2 ≤ (q : Int) ∧ (q : Int) ≤ 16 ∧ 0 ≤ (n : Int) ∧ (n : Int) ≤ 24 by omega)]
  simp (disch := (first | omega | (simp only [stLen] <;> omega) | (simp only [all_nv]; done) | rfl)) only [zA, zB, zC, zD, zF, zG, zH, Nat.reduceEqDiff, Nat.reduceLT, Nat.reduceLeDiff, ↓reduceIte]
  refine FZ.use (fits_c hq hn (L := 30) (by omega)) ?_
  rw [decide_eq_true hf]
  have hn1 : n + 1 < 1000 := by omega
  simp (disch := (first | omega | (simp only [stLen] <;> omega) | (simp only [all_nv]; done) | rfl)) only [zA, zB, zC, zD, zF, zG, zH, Nat.reduceEqDiff, Nat.reduceLT, Nat.reduceLeDiff, ↓reduceIte, w1, hn1]
  obtain ⟨X, hX⟩ : ∃ X, X = H ++ [AB.cells [.slice none 0 0] 28 none false, AB.cells [nv 0] 34 none false] := ⟨_, rfl⟩
  have hXl : X.length = H.length + 2 := by rw [hX]; simp
  have hX0 : X[H.length]? = some (.cells [.slice none 0 0] 28 none false) := by rw [hX]; simp
  have hX1 : X[H.length + 1]? = some (.cells [nv 0] 34 none false) := by rw [hX]; simp
  have hHX : Pre H X := by rw [hX]; exact Pre.new _ _
  rw [← hX]
  refine loopV2.nat (n + 1) (fun i z x H' => x = nv i ∧ Pre X H' ∧ z = .bool (decide (i = 0))) ⟨rfl, Pre.refl _, rfl⟩ ?_ ?_
  · rintro i z x H1 hi ⟨rfl, hp, rfl⟩ J hJ
    have hok := frok (a := (A i : Int)) (m := m) hm (by have := hA i (by omega); omega) (by omega)
    have hle := red_le (a := (A i : Int)) (m := m)
    have hAi := hA i (by omega)
    obtain ⟨_, w2, w3, w4, w5, w6, w7⟩ := (hv.pre (hHX.trans hp)).all
    rw [hfl] at w2 w3 w4 w5 w6 w7
    have w2' := w2 i hi
    have w5' := w5 i [] hi
    rw [afs_get hi, List.append_nil] at w5'
    have eu : frv (rN (A i) m) (rD (A i) m) = .agg #[zv (rN (A i) m), zv (rD (A i) m)] := rfl
    simp only [eu] at w5'
    simp (disch := (first | omega | (simp only [stLen] <;> omega) | (simp only [all_nv]; done) | rfl)) only [zA, zB, zC, zD, zF, zG, zH, Nat.reduceEqDiff, Nat.reduceLT, Nat.reduceLeDiff, ↓reduceIte, hi, w2', w5']
    rw [stB2 rfl rfl]
    simp (disch := (first | omega | (simp only [stLen] <;> omega) | (simp only [all_nv]; done) | rfl)) only [zA, zB, zC, zD, zF, zG, zH, Nat.reduceEqDiff, Nat.reduceLT, Nat.reduceLeDiff, ↓reduceIte]
    rw [← eu]
    refine FZ.use (rvalid_c (n := rN (A i) m) (d := rD (A i) m) (by omega) (by omega)) ?_
    have hnn : ¬ rN (A i) m < 0 := by rw [(red_sign hm).1]; omega
    have hzz : rN (A i) m = 0 ↔ A i = 0 := by rw [(red_sign hm).2]; omega
    have hv1 : decide (1 ≤ (rD (A i) m : Int) ∧ (rD (A i) m : Int) ≤ 4611686018427387904 ∧ -4611686018427387904 ≤ rN (A i) m ∧ rN (A i) m ≤ 4611686018427387904 ∧ Nat.gcd (rN (A i) m).natAbs ((rD (A i) m : Nat) : Int).natAbs = 1) = true := by
      rw [decide_eq_true]
      exact ⟨by have := hok.pos; omega, by have := hok.le; omega, by omega, by omega, by rw [Int.natAbs_natCast]; exact hok.cop⟩
    rw [hv1]
    have e1 : xbin .lss 0 (zv (rN (A i) m)) (nv 0) = some (.bool false) := by simp [xbin]; omega
    have e2 : xbin .gtr 0 (zv (rN (A i) m)) (nv 1048576) = some (.bool false) := by simp [xbin]; omega
    have e3 : xbin .gtr 0 (zv (rD (A i) m)) (nv 1048576) = some (.bool false) := by simp [xbin]; omega
    have e4 : xbin .eql 0 (zv (rN (A i) m)) (nv 0) = some (.bool (decide (A i = 0))) := by
      simp only [xbin, if_true]; congr 2; rw [Bool.eq_iff_iff]; simp [hzz]
    have hi1 : i + 1 < 1000 := by omega
    by_cases h0 : i = 0
    · subst h0
      have e5 : decide (A 0 = 0) = false := by rw [decide_eq_false]; omega
      rw [e5] at e4
      simp (disch := (first | omega | (simp only [stLen] <;> omega) | (simp only [all_nv]; done) | rfl)) only [zA, zB, zC, zD, zF, zG, zH, Nat.reduceEqDiff, Nat.reduceLT, Nat.reduceLeDiff, ↓reduceIte, e1, e2, e3, e4, hi1]
      exact hJ _ _ _ ⟨rfl, hp.app _, rfl⟩
    · have e5 : decide (i = 0) = false := by rw [decide_eq_false]; exact h0
      simp (disch := (first | omega | (simp only [stLen] <;> omega) | (simp only [all_nv]; done) | rfl)) only [zA, zB, zC, zD, zF, zG, zH, Nat.reduceEqDiff, Nat.reduceLT, Nat.reduceLeDiff, ↓reduceIte, e1, e2, e3, e5, hi1]
      exact hJ _ _ _ ⟨rfl, hp.app _, by rw [decide_eq_false]; omega⟩
  rintro z x H1 ⟨rfl, hp, rfl⟩ J
  have hz : decide (n + 1 = 0) = false := by rw [decide_eq_false]; omega
  have hfn : xpure (.fn 123 0 2) [.pointer (some ⟨H.length, 0, none⟩), .pointer (some ⟨H.length + 1, 0, none⟩)] = some (.func (.func 123) #[] #[.pointer (some ⟨H.length, 0, none⟩), .pointer (some ⟨H.length + 1, 0, none⟩)]) := rfl
  have hdf : xpure (.dfr [123]) [.func (.func 123) #[] #[.pointer (some ⟨H.length, 0, none⟩), .pointer (some ⟨H.length + 1, 0, none⟩)]] = some undef := xp_dfr rfl
  have hx1 : (xfill [nv 0, nv 0] [(1, 1)] [nv 1]) = some [nv 0, nv 1] := rfl
  simp (disch := (first | omega | (simp only [stLen] <;> omega) | (simp only [all_nv]; done) | rfl)) only [zA, zB, zC, zD, zF, zG, zH, Nat.reduceEqDiff, Nat.reduceLT, Nat.reduceLeDiff, ↓reduceIte, hz, hfn, hdf, hx1]
  rw [stB2 rfl rfl]
  simp (disch := (first | omega | (simp only [stLen] <;> omega) | (simp only [all_nv]; done) | rfl)) only [zA, zB, zC, zD, zF, zG, zH, Nat.reduceEqDiff, Nat.reduceLT, Nat.reduceLeDiff, ↓reduceIte, w1]
  have eu : ∀ (a : Int) (m : Nat), frR a m = .agg #[zv (rN a m), zv (rD a m)] := fun _ _ => rfl
  have hHH1 : Pre H H1 := hHX.trans hp
  have hlH1 : H.length + 2 ≤ H1.length := by have := hp.len; omega
  have hm4 : m ≤ 4096 := by omega
  have hSle : ∀ i, i ≤ n + 1 → sumN i A ≤ i * 8256 := fun i hi => sumN_le i fun j hj => hA j (by omega)
  refine loopV1.nat (n + 1) (fun i x H' => x = nv i ∧ Pre H1 H' ∧ H'[H1.length]? = some (.cells [zv (rN (sumN i A : Nat) m), zv (rD (sumN i A : Nat) m)] 51 none false)) ⟨rfl, Pre.new _ _, ?_⟩ ?_ ?_
  · have h0 := red_zero hm
    have e1 : rN ((sumN 0 A : Nat) : Int) m = 0 := h0.1
    have e2 : rD ((sumN 0 A : Nat) : Int) m = 1 := h0.2
    rw [e1, e2]
    simp
  · rintro i x H2 hi ⟨rfl, hp2, hmc⟩ J2 hJ2
    have hAi := hA i (by omega)
    have hSi := hSle i (by omega)
    obtain ⟨_, w2, w3, w4, w5, w6, w7⟩ := (hv.pre (hHH1.trans hp2)).all
    rw [hfl] at w2 w3 w4 w5 w6 w7
    have w2' := w2 i hi
    have w5' := w5 i [] hi
    rw [afs_get hi, List.append_nil] at w5'
    have eu' : frv (rN (A i) m) (rD (A i) m) = .agg #[zv (rN (A i) m), zv (rD (A i) m)] := rfl
    simp only [eu'] at w5'
    have hmcY : ∀ Y, (H2 ++ Y)[H1.length]? = some (.cells [zv (rN (sumN i A : Nat) m), zv (rD (sumN i A : Nat) m)] 51 none false) := fun Y => get_app hmc Y
    have hi1 : i + 1 < 1000 := by omega
    simp (disch := (first | omega | (simp only [stLen] <;> omega) | (simp only [all_nv]; done) | rfl)) only [zA, zB, zC, zD, zF, zG, zH, Nat.reduceEqDiff, Nat.reduceLT, Nat.reduceLeDiff, ↓reduceIte, hi, w2', w5']
    rw [stB2 rfl rfl]
    simp (disch := (first | omega | (simp only [stLen] <;> omega) | (simp only [all_nv]; done) | rfl)) only [zA, zB, zC, zD, zF, zG, zH, Nat.reduceEqDiff, Nat.reduceLT, Nat.reduceLeDiff, ↓reduceIte, hmcY]
    rw [← eu, ← eu]
    refine FZ.use (radd_r hm hm4 (a := (sumN i A : Nat)) (b := (A i : Nat)) (by omega) (by omega)) ?_
    simp (disch := (first | omega | (simp only [stLen] <;> omega) | (simp only [all_nv]; done) | rfl)) only [zA, zB, zC, zD, zF, zG, zH, Nat.reduceEqDiff, Nat.reduceLT, Nat.reduceLeDiff, ↓reduceIte]
    refine FZ.use must_c ?_
    have hS1 : ((sumN i A : Nat) : Int) + (A i : Nat) = ((sumN (i + 1) A : Nat) : Int) := rfl
    rw [hS1]
    have e3 : frv (rN (sumN (i + 1) A : Nat) m) (rD (sumN (i + 1) A : Nat) m) = .agg #[zv (rN (sumN (i + 1) A : Nat) m), zv (rD (sumN (i + 1) A : Nat) m)] := rfl
    rw [e3]
    simp (disch := (first | omega | (simp only [stLen] <;> omega) | (simp only [all_nv]; done) | rfl)) only [zA, zB, zC, zD, zF, zG, zH, Nat.reduceEqDiff, Nat.reduceLT, Nat.reduceLeDiff, ↓reduceIte, hmcY]
    rw [stB2 rfl rfl]
    simp (disch := (first | omega | (simp only [stLen] <;> omega) | (simp only [all_nv]; done) | rfl)) only [zA, zB, zC, zD, zF, zG, zH, Nat.reduceEqDiff, Nat.reduceLT, Nat.reduceLeDiff, ↓reduceIte, hi1]
    have hl2 := get_lt hmc
    refine hJ2 _ _ ⟨rfl, fun b hb => ?_, ?_⟩
    · rw [List.getElem?_set_ne (by omega), List.getElem?_append_left (by omega)]; exact hp2 b hb
    · rw [List.getElem?_set_self (by simp; omega)]
  rintro x H2 ⟨rfl, hp2, hmc⟩ J2
  rw [hS] at hmc
  have hnn : ¬ n + 1 < n + 1 := Nat.lt_irrefl _
  simp (disch := (first | omega | (simp only [stLen] <;> omega) | (simp only [all_nv]; done) | rfl)) only [zA, zB, zC, zD, zF, zG, zH, Nat.reduceEqDiff, Nat.reduceLT, Nat.reduceLeDiff, ↓reduceIte, hnn, w1, hn1]
  obtain ⟨HM, hHM⟩ : ∃ HM : AH, HM.length = H1.length + 1 := ⟨H1 ++ [.dead], by simp⟩
  have hl2 := get_lt hmc
  refine loopV1.nat (n + 1) (fun k x H' => x = nv k ∧ (∀ b, b < H1.length → b ≠ H.length → H'[b]? = H1[b]?) ∧ H'[H1.length]? = some (.cells [zv (rN (m * m : Nat) m), zv (rD (m * m : Nat) m)] 51 none false) ∧ ∃ u, H'[H.length]? = some (.cells [u] 28 none false) ∧ H1.length + 1 ≤ H'.length ∧ AccF HM H' u (tfs q n m A k)) ⟨rfl, fun b hb _ => hp2 b hb, hmc, .slice none 0 0, by rw [hp2 _ (by omega)]; exact hp.get hX0, by omega, AccF.nil⟩ ?_ ?_
  · rintro k x H4 hk ⟨rfl, ho4, hm4c, u, hu, hl4, hacc⟩ J3 hJ3
    have hPH4 : Pre H H4 := fun b hb => by rw [ho4 b (by omega) (by omega)]; exact hHH1 b hb
    have hkn : k ≤ n := by omega
    have hk1 : k + 1 < 1000 := by omega
    simp (disch := (first | omega | (simp only [stLen] <;> omega) | (simp only [all_nv]; done) | rfl)) only [zA, zB, zC, zD, zF, zG, zH, Nat.reduceEqDiff, Nat.reduceLT, Nat.reduceLeDiff, ↓reduceIte, hk, hx1]
    rw [stB2 rfl rfl]
    simp (disch := (first | omega | (simp only [stLen] <;> omega) | (simp only [all_nv]; done) | rfl)) only [zA, zB, zC, zD, zF, zG, zH, Nat.reduceEqDiff, Nat.reduceLT, Nat.reduceLeDiff, ↓reduceIte, w1]
    refine loopV1.nat (n + 1) (fun i x H' => x = nv i ∧ Pre H4 H' ∧ H'[H4.length]? = some (.cells [zv (rN (tk q n A k i) m), zv (rD (tk q n A k i) m)] 51 none false)) ⟨rfl, Pre.new _ _, ?_⟩ ?_ ?_
    · have h0 := red_zero hm
      have e1 : rN (tk q n A k 0) m = 0 := h0.1
      have e2 : rD (tk q n A k 0) m = 1 := h0.2
      rw [e1, e2]
      simp
    · rintro i x H5 hi ⟨rfl, hp5, hsc⟩ J4 hJ4
      have hAi := hA i (by omega)
      have hin : i ≤ n := by omega
      have hti := tk_le hq hn hkn hf hA i (by omega)
      have hti1 := tk_le hq hn hkn hf hA (i + 1) (by omega)
      have hK : (Kc q n k i).natAbs ≤ 1073741824 := Nat.le_trans (sum_le hq hn hkn hin (Nat.le_refl _)) hf
      obtain ⟨_, w2, w3, w4, w5, w6, w7⟩ := (hv.pre (hPH4.trans hp5)).all
      rw [hfl] at w2 w3 w4 w5 w6 w7
      have w2' := w2 i hi
      have w5' := w5 i [] hi
      rw [afs_get hi, List.append_nil] at w5'
      have eu' : frv (rN (A i) m) (rD (A i) m) = .agg #[zv (rN (A i) m), zv (rD (A i) m)] := rfl
      simp only [eu'] at w5'
      have hscY : ∀ Y, (H5 ++ Y)[H4.length]? = some (.cells [zv (rN (tk q n A k i) m), zv (rD (tk q n A k i) m)] 51 none false) := fun Y => get_app hsc Y
      have hi1 : i + 1 < 1000 := by omega
      simp (disch := (first | omega | (simp only [stLen] <;> omega) | (simp only [all_nv]; done) | rfl)) only [zA, zB, zC, zD, zF, zG, zH, Nat.reduceEqDiff, Nat.reduceLT, Nat.reduceLeDiff, ↓reduceIte, hi, w2', w5']
      rw [stB2 rfl rfl]
      simp (disch := (first | omega | (simp only [stLen] <;> omega) | (simp only [all_nv]; done) | rfl)) only [zA, zB, zC, zD, zF, zG, zH, Nat.reduceEqDiff, Nat.reduceLT, Nat.reduceLeDiff, ↓reduceIte, hscY]
      refine FZ.use (value_c hq hn hkn hin (by omega)) ?_
      have hxK : (xfill [nv 0, nv 0] [(0, 1), (1, 1)] [zv (Kc q n k i), nv 1]) = some [zv (Kc q n k i), nv 1] := rfl
      simp (disch := (first | omega | (simp only [stLen] <;> omega) | (simp only [all_nv]; done) | rfl)) only [zA, zB, zC, zD, zF, zG, zH, Nat.reduceEqDiff, Nat.reduceLT, Nat.reduceLeDiff, ↓reduceIte, hscY, hxK]
      rw [← eu ((A i : Nat) : Int) m]
      rw [show Value.agg #[zv (Kc q n k i), nv 1] = frv (Kc q n k i) 1 from rfl]
      refine FZ.use (rmul_r hm hm4 (a := (A i : Nat)) (K := Kc q n k i) (by omega) hK) ?_
      simp (disch := (first | omega | (simp only [stLen] <;> omega) | (simp only [all_nv]; done) | rfl)) only [zA, zB, zC, zD, zF, zG, zH, Nat.reduceEqDiff, Nat.reduceLT, Nat.reduceLeDiff, ↓reduceIte, hscY]
      rw [show frR ((A i : Nat) * Kc q n k i) m = frv (rN ((A i : Nat) * Kc q n k i) m) (rD ((A i : Nat) * Kc q n k i) m) from rfl]
      refine FZ.use must_c ?_
      rw [show frv (rN ((A i : Nat) * Kc q n k i) m) (rD ((A i : Nat) * Kc q n k i) m) = frR ((A i : Nat) * Kc q n k i) m from rfl]
      simp (disch := (first | omega | (simp only [stLen] <;> omega) | (simp only [all_nv]; done) | rfl)) only [zA, zB, zC, zD, zF, zG, zH, Nat.reduceEqDiff, Nat.reduceLT, Nat.reduceLeDiff, ↓reduceIte, hscY]
      have hAK := natAbs_mul_le (a := (A i : Int)) (b := Kc q n k i) (x := 8256) (y := 1073741824) (by omega) hK
      have hS1 : tk q n A k i + (A i : Nat) * Kc q n k i = tk q n A k (i + 1) := rfl
      have hstep : ∀ G : AH, FN Try.prog 125 [frR (tk q n A k i) m, frR ((A i : Nat) * Kc q n k i) m] G (fun r H' => r = .tuple [frR (tk q n A k (i + 1)) m, nv 0].toArray ∧ H' = G) := fun G => by
        rw [← hS1]; exact radd_r hm hm4 (by omega) (by omega)
      rw [← eu (tk q n A k i) m]
      refine FZ.use (hstep _) ?_
      simp (disch := (first | omega | (simp only [stLen] <;> omega) | (simp only [all_nv]; done) | rfl)) only [zA, zB, zC, zD, zF, zG, zH, Nat.reduceEqDiff, Nat.reduceLT, Nat.reduceLeDiff, ↓reduceIte, hscY]
      rw [show frR (tk q n A k (i + 1)) m = frv (rN (tk q n A k (i + 1)) m) (rD (tk q n A k (i + 1)) m) from rfl]
      refine FZ.use must_c ?_
      rw [show frv (rN (tk q n A k (i + 1)) m) (rD (tk q n A k (i + 1)) m) = .agg #[zv (rN (tk q n A k (i + 1)) m), zv (rD (tk q n A k (i + 1)) m)] from rfl]
      simp (disch := (first | omega | (simp only [stLen] <;> omega) | (simp only [all_nv]; done) | rfl)) only [zA, zB, zC, zD, zF, zG, zH, Nat.reduceEqDiff, Nat.reduceLT, Nat.reduceLeDiff, ↓reduceIte, hscY]
      rw [stB2 rfl rfl]
      simp (disch := (first | omega | (simp only [stLen] <;> omega) | (simp only [all_nv]; done) | rfl)) only [zA, zB, zC, zD, zF, zG, zH, Nat.reduceEqDiff, Nat.reduceLT, Nat.reduceLeDiff, ↓reduceIte, hi1]
      have hl5 := get_lt hsc
      refine hJ4 _ _ ⟨rfl, fun b hb => ?_, ?_⟩
      · rw [List.getElem?_set_ne (by omega), List.getElem?_append_left (by omega)]; exact hp5 b hb
      · rw [List.getElem?_set_self (by simp; omega)]
    · rintro x H5 ⟨rfl, hp5, hsc⟩ J4
      have hu5 := hp5.get hu
      have hm5 := hp5.get hm4c
      have hl5 := get_lt hsc
      have hacc5 := hacc.pre hp5
      have hone := hacc5.row.one
      have hcell := hacc5.row.cells
      have htn := tk_le hq hn hkn hf hA (n + 1) (Nat.le_refl _)
      have hmm : 0 < m * m := Nat.mul_pos hm hm
      have hmm2 : m * m ≤ 64 * 64 := Nat.mul_le_mul hm2 hm2
      simp (disch := (first | omega | (simp only [stLen] <;> omega) | (simp only [all_nv]; done) | rfl)) only [zA, zB, zC, zD, zF, zG, zH, Nat.reduceEqDiff, Nat.reduceLT, Nat.reduceLeDiff, ↓reduceIte, hnn, hu5, hsc, hm5]
      rw [← eu, ← eu]
      refine FZ.use (rdiv_r (a := tk q n A k (n + 1)) (b := m * m) hm hm4 (by omega) hmm (by omega)) ?_
      simp (disch := (first | omega | (simp only [stLen] <;> omega) | (simp only [all_nv]; done) | rfl)) only [zA, zB, zC, zD, zF, zG, zH, Nat.reduceEqDiff, Nat.reduceLT, Nat.reduceLeDiff, ↓reduceIte, hu5]
      rw [show frR (tk q n A k (n + 1)) (m * m) = frv (rN (tk q n A k (n + 1)) (m * m)) (rD (tk q n A k (n + 1)) (m * m)) from rfl]
      refine FZ.use must_c ?_
      have hx2 : (xfill [nv 0, nv 0] [(0, 2)] [frv (rN (tk q n A k (n + 1)) (m * m)) (rD (tk q n A k (n + 1)) (m * m))]) = some [zv (rN (tk q n A k (n + 1)) (m * m)), zv (rD (tk q n A k (n + 1)) (m * m))] := rfl
      have hHM5 : HM.length ≤ H5.length := by have := hp5.len; omega
      have hlk : (tfs q n m A k).length = k := by simp [tfs]
      obtain ⟨u', H8, e8, ho8, hp8, hl8⟩ := hacc5.app1 hHM5 (rN (tk q n A k (n + 1)) (m * m)) (rD (tk q n A k (n + 1)) (m * m)) (by rw [hlk]; omega)
      have hu5Y : ∀ Y, (H5 ++ Y)[H.length]? = some (.cells [u] 28 none false) := fun Y => get_app hu5 Y
      have hu8 : H8[H.length]? = some (.cells [u] 28 none false) := by rw [hp8 _ (by omega)]; exact hu5
      have hst := st_cell (k := 0) (v := u') hu8 (by simp) ho8.row.cells ho8.row.one
      rw [show (List.set [u] 0 u') = [u'] from rfl] at hst
      simp (disch := (first | omega | (simp only [stLen] <;> omega) | (simp only [all_nv]; done) | rfl)) only [zA, zB, zC, zD, zF, zG, zH, Nat.reduceEqDiff, Nat.reduceLT, Nat.reduceLeDiff, ↓reduceIte, hu5, hu5Y, hx2, e8, hst, hk1]
      refine hJ3 _ _ ⟨rfl, fun b hb hne => ?_, ?_, u', ?_, by simp; omega, ?_⟩
      · rw [List.getElem?_set_ne (Ne.symm hne), hp8 b (by omega), hp5 b (by omega)]; exact ho4 b hb hne
      · rw [List.getElem?_set_ne (by omega), hp8 _ (by omega)]; exact hm5
      · rw [List.getElem?_set_self (by omega)]
      · have ho9 : AccF HM H8 u' (tfs q n m A (k + 1)) := by
          have e : tfs q n m A (k + 1) = tfs q n m A k ++ [(rN (tk q n A k (n + 1)) (m * m), rD (tk q n A k (n + 1)) (m * m))] := by
            simp [tfs, List.range_succ]
          rw [e]; exact ho8
        exact ho9.keep fun b hb _ => by rw [List.getElem?_set_ne (by omega)]
  · rintro x H4 ⟨rfl, ho4, hm4c, u, hu, hl4, hacc⟩ J3
    have hone := hacc.row.one
    have hcell := hacc.row.cells
    have hst := st_cell (k := 0) (v := u) hu (by simp) hcell hone
    rw [show (List.set [u] 0 u) = [u] from rfl] at hst
    have he4 : H4[H.length + 1]? = some (.cells [nv 0] 34 none false) := by rw [ho4 _ (by omega) (by omega), hp _ (by omega)]; exact hX1
    have hlH4 : H.length < H4.length := by omega
    have hu9 : (H4.set H.length (.cells [u] 28 none false))[H.length]? = some (.cells [u] 28 none false) := List.getElem?_set_self hlH4
    have he9 : (H4.set H.length (.cells [u] 28 none false))[H.length + 1]? = some (.cells [nv 0] 34 none false) := by rw [List.getElem?_set_ne (by omega)]; exact he4
    have hst2 := st_cell (k := 0) (v := nv 0) he9 (by simp) rfl rfl
    rw [show (List.set [nv 0] 0 (nv 0)) = [nv 0] from rfl] at hst2
    have hu10 : ((H4.set H.length (.cells [u] 28 none false)).set (H.length + 1) (.cells [nv 0] 34 none false))[H.length]? = some (.cells [u] 28 none false) := by rw [List.getElem?_set_ne (by omega)]; exact hu9
    have he10 : ((H4.set H.length (.cells [u] 28 none false)).set (H.length + 1) (.cells [nv 0] 34 none false))[H.length + 1]? = some (.cells [nv 0] 34 none false) := List.getElem?_set_self (by simp; omega)
    simp (disch := (first | omega | (simp only [stLen] <;> omega) | (simp only [all_nv]; done) | rfl)) only [zA, zB, zC, zD, zF, zG, zH, Nat.reduceEqDiff, Nat.reduceLT, Nat.reduceLeDiff, ↓reduceIte, hnn, hu, hst, hst2, hu10, he10]
    refine ⟨fun b hb => ?_, u, rfl, ?_⟩
    · rw [List.getElem?_set_ne (by omega), List.getElem?_set_ne (by omega), ho4 b (by omega) (by omega)]; exact hHH1 b hb
    · refine (hacc.keep fun b hb _ => ?_).mono (by omega)
      rw [List.getElem?_set_ne (by omega), List.getElem?_set_ne (by omega)]
end
end Go.Sim

namespace Go.Sim
open Go Go.Proofs Kr
section
variable {H : AH}
theorem xfill_fr {u : Value} (hc : cellsL u = [u]) : (xfill [.slice none 0 0, nv 0] [(0, 1), (1, 1)] [u, nv 0]) = some [u, nv 0] := by
  rw [xfill_one hc (by simp)]; rfl
theorem stB2u {H : AH} {u : Value} {b : Nat} {e : TypeId} (h1 : one u = true) : stB 2 H (some (.cells [.slice none 0 0, nv 0] e none false)) b 0 (.agg #[u, nv 0]) = some (undef, H.set b (.cells [u, nv 0] e none false)) := stB2 h1 rfl
theorem distances_c {q n : Nat} {v : Value} {wss : List (List Nat)} (hq : 2 ≤ q ∧ q ≤ 16) (hn : n ≤ 24) (hm : 0 < wss.length) (hm2 : wss.length ≤ 64) (hw : ∀ ws ∈ wss, ws.length = n ∧ ∀ x ∈ ws, x < q) (hv : RowR H v (wss.map fun ws => ws.map nv)) :
    FN Try.prog 23 [nv q, nv n, v] H (fun r H' => Pre H H' ∧ ∃ u, r = .agg [u, nv 0].toArray ∧ AccF H H' u (dfs n wss.length (lw wss))) := by
  refine g23_of ?_
  unfold g23
  have hp1 := Pre.new H [AB.cells [.slice none 0 0, nv 0] 36 none false]
  simp (disch := (first | omega | (simp only [stLen] <;> omega) | (simp only [all_nv]; done) | rfl)) only [zA, zB, zC, zD, zF, zG, zH, Nat.reduceEqDiff, Nat.reduceLT, Nat.reduceLeDiff, ↓reduceIte]
  refine FZ.mono (dist_c hq hn hm hm2 hw (hv.pre hp1)) ?_
  rintro _ H2 ⟨hp, u, rfl, ho⟩
  have hc : H2[H.length]? = some (.cells [.slice none 0 0, nv 0] 36 none false) := hp.get (by simp)
  have hx := xfill_fr ho.row.cells
  have hl := get_lt hc
  simp (disch := (first | omega | (simp only [stLen] <;> omega) | (simp only [all_nv]; done) | rfl)) only [zA, zB, zC, zD, zF, zG, zH, Nat.reduceEqDiff, Nat.reduceLT, Nat.reduceLeDiff, ↓reduceIte, hx, hc]
  rw [stB2u ho.row.one]
  have h9 : (H2.set H.length (.cells [u, nv 0] 36 none false))[H.length]? = some (.cells [u, nv 0] 36 none false) := List.getElem?_set_self hl
  simp (disch := (first | omega | (simp only [stLen] <;> omega) | (simp only [all_nv]; done) | rfl)) only [zA, zB, zC, zD, zF, zG, zH, Nat.reduceEqDiff, Nat.reduceLT, Nat.reduceLeDiff, ↓reduceIte, h9]
  refine ⟨(hp1.trans hp).set (Nat.le_refl _) _, u, rfl, ?_⟩
  refine (ho.keep fun b hb _ => ?_).mono (by simp)
  rw [List.getElem?_set_ne (by simp at hb; omega)]
theorem lturned_c {q n m : Nat} {A : Nat → Nat} {v : Value} (hq : 2 ≤ q ∧ q ≤ 16) (hn : n ≤ 24) (hf : q ^ n ≤ 2 ^ 30) (hm : 0 < m) (hm2 : m ≤ 64) (hA : ∀ j, j ≤ n → A j ≤ 8256) (hA0 : 0 < A 0) (hS : sumN (n + 1) A = m * m) (hv : RowF H v (afs n m A)) :
    FN Try.prog 24 [nv q, nv n, v] H (fun r H' => Pre H H' ∧ ∃ u, r = .agg [u, nv 0].toArray ∧ AccF H H' u (tfs q n m A (n + 1))) := by
  refine g24_of ?_
  unfold g24
  have hp1 := Pre.new H [AB.cells [.slice none 0 0, nv 0] 36 none false]
  simp (disch := (first | omega | (simp only [stLen] <;> omega) | (simp only [all_nv]; done) | rfl)) only [zA, zB, zC, zD, zF, zG, zH, Nat.reduceEqDiff, Nat.reduceLT, Nat.reduceLeDiff, ↓reduceIte]
  refine FZ.mono (turned_c hq hn hf hm hm2 hA hA0 hS (hv.pre hp1)) ?_
  rintro _ H2 ⟨hp, u, rfl, ho⟩
  have hc : H2[H.length]? = some (.cells [.slice none 0 0, nv 0] 36 none false) := hp.get (by simp)
  have hx := xfill_fr ho.row.cells
  have hl := get_lt hc
  simp (disch := (first | omega | (simp only [stLen] <;> omega) | (simp only [all_nv]; done) | rfl)) only [zA, zB, zC, zD, zF, zG, zH, Nat.reduceEqDiff, Nat.reduceLT, Nat.reduceLeDiff, ↓reduceIte, hx, hc]
  rw [stB2u ho.row.one]
  have h9 : (H2.set H.length (.cells [u, nv 0] 36 none false))[H.length]? = some (.cells [u, nv 0] 36 none false) := List.getElem?_set_self hl
  simp (disch := (first | omega | (simp only [stLen] <;> omega) | (simp only [all_nv]; done) | rfl)) only [zA, zB, zC, zD, zF, zG, zH, Nat.reduceEqDiff, Nat.reduceLT, Nat.reduceLeDiff, ↓reduceIte, h9]
  refine ⟨(hp1.trans hp).set (Nat.le_refl _) _, u, rfl, ?_⟩
  refine (ho.keep fun b hb _ => ?_).mono (by simp)
  rw [List.getElem?_set_ne (by simp at hb; omega)]
end
end Go.Sim

namespace Go.Sim
open Go Go.Proofs Kr
section
variable {H : AH}
noncomputable instance {q n m : Nat} {w : Nat → Nat → Nat} {k : Nat} : Decidable (evenP q n m w k) := Classical.propDecidable _
theorem even_c {q n k : Nat} {l : Value} {wss : List (List Nat)} (hq : 2 ≤ q ∧ q ≤ 4) (hn : n ≤ 6) (hk : k ≤ n) (hm2 : wss.length ≤ 64) (hw : ∀ ws ∈ wss, ws.length = n ∧ ∀ x ∈ ws, x < q) (hl : RowR H l (wss.map fun ws => ws.map nv)) :
    FN Try.prog 28 [.agg [nv q, nv n].toArray, l, nv k] H (fun r H' => r = .bool (decide (evenP q n wss.length (lw wss) k)) ∧ H' = H) := by
  refine FN.pre0' (g28_of ?_) rfl
  unfold g28
  have ec : cellsL (.agg [nv q, nv n].toArray) = [nv q, nv n] := rfl
  have p0 : xpure (.ixA 2 1) [.pointer (some ⟨H.length, 0, none⟩), nv 0] = some (.pointer (some ⟨H.length, 0, none⟩)) := rfl
  have p1 : xpure (.ixA 2 1) [.pointer (some ⟨H.length, 0, none⟩), nv 1] = some (.pointer (some ⟨H.length, 1, none⟩)) := rfl
  have hqk : q ^ k ≤ 4096 := Nat.le_trans (Nat.pow_le_pow_left hq.2 k) (Nat.le_trans (Nat.pow_le_pow_right (by omega) (show k ≤ 6 by omega)) (by decide))
  have hqk0 : 0 < q ^ k := Nat.pow_pos (by omega)
  have hHX := Pre.new H [AB.cells [nv q, nv n] 25 none false]
  obtain ⟨vs, hv1, hr⟩ := hl
  have hvl : vs.length = wss.length := by rw [hr.1]; simp
  obtain ⟨w1, w2, w3, w4⟩ := hv1.1.allV
  rw [hvl] at w1 w2 w3 w4
  simp (disch := (first | omega | (simp only [stLen] <;> omega) | (simp only [all_nv]; done) | rfl)) only [zA, zB, zC, zD, zF, zG, zH, Nat.reduceEqDiff, Nat.reduceLT, Nat.reduceLeDiff, ↓reduceIte, ec, p0, w1]
  refine FZ.use (rpow_c (by omega) (by omega) (by omega)) ?_
  have hfalse : ∀ H' : AH, Pre H H' → ¬ evenP q n wss.length (lw wss) k → Pre H H' ∧ Value.bool false = Value.bool (decide (evenP q n wss.length (lw wss) k)) := fun H' hp h => ⟨hp, by rw [decide_eq_false h]⟩
  by_cases hd : wss.length % q ^ k = 0
  · simp (disch := (first | omega | (simp only [stLen] <;> omega) | (simp only [all_nv]; done) | rfl)) only [zA, zB, zC, zD, zF, zG, zH, Nat.reduceEqDiff, Nat.reduceLT, Nat.reduceLeDiff, ↓reduceIte, hqk0, hd, w1, p0]
    refine FZ.use (rpow_c (by omega) (by omega) (by omega)) ?_
    have hwl : wss.length / q ^ k ≤ wss.length := Nat.div_le_self _ _
    simp (disch := (first | omega | (simp only [stLen] <;> omega) | (simp only [all_nv]; done) | rfl)) only [zA, zB, zC, zD, zF, zG, zH, Nat.reduceEqDiff, Nat.reduceLT, Nat.reduceLeDiff, ↓reduceIte, hqk0]
    generalize hW : wss.length / q ^ k = W at *
    obtain ⟨X, hX⟩ : ∃ X, X = H ++ [AB.cells [nv q, nv n] 25 none false] := ⟨_, rfl⟩
    have hX0 : X[H.length]? = some (.cells [nv q, nv n] 25 none false) := by rw [hX]; simp
    rw [← hX] at hHX ⊢
    have h2n : 2 ^ n ≤ 64 := Nat.le_trans (Nat.pow_le_pow_right (by omega) hn) (by decide)
    have cn0 := c_u64 (d := n) (by omega)
    have sh0 : xbin .shl 0 (nv 1) (uw n) = some (nv (2 ^ n)) := by
      have : xbin .shl 0 (nv 1) (uw n) = some (.int .i64 (IntKind.i64.wrap (1 * 2 ^ (min n 64)))) := by
        simp only [xbin]; rw [if_pos (by omega)]; rfl
      have h2 : ((2 : Int) ^ n) = ((2 ^ n : Nat) : Int) := by simp
      have hb0 : 0 ≤ ((2 ^ n : Nat) : Int) := Int.natCast_nonneg _
      have hb1 : ((2 ^ n : Nat) : Int) ≤ 64 := Int.ofNat_le.2 h2n
      have he : IntKind.i64.wrap ((2 ^ n : Nat) : Int) = ((2 ^ n : Nat) : Int) := by
        generalize ((2 ^ n : Nat) : Int) = z at hb0 hb1 ⊢
        exact wrapI (by omega) (by omega)
      rw [this, Nat.min_eq_left (by omega), Int.one_mul, h2, he]
    refine loopV1.nat (2 ^ n) (fun b x H' => x = nv b ∧ Pre X H' ∧ ∀ b', b' < b → pc n (bt b') = k → ∀ v, v < q ^ k → cn wss.length (fun i => decide (vl q n (bt b') (lw wss i) = v)) = W) ⟨rfl, Pre.refl _, fun b' h => absurd h (Nat.not_lt_zero _)⟩ ?_ ?_
    · rintro b x H4 hb ⟨rfl, hp4, hI⟩ J hJ
      have hc4 := hp4.get hX0
      have hb64 : b < 18446744073709551616 := by omega
      have cb := c_u64 (d := b) (by omega)
      have hb1 : b + 1 < 1000 := by omega
      simp (disch := (first | omega | (simp only [stLen] <;> omega) | (simp only [all_nv]; done) | rfl)) only [zA, zB, zC, zD, zF, zG, zH, Nat.reduceEqDiff, Nat.reduceLT, Nat.reduceLeDiff, ↓reduceIte, hc4, p1, cn0, sh0, hb, cb]
      refine joinV0.via (fun H' => Pre X H' ∧ (pc n (bt b) = k → ∀ v, v < q ^ k → cn wss.length (fun i => decide (vl q n (bt b) (lw wss i) = v)) = W)) ?_ ?_
      · intro J2 hJ2
        refine FZ.use (pcs_c hb64) ?_
        rw [pc_top hb 64 (by omega)]
        by_cases hpk : pc n (bt b) = k
        · have ne : xbin .neq 0 (nv (pc n (bt b))) (nv k) = some (.bool false) := by simp [xbin, hpk]
          have h8 : 8 * q ^ k ≤ 281474976710656 := by omega
          simp (disch := (first | omega | (simp only [stLen] <;> omega) | (simp only [all_nv]; done) | rfl)) only [zA, zB, zC, zD, zF, zG, zH, Nat.reduceEqDiff, Nat.reduceLT, Nat.reduceLeDiff, ↓reduceIte, ne, hc4, p0]
          refine FZ.use (rpow_c (by omega) (by omega) (by omega)) ?_
          simp (disch := (first | omega | (simp only [stLen] <;> omega) | (simp only [all_nv]; done) | rfl)) only [zA, zB, zC, zD, zF, zG, zH, Nat.reduceEqDiff, Nat.reduceLT, Nat.reduceLeDiff, ↓reduceIte, xnew_makeN, h8]
          have hrep : (List.replicate (q ^ k) 0) = (List.range (q ^ k)).map fun v => cn 0 fun i => decide (vl q n (bt b) (lw wss i) = v) := by
            refine List.ext_getElem (by simp) fun j h1 h2 => ?_
            simp [cn]
          rw [hrep]
          have hw4' := hv1.pre (hHX.trans hp4)
          have hrs4 := hr.pre (hHX.trans hp4)
          obtain ⟨w1, w2, w3, w4⟩ := hw4'.1.allV
          rw [hvl] at w1 w2 w3 w4
          have hmem : ∀ k, k < wss.length → wss.getD k [] ∈ wss := by
            intro k hk
            rw [List.getD_eq_getElem?_getD, List.getElem?_eq_getElem hk]; exact List.getElem_mem hk
          have hcs : ∀ k, k < wss.length → (wss.map fun ws => ws.map nv).getD k [] = (wss.getD k []).map nv := by
            intro k hk; simp [List.getD_eq_getElem?_getD, List.getElem?_eq_getElem hk]
          have hrow : ∀ k, k < wss.length → Row H4 (vs.getD k undef) ((wss.getD k []).map nv) := by
            intro k hk
            have := hrs4.2 k (by simpa using hk)
            rwa [hcs k hk] at this
          refine loopV1.nat wss.length (fun i x H' => x = nv i ∧ H' = H4 ++ [.cells (((List.range (q ^ k)).map fun v => cn i fun i => decide (vl q n (bt b) (lw wss i) = v)).map nv) 3 none false]) ⟨rfl, rfl⟩ ?_ ?_
          · rintro i x H6 hi ⟨rfl, rfl⟩ J3 hJ3
            obtain ⟨hln, hlt⟩ := hw _ (hmem i hi)
            have hri := hrow i hi
            obtain ⟨a1, a2, a3, a4⟩ := hri.all 0
            rw [hln] at a1 a2 a3 a4
            have hc4Y : ∀ Y, (H4 ++ Y)[H.length]? = some (.cells [nv q, nv n] 25 none false) := fun Y => get_app hc4 Y
            have w2' := w2 i hi
            have w4' := fun Y => w4 i Y hi
            have hwx : ∀ c, c < n → lw wss i c < q := by
              intro c hc
              have hcl : c < (wss.getD i []).length := by omega
              show (wss.getD i []).getD c 0 < q
              rw [List.getD_eq_getElem?_getD, List.getElem?_eq_getElem hcl]; exact hlt _ (List.getElem_mem hcl)
            have hvb : ∀ c, c ≤ n → vl q c (bt b) (lw wss i) ≤ 4096 := by
              intro c hc
              have h1 := vl_lt (q := q) (n := c) (s := bt b) (x := lw wss i) fun c' hc' => hwx c' (by omega)
              have h2 : q ^ pc c (bt b) ≤ 4096 := Nat.le_trans (Nat.pow_le_pow_left hq.2 _) (Nat.le_trans (Nat.pow_le_pow_right (by omega) (show pc c (bt b) ≤ 6 by have := pc_le c (bt b); omega)) (by decide))
              omega
            simp (disch := (first | omega | (simp only [stLen] <;> omega) | (simp only [all_nv]; done) | rfl)) only [zA, zB, zC, zD, zF, zG, zH, Nat.reduceEqDiff, Nat.reduceLT, Nat.reduceLeDiff, ↓reduceIte, w1, hi]
            refine loopV2.nat n (fun c v x H' => x = nv c ∧ v = nv (vl q c (bt b) (lw wss i)) ∧ H' = H4 ++ [.cells (((List.range (q ^ k)).map fun v => cn i fun i => decide (vl q n (bt b) (lw wss i) = v)).map nv) 3 none false]) ⟨rfl, rfl, rfl⟩ ?_ ?_
            · rintro c v x H7 hc ⟨rfl, rfl, rfl⟩ J4 hJ4
              have hc1 : c + 1 < 1000 := by omega
              simp (disch := (first | omega | (simp only [stLen] <;> omega) | (simp only [all_nv]; done) | rfl)) only [zA, zB, zC, zD, zF, zG, zH, Nat.reduceEqDiff, Nat.reduceLT, Nat.reduceLeDiff, ↓reduceIte, hc4Y, p1, hc, cb]
              refine joinV1.via (fun x H' => x = nv (vl q (c + 1) (bt b) (lw wss i)) ∧ H' = H4 ++ [.cells (((List.range (q ^ k)).map fun v => cn i fun i => decide (vl q n (bt b) (lw wss i) = v)).map nv) 3 none false]) ?_ ?_
              · intro J5 hJ5
                refine FZ.use (bit_c hb64 (by omega)) ?_
                by_cases hbc : bt b c = 1
                · have e1 : vl q (c + 1) (bt b) (lw wss i) = q * vl q c (bt b) (lw wss i) + lw wss i c := by simp only [vl, hbc, if_true]
                  have h1 := hvb c (by omega)
                  have h2 := hvb (c + 1) (by omega)
                  rw [e1] at h2 hJ5
                  have a2' := a2 c hc
                  have a4' := fun Y => a4 c Y hc
                  have e2 : (wss.getD i []).getD c 0 = lw wss i c := rfl
                  rw [e2] at a4'
                  have hxl := hwx c hc
                  have hb2 : q * vl q c (bt b) (lw wss i) < 9223372036854775808 := by omega
                  have hb3 : q * vl q c (bt b) (lw wss i) + lw wss i c < 9223372036854775808 := by omega
                  rw [decide_eq_true hbc]
                  generalize vl q c (bt b) (lw wss i) = V at *
                  generalize lw wss i c = Y0 at *
                  simp (disch := (first | omega | (simp only [stLen] <;> omega) | (simp only [all_nv]; done) | rfl)) only [zA, zB, zC, zD, zF, zG, zH, Nat.reduceEqDiff, Nat.reduceLT, Nat.reduceLeDiff, ↓reduceIte, hc4Y, p0, w2', w4', a2', a4', hb2, hb3]
                  exact hJ5 _ _ ⟨rfl, rfl⟩
                · have e1 : vl q (c + 1) (bt b) (lw wss i) = vl q c (bt b) (lw wss i) := by simp only [vl, hbc, if_false]
                  rw [e1] at hJ5
                  rw [decide_eq_false hbc]
                  simp (disch := (first | omega | (simp only [stLen] <;> omega) | (simp only [all_nv]; done) | rfl)) only [zA, zB, zC, zD, zF, zG, zH, Nat.reduceEqDiff, Nat.reduceLT, Nat.reduceLeDiff, ↓reduceIte]
                  exact hJ5 _ _ ⟨rfl, rfl⟩
              · rintro x H8 ⟨rfl, rfl⟩
                simp (disch := (first | omega | (simp only [stLen] <;> omega) | (simp only [all_nv]; done) | rfl)) only [zA, zB, zC, zD, zF, zG, zH, Nat.reduceEqDiff, Nat.reduceLT, Nat.reduceLeDiff, ↓reduceIte, hc1]
                exact hJ4 _ _ _ ⟨rfl, rfl, rfl⟩
            · rintro v x H7 ⟨rfl, rfl, rfl⟩ J4
              have hnn : ¬ n < n := Nat.lt_irrefl _
              have hVl := vl_lt (q := q) (n := n) (s := bt b) (x := lw wss i) hwx
              rw [hpk] at hVl
              have hgd := getD_map (f := fun v => cn i fun i => decide (vl q n (bt b) (lw wss i) = v)) hVl
              have hset : ((List.range (q ^ k)).map fun v => cn i fun i => decide (vl q n (bt b) (lw wss i) = v)).set (vl q n (bt b) (lw wss i)) ((cn i fun i' => decide (vl q n (bt b) (lw wss i') = vl q n (bt b) (lw wss i))) + 1) = (List.range (q ^ k)).map fun v => cn (i + 1) fun i => decide (vl q n (bt b) (lw wss i) = v) := by
                refine set_map hVl _ fun j _ => ?_
                simp only [cn]
                by_cases e : j = vl q n (bt b) (lw wss i)
                · subst e; simp
                · simp [e, show ¬ vl q n (bt b) (lw wss i) = j from fun h => e h.symm]
              have hcb := cn_le i fun i' => decide (vl q n (bt b) (lw wss i') = vl q n (bt b) (lw wss i))
              have hlD : vl q n (bt b) (lw wss i) < ((List.range (q ^ k)).map fun v => cn i fun i => decide (vl q n (bt b) (lw wss i) = v)).length := by simpa using hVl
              have hX1 : (cn i fun i' => decide (vl q n (bt b) (lw wss i') = vl q n (bt b) (lw wss i))) + 1 < 100000 := by omega
              have hi1 : i + 1 < 1000 := by omega
              rw [← hset] at hJ3
              generalize (cn i fun i' => decide (vl q n (bt b) (lw wss i') = vl q n (bt b) (lw wss i))) = Z at *
              generalize ((List.range (q ^ k)).map fun v => cn i fun i => decide (vl q n (bt b) (lw wss i) = v)) = L at *
              generalize vl q n (bt b) (lw wss i) = D at *
              have hlDD : D < q ^ k := hVl
              simp (disch := (first | omega | (simp only [stLen] <;> omega) | (simp only [all_nv]; done) | rfl)) only [zA, zB, zC, zD, zF, zG, zH, Nat.reduceEqDiff, Nat.reduceLT, Nat.reduceLeDiff, ↓reduceIte, hc4Y, p1, hnn, hlD, hlDD, hgd, hX1, hi1]
              exact hJ3 _ _ ⟨rfl, rfl⟩
          · rintro x H6 ⟨rfl, rfl⟩ J3
            have hnn : ¬ wss.length < wss.length := Nat.lt_irrefl _
            simp (disch := (first | omega | (simp only [stLen] <;> omega) | (simp only [all_nv]; done) | rfl)) only [zA, zB, zC, zD, zF, zG, zH, Nat.reduceEqDiff, Nat.reduceLT, Nat.reduceLeDiff, ↓reduceIte, w1, hnn]
            refine loopV1.nat (q ^ k) (fun v x H' => x = nv v ∧ H' = H4 ++ [.cells (((List.range (q ^ k)).map fun v => cn wss.length fun i => decide (vl q n (bt b) (lw wss i) = v)).map nv) 3 none false] ∧ ∀ v', v' < v → cn wss.length (fun i => decide (vl q n (bt b) (lw wss i) = v')) = W) ⟨rfl, rfl, fun v' h => absurd h (Nat.not_lt_zero _)⟩ ?_ ?_
            · rintro v x H7 hv ⟨rfl, rfl, hI2⟩ J4 hJ4
              have hgd := getD_map (f := fun v => cn wss.length fun i => decide (vl q n (bt b) (lw wss i) = v)) hv
              have hlD : v < ((List.range (q ^ k)).map fun v => cn wss.length fun i => decide (vl q n (bt b) (lw wss i) = v)).length := by simpa using hv
              have hcb := cn_le wss.length fun i' => decide (vl q n (bt b) (lw wss i') = v)
              have hv1' : v + 1 < 100000 := by omega
              by_cases hcW : (cn wss.length fun i' => decide (vl q n (bt b) (lw wss i') = v)) = W
              · have ne : xbin .neq 0 (nv (cn wss.length fun i' => decide (vl q n (bt b) (lw wss i') = v))) (nv W) = some (.bool false) := by simp [xbin, hcW]
                have hJ4' := fun y0 H' (h : y0 = nv (v + 1) ∧ H' = H4 ++ [.cells (((List.range (q ^ k)).map fun v => cn wss.length fun i => decide (vl q n (bt b) (lw wss i) = v)).map nv) 3 none false]) => hJ4 y0 H' ⟨h.1, h.2, fun v' hv' => by
                  by_cases e : v' = v
                  · subst e; exact hcW
                  · exact hI2 v' (by omega)⟩
                clear hJ4
                generalize ((List.range (q ^ k)).map fun v => cn wss.length fun i => decide (vl q n (bt b) (lw wss i) = v)) = L at *
                generalize (cn wss.length fun i' => decide (vl q n (bt b) (lw wss i') = v)) = Z at *
                simp (disch := (first | omega | (simp only [stLen] <;> omega) | (simp only [all_nv]; done) | rfl)) only [zA, zB, zC, zD, zF, zG, zH, Nat.reduceEqDiff, Nat.reduceLT, Nat.reduceLeDiff, ↓reduceIte, hv, hlD, hgd, ne, hv1']
                exact hJ4' _ _ ⟨rfl, rfl⟩
              · have ne : xbin .neq 0 (nv (cn wss.length fun i' => decide (vl q n (bt b) (lw wss i') = v))) (nv W) = some (.bool true) := by simp [xbin]; omega
                have hno : ¬ evenP q n wss.length (lw wss) k := fun h => hcW (by rw [← hW]; exact h.2 b hb hpk v hv)
                have hpX : Pre H (H4 ++ [.cells (((List.range (q ^ k)).map fun v => cn wss.length fun i => decide (vl q n (bt b) (lw wss i) = v)).map nv) 3 none false]) := (hHX.trans hp4).app _
                have hfin := hfalse _ hpX hno
                generalize ((List.range (q ^ k)).map fun v => cn wss.length fun i => decide (vl q n (bt b) (lw wss i) = v)) = L at *
                generalize (cn wss.length fun i' => decide (vl q n (bt b) (lw wss i') = v)) = Z at *
                simp (disch := (first | omega | (simp only [stLen] <;> omega) | (simp only [all_nv]; done) | rfl)) only [zA, zB, zC, zD, zF, zG, zH, Nat.reduceEqDiff, Nat.reduceLT, Nat.reduceLeDiff, ↓reduceIte, hv, hlD, hgd, ne]
                exact hfin
            · rintro x H7 ⟨rfl, rfl, hI2⟩ J4
              have hnn : ¬ q ^ k < q ^ k := Nat.lt_irrefl _
              simp (disch := (first | omega | (simp only [stLen] <;> omega) | (simp only [all_nv]; done) | rfl)) only [zA, zB, zC, zD, zF, zG, zH, Nat.reduceEqDiff, Nat.reduceLT, Nat.reduceLeDiff, ↓reduceIte, hnn]
              exact hJ2 _ ⟨hp4.app _, fun _ v hv => hI2 v hv⟩
        · have ne : xbin .neq 0 (nv (pc n (bt b))) (nv k) = some (.bool true) := by simp [xbin]; omega
          simp (disch := (first | omega | (simp only [stLen] <;> omega) | (simp only [all_nv]; done) | rfl)) only [zA, zB, zC, zD, zF, zG, zH, Nat.reduceEqDiff, Nat.reduceLT, Nat.reduceLeDiff, ↓reduceIte, ne]
          exact hJ2 _ ⟨hp4, fun h => absurd h hpk⟩
      · rintro H5 ⟨hp5, hI5⟩
        simp (disch := (first | omega | (simp only [stLen] <;> omega) | (simp only [all_nv]; done) | rfl)) only [zA, zB, zC, zD, zF, zG, zH, Nat.reduceEqDiff, Nat.reduceLT, Nat.reduceLeDiff, ↓reduceIte, hb1]
        refine hJ _ _ ⟨rfl, hp5, fun b' hb' hpb v hv => ?_⟩
        by_cases e : b' = b
        · subst e; exact hI5 hpb v hv
        · exact hI b' (by omega) hpb v hv
    · rintro x H4 ⟨rfl, hp4, hI⟩ J
      have hc4 := hp4.get hX0
      have hnn : ¬ 2 ^ n < 2 ^ n := Nat.lt_irrefl _
      simp (disch := (first | omega | (simp only [stLen] <;> omega) | (simp only [all_nv]; done) | rfl)) only [zA, zB, zC, zD, zF, zG, zH, Nat.reduceEqDiff, Nat.reduceLT, Nat.reduceLeDiff, ↓reduceIte, hc4, p1, cn0, sh0, hnn]
      refine ⟨hHX.trans hp4, ?_⟩
      rw [decide_eq_true]
      exact ⟨hd, by rw [hW]; exact hI⟩
  · simp (disch := (first | omega | (simp only [stLen] <;> omega) | (simp only [all_nv]; done) | rfl)) only [zA, zB, zC, zD, zF, zG, zH, Nat.reduceEqDiff, Nat.reduceLT, Nat.reduceLeDiff, ↓reduceIte, hqk0, hd]
    exact hfalse _ hHX fun h => hd h.1
end
end Go.Sim

namespace Go.Sim
open Kr
theorem far_comm (n : Nat) (x y : Nat → Nat) : far n x y = far n y x := by
  induction n with
  | zero => rfl
  | succ n ih =>
    simp only [far, ih]
    by_cases h : x n = y n
    · simp [h]
    · simp [h, show ¬ y n = x n from fun h' => h h'.symm]
theorem far_self (n : Nat) (x : Nat → Nat) : far n x x = 0 := by
  induction n with
  | zero => rfl
  | succ n ih => simp only [far, ih]; simp
theorem cn_sum {n m : Nat} {f : Nat → Nat} (hf : ∀ y, y < m → f y ≤ n) (g : Nat → Int) : sm (n + 1) (fun j => (cn m fun y => decide (f y = j)) * g j) = sm m fun y => g (f y) := by
  induction m with
  | zero => simp only [cn, sm]; rw [sm_congr (g := fun _ => 0) (by intro j _; simp), sm_zero]; simp
  | succ m ih =>
    have h1 := ih fun y hy => hf y (by omega)
    have h2 := hf m (by omega)
    have e : ∀ j, ((cn (m + 1) fun y => decide (f y = j) : Nat) : Int) * g j = ((cn m fun y => decide (f y = j) : Nat) : Int) * g j + (if f m = j then g (f m) else 0) := by
      intro j
      simp only [cn]
      by_cases h : f m = j
      · subst h; simp [Int.add_mul]
      · simp [h]
    rw [sm_congr fun j _ => e j, sm_add, h1, sm_ite, if_pos (by omega)]
    rfl
theorem prs_sum {n : Nat} {w : Nat → Nat → Nat} (g : Nat → Int) : ∀ m, sm (n + 1) (fun j => (prs n w m j : Int) * g j) = sm m fun x => sm m fun y => g (far n (w x) (w y)) := by
  intro m
  induction m with
  | zero =>
    rw [sm_congr (g := fun _ => 0) (by intro j _; simp [prs, lo]), sm_zero]; rfl
  | succ m ih =>
    have e : ∀ j, ((prs n w (m + 1) j : Nat) : Int) * g j = (prs n w m j : Int) * g j + (if 0 = j then g 0 else 0) + 2 * (((cn m fun y => decide (far n (w m) (w y) = j) : Nat) : Int) * g j) := by
      intro j
      simp only [prs, lo]
      by_cases h : j = 0
      · subst h; simp only [if_true]; rw [Int.natCast_add, Int.natCast_add, Int.natCast_add, Int.natCast_add, Int.natCast_mul]; simp only [Int.add_mul, Int.mul_assoc]; omega
      · simp only [h, if_false, show ¬ 0 = j from fun h' => h h'.symm]; rw [Int.natCast_add, Int.natCast_add, Int.natCast_add, Int.natCast_mul]; simp only [Int.add_mul, Int.mul_assoc]; omega
    rw [sm_congr fun j _ => e j, sm_add, sm_add, ih, sm_ite, if_pos (by omega), sm_mul, cn_sum (f := fun y => far n (w m) (w y)) fun y _ => far_le _ _ _]
    have e2 : sm (m + 1) (fun x => sm (m + 1) fun y => g (far n (w x) (w y))) = (sm m (fun x => sm m fun y => g (far n (w x) (w y))) + sm m (fun x => g (far n (w x) (w m)))) + (sm m (fun y => g (far n (w m) (w y))) + g (far n (w m) (w m))) := by
      simp only [sm]
      rw [← sm_add]
    have e3 : sm m (fun x => g (far n (w x) (w m))) = sm m (fun y => g (far n (w m) (w y))) := sm_congr fun y _ => by rw [far_comm]
    rw [e2, e3, far_self]
    omega
theorem sumN_sm (m : Nat) (f : Nat → Nat) : ((sumN m f : Nat) : Int) = sm m fun i => (f i : Int) := by
  induction m with
  | zero => rfl
  | succ m ih => simp only [sumN, sm, ← ih]; exact Int.natCast_add _ _
theorem prs_all {n m : Nat} {w : Nat → Nat → Nat} : sumN (n + 1) (prs n w m) = m * m := by
  have h := prs_sum (n := n) (w := w) (fun _ => 1) m
  simp only [Int.mul_one] at h
  rw [← sumN_sm, sm_congr (g := fun _ => (m : Int)) (fun x _ => by rw [sm_const]; simp), sm_const] at h
  rw [← Int.natCast_mul] at h
  exact Int.ofNat_inj.1 h
theorem tk_Bz {q n m : Nat} {w : Nat → Nat → Nat} (hq : 2 ≤ q ∧ q ≤ 5) (hn : n ≤ 9) {k : Nat} (hk : k ≤ n) : tk q n (prs n w m) k (n + 1) = Bz q n m w k := by
  unfold tk Bz
  rw [← prs_sum (fun j => Kz q n k j)]
  exact sm_congr fun j hj => by rw [Kc_eq hq hn hk (by omega)]
theorem Bz_zero (q n m : Nat) (w : Nat → Nat → Nat) : Bz q n m w 0 = ((m * m : Nat) : Int) := by
  unfold Bz
  rw [sm_congr (g := fun _ => (m : Int)) (fun x _ => by rw [sm_congr (g := fun _ => 1) fun y _ => Kz_zero _ _ _, sm_const]; simp), sm_const, ← Int.natCast_mul]
theorem Bz_all {q n m : Nat} {w : Nat → Nat → Nat} (hq : 2 ≤ q ∧ q ≤ 5) (hn : n ≤ 9) : sm (n + 1) (fun k => Bz q n m w k) = (q : Int) ^ n * (prs n w m 0 : Nat) := by
  unfold Bz
  rw [sm_comm, sm_congr (g := fun x => sm m fun y => if far n (w x) (w y) = 0 then (q : Int) ^ n else 0)]
  · rw [← prs_sum (fun j => if j = 0 then (q : Int) ^ n else 0)]
    rw [sm_congr (g := fun j => if 0 = j then (prs n w m 0 : Int) * (q : Int) ^ n else 0), sm_ite, if_pos (by omega), Int.mul_comm]
    intro j _
    by_cases h : j = 0
    · subst h; simp
    · simp [h, show ¬ 0 = j from fun h' => h h'.symm]
  · intro x _
    rw [sm_comm]
    exact sm_congr fun y _ => Kz_sum hq hn (far_le _ _ _)
theorem red_quot {a : Int} {m : Nat} (hm : 0 < m) : m % rD a m = 0 ∧ rN a m * (m / rD a m : Nat) = a := by
  obtain ⟨h1, h2, h3⟩ := red_ok (a := a) hm
  obtain ⟨c, hc⟩ := red_dvd a m
  generalize rD a m = d at *
  generalize rN a m = r at *
  have e : m / d = c := by rw [hc, Nat.mul_div_cancel_left _ h3]
  have e0 : m % d = 0 := by rw [hc]; exact Nat.mul_mod_right _ _
  refine ⟨e0, ?_⟩
  rw [e]
  have e2 : (m : Int) = (d : Int) * (c : Int) := by rw [← Int.natCast_mul, ← hc]
  rw [e2] at h1
  refine Int.eq_of_mul_eq_mul_right (show (d : Int) ≠ 0 by omega) ?_
  rw [← h1, Int.mul_assoc, Int.mul_comm (c : Int)]
theorem red_one {m : Nat} (hm : 0 < m) : rN (m : Int) m = 1 ∧ rD (m : Int) m = 1 := by
  have := red_uniq (n := 1) (d := 1) (a := (m : Int)) (m := m) hm (by omega) (by simp) rfl
  exact ⟨this.1.symm, this.2.symm⟩
end Go.Sim

namespace Go.Sim
open Go Go.Proofs Kr Lw
theorem wdL_len (q n : Nat) (wss : List (List Nat)) : (wdL q n wss).length = wM wss := by simp [wdL]
theorem wM_le (wss : List (List Nat)) : 1 ≤ wM wss ∧ wM wss ≤ 12 := by unfold wM; omega
theorem wdL_ok {q n : Nat} (hq : 0 < q) (wss : List (List Nat)) : ∀ ws ∈ wdL q n wss, ws.length = n ∧ ∀ x ∈ ws, x < q := by
  intro ws hws
  simp only [wdL, List.mem_map, List.mem_range] at hws
  obtain ⟨i, _, rfl⟩ := hws
  refine ⟨by simp, fun x hx => ?_⟩
  simp only [List.mem_map, List.mem_range] at hx
  obtain ⟨k, _, rfl⟩ := hx
  unfold wl
  split
  · exact Nat.mod_lt _ hq
  · exact hq
theorem lw_lt {q n : Nat} {W : List (List Nat)} (hW : ∀ ws ∈ W, ws.length = n ∧ ∀ x ∈ ws, x < q) : Wd q n W.length (lw W) := by
  intro i hi c hc
  unfold lw
  have h1 : W.getD i [] ∈ W := Lw.getD_mem hi
  obtain ⟨h2, h3⟩ := hW _ h1
  exact h3 _ (Lw.getD_mem (by omega))
theorem Bz_le {q n m : Nat} {w : Nat → Nat → Nat} (hq : 2 ≤ q ∧ q ≤ 5) (hn : n ≤ 9) {k : Nat} (hk : k ≤ n) : (Bz q n m w k).natAbs ≤ m * (m * 1953125) := by
  have key : ∀ (B : Nat) (M : Nat) (f : Nat → Int), (∀ i, i < M → (f i).natAbs ≤ B) → (sm M f).natAbs ≤ M * B := by
    intro B M f
    induction M with
    | zero => intro _; simp [sm]
    | succ M ih =>
      intro h
      have h1 := ih fun i hi => h i (by omega)
      have h2 := h M (by omega)
      simp only [sm]
      rw [Nat.add_mul]; omega
  exact key _ _ _ fun x _ => key _ _ _ fun y _ => Kz_le hq hn hk (far_le _ _ _)
theorem law5 (hx : ExOK15) {H : AH} {a b : Nat} {w : Value} {wss : List (List Nat)} (ha : a < 256) (hb : b < 256) (hw : RowB H w wss) : FN Try.prog 5 [.agg [ub a, ub b, w].toArray] H (fun r H' => r = .bool true ∧ H' = H) := by
  refine FN.pre0' (g5_of ?_) rfl
  unfold g5
  have ec : cellsL (.agg [ub a, ub b, w].toArray) = [ub a, ub b, w] := rfl
  simp (disch := (first | omega | (simp only [stLen] <;> omega) | (simp only [all_nv]; done) | rfl)) only [zA, zB, zC, zD, zF, zG, zH, Nat.reduceEqDiff, Nat.reduceLT, Nat.reduceLeDiff, ↓reduceIte, ec]
  refine FZ.use (hx _) ?_
  simp (disch := (first | omega | (simp only [stLen] <;> omega) | (simp only [all_nv]; done) | rfl)) only [zA, zB, zC, zD, zF, zG, zH, Nat.reduceEqDiff, Nat.reduceLT, Nat.reduceLeDiff, ↓reduceIte]
  refine FZ.use (rsize_c ha hb) ?_
  have hp1 := Pre.new H [AB.cells [ub a, ub b, w] 24 none false, AB.cells [nv 0, nv 0] 25 none false]
  simp (disch := (first | omega | (simp only [stLen] <;> omega) | (simp only [all_nv]; done) | rfl)) only [zA, zB, zC, zD, zF, zG, zH, Nat.reduceEqDiff, Nat.reduceLT, Nat.reduceLeDiff, ↓reduceIte]
  refine FZ.mono (words_c ha hb (hw.pre hp1)) ?_
  rintro l H5 ⟨hp5, hacc⟩
  have hq : 2 ≤ 2 + a % 3 ∧ 2 + a % 3 ≤ 4 := by omega
  have hn : b % 7 ≤ 6 := by omega
  generalize 2 + a % 3 = q at *
  generalize b % 7 = n at *
  have hWl := wdL_len q n wss
  have hWM := wM_le wss
  have hWok := wdL_ok (n := n) (show 0 < q by omega) wss
  generalize wdL q n wss = W at *
  have hs5 : H5[H.length + 1]? = some (.cells [nv 0, nv 0] 25 none false) := hp5.get (by simp)
  have hx5 : H5[H.length]? = some (.cells [ub a, ub b, w] 24 none false) := hp5.get (by simp)
  have hst := stB2 (H := H5) (x := nv q) (y := nv n) (c0 := nv 0) (c1 := nv 0) (e := 25) (op := none) (bl := H.length + 1) rfl rfl
  simp (disch := (first | omega | (simp only [stLen] <;> omega) | (simp only [all_nv]; done) | rfl)) only [zA, zB, zC, zD, zF, zG, zH, Nat.reduceEqDiff, Nat.reduceLT, Nat.reduceLeDiff, ↓reduceIte, hs5, hst]
  obtain ⟨H6, hH6⟩ : ∃ H6, H6 = H5.set (H.length + 1) (.cells [nv q, nv n] 25 none false) := ⟨_, rfl⟩
  have hl5 := get_lt hs5
  have h6s : H6[H.length + 1]? = some (.cells [nv q, nv n] 25 none false) := by rw [hH6]; exact List.getElem?_set_self hl5
  have hpre6 : Pre H H6 := by
    rw [hH6]; exact ((Pre.new H _).trans hp5).set (by omega) _
  have hacc6 : AccLo (H ++ [AB.cells [ub a, ub b, w] 24 none false, AB.cells [nv 0, nv 0] 25 none false]) H6 l (W.map fun ws => ws.map nv) 26 := by
    rw [hH6]; exact hacc.setLow (by simp)
  rw [← hH6]
  simp (disch := (first | omega | (simp only [stLen] <;> omega) | (simp only [all_nv]; done) | rfl)) only [zA, zB, zC, zD, zF, zG, zH, Nat.reduceEqDiff, Nat.reduceLT, Nat.reduceLeDiff, ↓reduceIte, h6s]
  have hm1 : 0 < W.length := by omega
  have hm12 : W.length ≤ 12 := by omega
  refine FZ.mono (distances_c (by omega) (by omega) hm1 (by omega) hWok hacc6.acc.rowR) ?_
  rintro _ H7 ⟨hp7, u, rfl, ho7⟩
  simp (disch := (first | omega | (simp only [stLen] <;> omega) | (simp only [all_nv]; done) | rfl)) only [zA, zB, zC, zD, zF, zG, zH, Nat.reduceEqDiff, Nat.reduceLT, Nat.reduceLeDiff, ↓reduceIte]
  rw [stB2u ho7.row.one]
  have h7s := hp7.get h6s
  have h7sY : ∀ Y, (H7 ++ Y)[H.length + 1]? = some (.cells [nv q, nv n] 25 none false) := fun Y => get_app h7s Y
  simp (disch := (first | omega | (simp only [stLen] <;> omega) | (simp only [all_nv]; done) | rfl)) only [zA, zB, zC, zD, zF, zG, zH, Nat.reduceEqDiff, Nat.reduceLT, Nat.reduceLeDiff, ↓reduceIte, h7sY]
  have hpY := Pre.new H7 [AB.cells [u, nv 0] 36 none false]
  have hq5 : 2 ≤ q ∧ q ≤ 5 := by omega
  have hn9 : n ≤ 9 := by omega
  have hqn : q ^ n ≤ 4096 := Nat.le_trans (Nat.pow_le_pow_left hq.2 n) (Nat.le_trans (Nat.pow_le_pow_right (by omega) hn) (by decide))
  have hmm : 0 < W.length * W.length := Nat.mul_pos hm1 hm1
  have hmm2 : W.length * W.length ≤ 12 * 12 := Nat.mul_le_mul hm12 hm12
  have hA0 : 0 < prs n (lw W) W.length 0 := by
    unfold prs; rw [if_pos rfl]; omega
  refine FZ.mono (lturned_c (m := W.length) (A := prs n (lw W) W.length) (by omega) (by omega) (by omega) hm1 (by omega) (fun j _ => prs_le (by omega)) hA0 prs_all (ho7.row.pre hpY)) ?_
  rintro _ H10 ⟨hp10, u2, rfl, ho10⟩
  simp (disch := (first | omega | (simp only [stLen] <;> omega) | (simp only [all_nv]; done) | rfl)) only [zA, zB, zC, zD, zF, zG, zH, Nat.reduceEqDiff, Nat.reduceLT, Nat.reduceLeDiff, ↓reduceIte]
  rw [stB2u ho10.row.one]
  have hTB : ∀ k, k ≤ n → tk q n (prs n (lw W) W.length) k (n + 1) = Bz q n W.length (lw W) k := fun k hk => tk_Bz hq5 hn9 hk
  have hd10 : H10[H7.length]? = some (.cells [u, nv 0] 36 none false) := hp10.get (by simp)
  have hs10 : H10[H.length + 1]? = some (.cells [nv q, nv n] 25 none false) := hp10.get (h7sY _)
  have hd10Y : ∀ Y, (H10 ++ Y)[H7.length]? = some (.cells [u, nv 0] 36 none false) := fun Y => get_app hd10 Y
  have hs10Y : ∀ Y, (H10 ++ Y)[H.length + 1]? = some (.cells [nv q, nv n] 25 none false) := fun Y => get_app hs10 Y
  have htl : (tfs q n W.length (prs n (lw W) W.length) (n + 1)).length = n + 1 := by simp [tfs]
  have hdl : (dfs n W.length (lw W)).length = n + 1 := by simp [dfs]
  obtain ⟨t1, t2, t3, t4, t5, t6, t7⟩ := ho10.row.all
  rw [htl] at t1 t2 t3 t4 t5 t6 t7
  obtain ⟨d1, d2, d3, d4, d5, d6, d7⟩ := ((ho7.row.pre hpY).pre hp10).all
  rw [hdl] at d1 d2 d3 d4 d5 d6 d7
  have htg : ∀ k, k < n + 1 → (tfs q n W.length (prs n (lw W) W.length) (n + 1)).getD k (0, 0) = (rN (Bz q n W.length (lw W) k) (W.length * W.length), rD (Bz q n W.length (lw W) k) (W.length * W.length)) := by
    intro k hk
    simp [tfs, List.getD_eq_getElem?_getD, hk, hTB k (by omega)]
  have hdg : (dfs n W.length (lw W)).getD 0 (0, 0) = (rN (prs n (lw W) W.length 0) W.length, rD (prs n (lw W) W.length 0) W.length) := by
    simp [dfs, List.getD_eq_getElem?_getD]
  have hone := red_one hmm
  have t50 : ∀ Y, xload (some 2) (H10 ++ Y) [ptrF u2 0] = some (frv 1 1) := by
    intro Y
    rw [t5 0 Y (by omega), htg 0 (by omega), Bz_zero]
    simp only [hone.1, hone.2]; rfl
  have hn1 : n + 1 < 1000 := by omega
  have t20 := t2 0 (by omega)
  simp (disch := (first | omega | (simp only [stLen] <;> omega) | (simp only [all_nv]; done) | rfl)) only [zA, zB, zC, zD, zF, zG, zH, Nat.reduceEqDiff, Nat.reduceLT, Nat.reduceLeDiff, ↓reduceIte, hd10Y, hs10Y, t1, hn1, t20, t50]
  refine FZ.use (one_c (z := 1)) ?_
  have ne5 : xbin .neq 5 (frv 1 1) (frv 1 1) = some (.bool false) := rfl
  obtain ⟨lvs, lv1, lv2⟩ := hacc6.acc.rowR
  have l1 := lv1.1.len
  have hlvl : lvs.length = W.length := by rw [lv2.1]; simp
  rw [hlvl] at l1
  simp (disch := (first | omega | (simp only [stLen] <;> omega) | (simp only [all_nv]; done) | rfl)) only [zA, zB, zC, zD, zF, zG, zH, Nat.reduceEqDiff, Nat.reduceLT, Nat.reduceLeDiff, ↓reduceIte, hd10Y, hs10Y, t20, t50, ne5, l1]
  refine FZ.use (rpow_c (by omega) (by omega) (by omega)) ?_
  have hBle : ∀ k, k ≤ n → (Bz q n W.length (lw W) k).natAbs ≤ 300000000 := by
    intro k hk
    have h1 := Bz_le (m := W.length) (w := lw W) hq5 hn9 hk
    have h2 : W.length * (W.length * 1953125) ≤ 12 * (12 * 1953125) := Nat.mul_le_mul hm12 (Nat.mul_le_mul_right _ hm12)
    omega
  have hSle : ∀ T, T ≤ n + 1 → (sm T fun k => Bz q n W.length (lw W) k).natAbs ≤ T * 300000000 := by
    intro T
    induction T with
    | zero => intro _; simp [sm]
    | succ T ih =>
      intro hT
      have h1 := ih (by omega)
      have h2 := hBle T (by omega)
      simp only [sm]
      rw [Nat.add_mul]; omega
  refine loopV2.nat (n + 1) (fun i s x H' => x = nv i ∧ H' = H10 ++ [AB.cells [u2, nv 0] 36 none false] ∧ s = zv (sm i fun k => Bz q n W.length (lw W) k)) ⟨rfl, rfl, rfl⟩ ?_ ?_
  · rintro i x v H11 hi ⟨rfl, rfl, rfl⟩ J hJ
    have hin : i ≤ n := by omega
    have t2' := t2 i hi
    have t3' := t3 i hi
    have t4' := t4 i hi
    have t6' := fun Y => t6 i Y hi
    have t7' := fun Y => t7 i Y hi
    rw [htg i hi] at t6' t7'
    have hB0 := Bz_nn q n W.length (lw W) (by omega) (lw_lt hWok) i
    have hS1 := hSle (i + 1) (by omega)
    have hB1 := hBle i hin
    obtain ⟨r1, r2, r3⟩ := red_ok (a := Bz q n W.length (lw W) i) hmm
    have rle := red_le (a := Bz q n W.length (lw W) i) (m := W.length * W.length)
    obtain ⟨z1, z2⟩ := red_quot (a := Bz q n W.length (lw W) i) hmm
    have rs := (red_sign (a := Bz q n W.length (lw W) i) hmm).1
    simp only [sm] at hS1
    have hJ' : ∀ H', H' = H10 ++ [AB.cells [u2, nv 0] 36 none false] → J (zv ((sm i fun k => Bz q n W.length (lw W) k) + Bz q n W.length (lw W) i)) (nv (i + 1)) H' := fun H' h => hJ _ _ _ ⟨rfl, h, rfl⟩
    clear hJ
    generalize (sm i fun k => Bz q n W.length (lw W) k) = S at *
    generalize Bz q n W.length (lw W) i = B at *
    generalize rN B (W.length * W.length) = N at *
    generalize rD B (W.length * W.length) = D at *
    have e1 : xbin .lss 0 (zv N) (nv 0) = some (.bool false) := by simp [xbin]; omega
    have e2 : xbin .lss 0 (zv (D : Nat)) (nv 1) = some (.bool false) := by simp [xbin]; omega
    have e3 : xbin .rem 0 (nv (W.length * W.length)) (zv (D : Nat)) = some (nv 0) := by
      have h1 : ((W.length * W.length : Nat) : Int).tmod (D : Int) = (((W.length * W.length) % D : Nat) : Int) := by rw [Int.tmod_eq_emod_of_nonneg (Int.natCast_nonneg _)]; rfl
      simp only [xbin]
      rw [if_pos ⟨trivial, by omega⟩, h1, z1]
    have e4 := z_quo (a := ((W.length * W.length : Nat) : Int)) (g := D) (m := 0) (by rw [Int.natAbs_natCast]; omega) (by omega)
    rw [show ((W.length * W.length : Nat) : Int).tdiv (D : Int) = ((W.length * W.length / D : Nat) : Int) from rfl] at e4
    have e5 : xbin .mul 0 (zv N) (zv ((W.length * W.length / D : Nat) : Int)) = some (zv B) := by
      simp only [xbin, if_true]
      rw [z2, wrapI (by omega) (by omega)]
    have e6 : xbin .add 0 (zv S) (zv B) = some (zv (S + B)) := by
      simp only [xbin, if_true]
      rw [wrapI (by omega) (by omega)]
    have hi1 : i + 1 < 1000 := by omega
    have hmmb : W.length * W.length < 100000 := by omega
    simp (disch := (first | omega | (simp only [stLen] <;> omega) | (simp only [all_nv]; done) | rfl)) only [zA, zB, zC, zD, zF, zG, zH, Nat.reduceEqDiff, Nat.reduceLT, Nat.reduceLeDiff, ↓reduceIte, hi, t1, t2', t3', t4', t6', t7', e1, e2, e3, e4, e5, e6, hi1, hmmb, l1]
    exact hJ' _ rfl
  · rintro x v H11 ⟨rfl, rfl, rfl⟩ J
    have hnn : ¬ n + 1 < n + 1 := Nat.lt_irrefl _
    have d2' := d2 0 (by omega)
    have d3' := d3 0 (by omega)
    have d4' := d4 0 (by omega)
    have d6' := fun Y => d6 0 Y (by omega)
    have d7' := fun Y => d7 0 Y (by omega)
    rw [hdg] at d6' d7'
    have hAle := prs_le (n := n) (j := 0) (w := lw W) (show W.length ≤ 64 by omega)
    have hsum := Bz_all (m := W.length) (w := lw W) hq5 hn9
    have hSn := hSle (n + 1) (Nat.le_refl _)
    rw [hsum] at hSn ⊢
    obtain ⟨r1, r2, r3⟩ := red_ok (a := ((prs n (lw W) W.length 0 : Nat) : Int)) hm1
    have rle := red_le (a := ((prs n (lw W) W.length 0 : Nat) : Int)) (m := W.length)
    obtain ⟨z1, z2⟩ := red_quot (a := ((prs n (lw W) W.length 0 : Nat) : Int)) hm1
    rw [Int.natAbs_natCast] at rle
    generalize prs n (lw W) W.length 0 = A at *
    generalize rN ((A : Nat) : Int) W.length = N at *
    generalize rD ((A : Nat) : Int) W.length = D at *
    have hQ : ((q ^ n : Nat) : Int) = (q : Int) ^ n := by simp
    have e2 : xbin .lss 0 (zv (D : Nat)) (nv 1) = some (.bool false) := by simp [xbin]; omega
    have e3 : xbin .rem 0 (nv W.length) (zv (D : Nat)) = some (nv 0) := by
      have h1 : ((W.length : Nat) : Int).tmod (D : Int) = ((W.length % D : Nat) : Int) := by rw [Int.tmod_eq_emod_of_nonneg (Int.natCast_nonneg _)]; rfl
      simp only [xbin]
      rw [if_pos ⟨trivial, by omega⟩, h1, z1]
    have e4 := z_quo (a := ((W.length : Nat) : Int)) (g := D) (m := 0) (by rw [Int.natAbs_natCast]; omega) (by omega)
    rw [show ((W.length : Nat) : Int).tdiv (D : Int) = ((W.length / D : Nat) : Int) from rfl] at e4
    have hb1 := natAbs_mul_le (a := ((q ^ n : Nat) : Int)) (b := N) (x := 4096) (y := 8256) (by rw [Int.natAbs_natCast]; omega) (by omega)
    have e5 : xbin .mul 0 (nv (q ^ n)) (zv N) = some (zv (((q ^ n : Nat) : Int) * N)) := by
      simp only [xbin, if_true]
      rw [wrapI (by omega) (by omega)]
    have hprod : ((q ^ n : Nat) : Int) * N * ((W.length / D : Nat) : Int) = (q : Int) ^ n * (A : Nat) := by
      rw [Int.mul_assoc, z2, hQ]
    have e6 : xbin .mul 0 (zv (((q ^ n : Nat) : Int) * N)) (zv ((W.length / D : Nat) : Int)) = some (zv ((q : Int) ^ n * (A : Nat))) := by
      simp only [xbin, if_true]
      rw [hprod, wrapI (by omega) (by omega)]
    have e7 : ∀ z : Int, xbin .eql 0 (zv z) (zv z) = some (.bool true) := fun z => by simp [xbin]
    have hdn : xbin .eql 0 (nv (n + 1)) (nv 0) = some (.bool false) := by simp [xbin]; omega
    simp (disch := (first | omega | (simp only [stLen] <;> omega) | (simp only [all_nv]; done) | rfl)) only [zA, zB, zC, zD, zF, zG, zH, Nat.reduceEqDiff, Nat.reduceLT, Nat.reduceLeDiff, ↓reduceIte, t1, hnn, hd10Y, d1, hdn, d2', d3', d4', d6', d7', l1, e2, e3, e4, e5, e6, e7]
    exact (((hpre6.trans hp7).trans hpY).trans hp10).app _
end Go.Sim
