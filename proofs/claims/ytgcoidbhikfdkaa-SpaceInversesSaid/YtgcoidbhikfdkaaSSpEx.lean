/- Part of the proof: SpEx. -/
import Derived.Test.YtgcoidbhikfdkaaSPfFieldL
import Derived.Test.YtgcoidbhikfdkaaSPfFieldQToPfRefA
import Derived.Test.YtgcoidbhikfdkaaSPfRefBToZzXfS
import Derived.Test.YtgcoidbhikfdkaaSSimX3
import Derived.Test.YtgcoidbhikfdkaaSSpG1
import Derived.Test.YtgcoidbhikfdkaaSSpAToSpU
import Derived.Test.YtgcoidbhikfdkaaSSpW3ToSpX10
set_option linter.all false
set_option maxRecDepth 100000
namespace Go.Sim.Pf
open Go Go.Proofs
noncomputable def oF2 (g0 : Nat) (fn : Nat → Nat → List Nat → Nat → Nat → Nat) : CallT := fun g args H => bif Nat.beq g g0 then match args with
  | [f, .int .i64 (.ofNat x), .int .i64 (.ofNat y)] => match fldOf H f with
    | some (p, e, m) => bif Nat.blt x 1000 && Nat.blt y 1000 then forceN (fn p e m x y) fun n => some (.int .i64 (.ofNat n), H) else none
    | none => none
  | _ => none else none
theorem oF2_ok {g0 : Nat} {fn : Nat → Nat → List Nat → Nat → Nat → Nat}
    (hs : ∀ {p e b c x y : Nat} {m : List Nat} {H : AH} {el : TypeId} {op : Option Nat} {r : Bool}, H[b]? = some (.cells (m.map nv) el op r) → m.length = e → (∀ z ∈ m, z < p) → 2 ≤ p → 1 ≤ e → e ≤ 6 → p ^ e ≤ 64 → x < 1000 → y < 1000 → FN Try.prog g0 [fldv p e b e c, nv x, nv y] H (fun v H' => v = nv (fn p e m x y) ∧ H' = H)) : CallOk Try.prog (oF2 g0 fn) := by
  intro g args H v H' h
  unfold oF2 at h
  cases hg : Nat.beq g g0 with
  | false => rw [hg] at h; cases h
  | true =>
    rw [hg] at h
    simp only [cond_true] at h
    have hg := Nat.eq_of_beq_eq_true hg
    subst hg
    split at h
    · rename_i f x y
      split at h
      · rename_i p e m hf
        cases hk : (Nat.blt x 1000 && Nat.blt y 1000) with
        | false => rw [hk] at h; cases h
        | true =>
          rw [hk] at h
          simp only [cond_true, forceN_eq'] at h
          cases h
          simp only [Bool.and_eq_true] at hk
          obtain ⟨⟨b, c, el, op, r, rfl, hb⟩, h1, h2, h3, h4, h5, h6⟩ := fldOf_ok hf
          exact ⟨hs hb h1 h2 h3 h4 h5 h6 (Nat.le_of_ble_eq_true hk.1) (Nat.le_of_ble_eq_true hk.2), Keep.refl (Nat.le_refl _)⟩
      · cases h
    · cases h
noncomputable def oF1 (g0 : Nat) (fn : Nat → Nat → List Nat → Nat → Nat) (K : Nat → Value) : CallT := fun g args H => bif Nat.beq g g0 then match args with
  | [f, .int .i64 (.ofNat x)] => match fldOf H f with
    | some (p, e, m) => bif Nat.blt x 1000 then forceN (fn p e m x) fun n => some (K n, H) else none
    | none => none
  | _ => none else none
theorem oF1_ok {g0 : Nat} {fn : Nat → Nat → List Nat → Nat → Nat} {K : Nat → Value}
    (hs : ∀ {p e b c x : Nat} {m : List Nat} {H : AH} {el : TypeId} {op : Option Nat} {r : Bool}, H[b]? = some (.cells (m.map nv) el op r) → m.length = e → (∀ z ∈ m, z < p) → 2 ≤ p → 1 ≤ e → e ≤ 6 → p ^ e ≤ 64 → x < 1000 → FN Try.prog g0 [fldv p e b e c, nv x] H (fun v H' => v = K (fn p e m x) ∧ H' = H)) : CallOk Try.prog (oF1 g0 fn K) := by
  intro g args H v H' h
  unfold oF1 at h
  cases hg : Nat.beq g g0 with
  | false => rw [hg] at h; cases h
  | true =>
    rw [hg] at h
    simp only [cond_true] at h
    have hg := Nat.eq_of_beq_eq_true hg
    subst hg
    split at h
    · rename_i f x
      split at h
      · rename_i p e m hf
        cases hk : (Nat.blt x 1000) with
        | false => rw [hk] at h; cases h
        | true =>
          rw [hk] at h
          simp only [cond_true, forceN_eq'] at h
          cases h
          obtain ⟨⟨b, c, el, op, r, rfl, hb⟩, h1, h2, h3, h4, h5, h6⟩ := fldOf_ok hf
          exact ⟨hs hb h1 h2 h3 h4 h5 h6 (Nat.le_of_ble_eq_true hk), Keep.refl (Nat.le_refl _)⟩
      · cases h
    · cases h
noncomputable def oF0 (g0 : Nat) (fn : Nat → Nat → List Nat → Nat) (K : Nat → Value) : CallT := fun g args H => bif Nat.beq g g0 then match args with
  | [f] => match fldOf H f with
    | some (p, e, m) => forceN (fn p e m) fun n => some (K n, H)
    | none => none
  | _ => none else none
theorem oF0_ok {g0 : Nat} {fn : Nat → Nat → List Nat → Nat} {K : Nat → Value}
    (hs : ∀ {p e b c : Nat} {m : List Nat} {H : AH} {el : TypeId} {op : Option Nat} {r : Bool}, H[b]? = some (.cells (m.map nv) el op r) → m.length = e → (∀ z ∈ m, z < p) → 2 ≤ p → 1 ≤ e → e ≤ 6 → p ^ e ≤ 64 → FN Try.prog g0 [fldv p e b e c] H (fun v H' => v = K (fn p e m) ∧ H' = H)) : CallOk Try.prog (oF0 g0 fn K) := by
  intro g args H v H' h
  unfold oF0 at h
  cases hg : Nat.beq g g0 with
  | false => rw [hg] at h; cases h
  | true =>
    rw [hg] at h
    simp only [cond_true] at h
    have hg := Nat.eq_of_beq_eq_true hg
    subst hg
    split at h
    · rename_i f
      split at h
      · rename_i p e m hf
        simp only [forceN_eq'] at h
        cases h
        obtain ⟨⟨b, c, el, op, r, rfl, hb⟩, h1, h2, h3, h4, h5, h6⟩ := fldOf_ok hf
        exact ⟨hs hb h1 h2 h3 h4 h5 h6, Keep.refl (Nat.le_refl _)⟩
      · cases h
    · cases h
noncomputable def oFld : CallT := orO oMul (orO (oF2 97 fun p e _ x y => addF p e x y) (orO (oF2 144 fun p e _ x y => subF p e x y) (orO (oF1 96 (fun p e _ x => subF p e 0 x) nv) (orO (oF1 138 (fun p e m x => (powZ p e m x (-1)).1 * 64 + (powZ p e m x (-1)).2) fun n => .tuple [nv (n / 64), nv (n % 64)].toArray)
  (orO (oF0 88 (fun p e _ => p ^ e) nv) (orO (oF0 87 (fun p e m => if validB p e m then 1 else 0) fun n => .bool (Nat.beq n 1)) (oKn 110 kMakr0)))))))
theorem powZ_err (p e : Nat) (m : List Nat) (x : Nat) : (powZ p e m x (-1)).2 < 64 := by
  unfold powZ
  split
  · simp
  · split <;> simp
theorem oFld_ok : CallOk Try.prog oFld := by
  refine CallOk.or oMul_ok (CallOk.or (oF2_ok ?_) (CallOk.or (oF2_ok ?_) (CallOk.or (oF1_ok ?_) (CallOk.or (oF1_ok ?_) (CallOk.or (oF0_ok ?_) (CallOk.or (oF0_ok ?_) (oKn_ok kMakr0_ok)))))))
  · intro p e b c x y m H el op r hb h1 h2 h3 h4 h5 h6 hx hy
    exact add_spec h3 h4 h5 rfl h6 hx hy
  · intro p e b c x y m H el op r hb h1 h2 h3 h4 h5 h6 hx hy
    exact sub_spec h3 h4 h5 rfl h6 hx hy
  · intro p e b c x m H el op r hb h1 h2 h3 h4 h5 h6 hx
    exact neg_spec h3 h4 h5 rfl h6 hx
  · intro p e b c x m H el op r hb h1 h2 h3 h4 h5 h6 hx
    have hz := powZ_err p e m x
    have e1 : ((powZ p e m x (-1)).1 * 64 + (powZ p e m x (-1)).2) / 64 = (powZ p e m x (-1)).1 := by omega
    have e2 : ((powZ p e m x (-1)).1 * 64 + (powZ p e m x (-1)).2) % 64 = (powZ p e m x (-1)).2 := by omega
    rw [e1, e2]
    exact inv_spec hb h1 h2 h3 h4 h5 h6 hx
  · intro p e b c m H el op r hb h1 h2 h3 h4 h5 h6
    exact size_spec h3 h4 h5 rfl h6
  · intro p e b c m H el op r hb h1 h2 h3 h4 h5 h6
    have hp64 : p ≤ 64 := by have := pow_le64 (k := 1) h3 h4 h6; simpa using this
    have := valid_spec (p := p) (e := e) (n := e) (c := c) hb h1.symm (by omega) (by omega) (by omega)
    refine this.mono ?_
    rintro v H' ⟨rfl, rfl⟩
    refine ⟨?_, rfl⟩
    cases validB p e m <;> rfl
def tab2 : List (Option XF) := [none, none, none, none, none, none, none, none, none, none, none, none, none, none, none, none, none, none, none, none, none, none, none, none, none, none, none, none, none, some xf29, none, none, none, some ⟨44, [(.tmp 6)], xd33.er⟩, some ⟨27, [(.tmp 4)], xd34.er⟩, some ⟨19, [(.tmp 4)], xd35.er⟩, none, some ⟨9, [(.tmp 4)], xd37.er⟩, some ⟨66, [(.tmp 6)], xd38.er⟩, none, some ⟨26, [(.tmp 4)], xd40.er⟩, some ⟨48, [(.tmp 6)], xd41.er⟩, none, some ⟨17, [(.tmp 4)], xd43.er⟩, some ⟨21, [(.cell 4 (some 2))], xd44.er⟩, none, some ⟨24, [(.tmp 6)], xd46.er⟩, none, some ⟨13, [(.tmp 6)], xd48.er⟩, none, some ⟨63, [(.tmp 8)], xd50.er⟩, none, none, some ⟨16, [(.cell 4 (some 2))], xd53.er⟩, none, none, none, none, none, none, none, none, some xf62, none, none, none, none, some ⟨20, [(.cell 2 (some 3))], xd67.er⟩, none, none, none, none, none, none, none, none, none, none, none, none, none, none, none, none, none, none, none, some xf87, some xf88, some xf89, some ⟨11, [(.tmp 3)], xd90.er⟩, some ⟨36, [(.tmp 4)], xd91.er⟩, some ⟨128, [(.tmp 4)], xd92.er⟩, some ⟨10, [(.tmp 2)], xd93.er⟩, some ⟨86, [(.tmp 6)], xd94.er⟩, some ⟨9, [(.tmp 4)], xd95.er⟩, some xf96, some xf97, some xf98, some ⟨73, [(.tmp 8), (.tmp 9)], xd99.er⟩, some ⟨8, [(.tmp 2)], xd100.er⟩, some ⟨32, [(.tmp 6)], xd101.er⟩, some ⟨36, [(.tmp 2)], xd102.er⟩, some ⟨27, [(.tmp 4)], xd103.er⟩, some ⟨62, [(.tmp 4), (.tmp 5)], xd104.er⟩, some xf105, some xf106, some xf107, some xf108, some xf109, some xf110, none, none, none, none, none, none, none, none, none, none, none, none, none, none, none, none, none, none, none, none, none, none, none, some xf134, some xf135, some xf136, some xf137, some xf138, some ⟨38, [], xd139.er⟩, some ⟨59, [], xd140.er⟩, some xf141, some xf142, some ⟨19, [(.tmp 4)], xd143.er⟩, some xf144, some xf145, some xf146, some xf147, some xf148, some ⟨27, [(.tmp 4)], xd149.er⟩, some ⟨36, [(.tmp 2)], xd150.er⟩, some xf151, some xf152, some xf153, some xf154, some xf155, some xf156, none, none, none, none, none, none, none, none, none, none, none, none, none, none, none, none, some xf173, some xf174, some xf175, some xf176, some xf177, some ⟨27, [(.tmp 4)], xd178.er⟩, some xf179, some xf180, some xf181, none, none, none, none, none, none, none, none, some xf190, some xf191, none, some xf193]
theorem tab2_ok : TabOk Try.prog 0 tab2 := (.n (.n (.n (.n (.n (.n (.n (.n (.n (.n (.n (.n (.n (.n (.n (.n (.n (.n (.n (.n (.n (.n (.n (.n (.n (.n (.n (.n (.n (.s xf29_ok (.n (.n (.n (.s xd33_ok (.s xd34_ok (.s xd35_ok (.n (.s xd37_ok (.s xd38_ok (.n (.s xd40_ok (.s xd41_ok (.n (.s xd43_ok (.s xd44_ok (.n (.s xd46_ok (.n (.s xd48_ok (.n (.s xd50_ok (.n (.n (.s xd53_ok (.n (.n (.n (.n (.n (.n (.n (.n (.s xf62_ok (.n (.n (.n (.n (.s xd67_ok (.n (.n (.n (.n (.n (.n (.n (.n (.n (.n (.n (.n (.n (.n (.n (.n (.n (.n (.n (.s xf87_ok (.s xf88_ok (.s xf89_ok (.s xd90_ok (.s xd91_ok (.s xd92_ok (.s xd93_ok (.s xd94_ok (.s xd95_ok (.s xf96_ok (.s xf97_ok (.s xf98_ok (.s xd99_ok (.s xd100_ok (.s xd101_ok (.s xd102_ok (.s xd103_ok (.s xd104_ok (.s xf105_ok (.s xf106_ok (.s xf107_ok (.s xf108_ok (.s xf109_ok (.s xf110_ok (.n (.n (.n (.n (.n (.n (.n (.n (.n (.n (.n (.n (.n (.n (.n (.n (.n (.n (.n (.n (.n (.n (.n (.s xf134_ok (.s xf135_ok (.s xf136_ok (.s xf137_ok (.s xf138_ok (.s xd139_ok (.s xd140_ok (.s xf141_ok (.s xf142_ok (.s xd143_ok (.s xf144_ok (.s xf145_ok (.s xf146_ok (.s xf147_ok (.s xf148_ok (.s xd149_ok (.s xd150_ok (.s xf151_ok (.s xf152_ok (.s xf153_ok (.s xf154_ok (.s xf155_ok (.s xf156_ok (.n (.n (.n (.n (.n (.n (.n (.n (.n (.n (.n (.n (.n (.n (.n (.n (.s xf173_ok (.s xf174_ok (.s xf175_ok (.s xf176_ok (.s xf177_ok (.s xd178_ok (.s xf179_ok (.s xf180_ok (.s xf181_ok (.n (.n (.n (.n (.n (.n (.n (.n (.s xf190_ok (.s xf191_ok (.n (.s xf193_ok .z))))))))))))))))))))))))))))))))))))))))))))))))))))))))))))))))))))))))))))))))))))))))))))))))))))))))))))))))))))))))))))))))))))))))))))))))))))))))))))))))))))))))))))))))))))))))))))))))))
noncomputable def xfT2 (g : FuncId) : Option XF := Option.rec none (fun x => x) (nth tab2 g)
theorem xfT2_ok (g : FuncId) (xf : XF) (h : xfT2 g = some xf) : compF Try.prog g = some xf := by
  unfold xfT2 at h
  cases e : nth tab2 g with
  | none => rw [e] at h; cases h
  | some x =>
    rw [e] at h
    have := tab2_ok g xf (by rw [e]; exact congrArg some h)
    rwa [Nat.zero_add] at this
def wr5 (g : Nat) : Bool := Nat.beq g 92 || Nat.beq g 139 || Nat.beq g 140
theorem exS_run : kChk (callM xfT2 oFld wr5 100 14 0 29 [] []) (.val (.bool true)) = true := by kernel_rfl
theorem exS_known : KnownOk Try.prog 29 [] (.val (.bool true)) := known_ofM mixed xfT2_ok oFld_ok rfl exS_run
theorem exOK : ExOK := fun H => exS_known H
end Go.Sim.Pf
