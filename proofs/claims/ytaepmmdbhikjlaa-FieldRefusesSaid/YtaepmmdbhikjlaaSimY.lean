/- The semantic simulation logic, part 24: appends to a row of numbers. -/
import Derived.Test.YtaepmmdbhikjlaaSimW
import Derived.Test.YtaepmmdbhikjlaaSimQ2
namespace Go.Sim
open Go

/-- s, a row of its own that is full, and u, a row of numbers: what append makes of both. -/
theorem app_nv {H : AH} {e : TypeId} {bytes b b2 o2 n m c2 : Nat} {l l2 : List Nat} {cc : List Value} {e2 : TypeId} {opn op2 : Option Nat} {r2 : Bool} (hb : H[b]? = some (.cells (l.map nv) e opn false)) (hn : n = l.length) (hopn : opn = none ∨ opn = some 1)
    (hb2 : H[b2]? = some (.cells cc e2 op2 r2)) (hcc : (cc.drop o2).take m = l2.map nv) (hm : m = l2.length) (hm0 : 0 < m) (hfit : o2 + m ≤ cc.length) (hbig : (n + m) * bytes ≤ 140737488355328) (hbig2 : n + m ≤ 9223372036854775807) :
    ∃ H1, xact (.app e 1 bytes) H [.slice (some ⟨b, 0, none⟩) n n, .slice (some ⟨b2, o2, none⟩) m c2] = some (.slice (some ⟨H.length, 0, none⟩) (n + m) (n + m), H1 ++ [.cells ((l ++ l2).map nv) e (some 1) false]) ∧
      H1.length = H.length ∧ ∀ b', b' ≠ b → H1[b']? = H[b']? := by
  have hrow : erow H (.slice (some ⟨b2, o2, none⟩) m c2) (slen (.slice (some ⟨b2, o2, none⟩) m c2) * 1) = some (l2.map nv) := by
    simp only [erow, slen, hb2, Nat.mul_one]
    rw [if_pos hfit, hcc]
  have hone : (l2.map nv).all one = true := all_nv
  have hlen : (l.map nv).length = n := by simp [hn]
  rcases hopn with rfl | rfl
  · refine ⟨H, ?_, rfl, fun _ _ => rfl⟩
    simp only [xact, hrow]
    rw [if_pos ⟨by simpa [slen] using hbig, by simpa [slen] using hbig2, hone⟩]
    simp only [hb, slen]
    rw [if_neg (by omega), if_pos trivial, if_pos (by rw [hlen]; omega)]
    simp [hn, List.take_of_length_le]
  · refine ⟨H.set b .dead, ?_, by simp, fun b' hb' => List.getElem?_set_ne (Ne.symm hb')⟩
    simp only [xact, hrow]
    rw [if_pos ⟨by simpa [slen] using hbig, by simpa [slen] using hbig2, hone⟩]
    simp only [hb, slen]
    rw [if_neg (by omega), if_neg (by simp), if_pos (by simp [hlen])]
    simp

theorem hat_slice {σ : Nat → Option Nat} {b2 b o l c : Nat} (h : σ b2 = some b) : VR (hat σ) (.slice (some ⟨b2, o, none⟩) l c) (.slice (some ⟨b, o, none⟩) l c) := by
  have := VR.slice (i := hat σ) (a := ⟨b2, o, none⟩) (L := ⟨b, 0, 0, 0⟩) (l := l) (c := c) (by simp [hat, h]) rfl (.inl rfl)
  simpa using this
theorem AR_nv {σ : Nat → Option Nat} {l : List Nat} {e : TypeId} {o : Option Nat} {r : Bool} : AR σ (.cells (l.map nv) e o r) (.cells (l.map nv) e o r) :=
  .cells e o r (VRs.ground (by simp [ground, scal]))
/-- A result that is one new row of numbers. -/
theorem gc1_nv {H H1 : AH} {b l c : Nat} {ns : List Nat} {e : TypeId} {o : Option Nat} {r : Bool} (hb : H.length ≤ b) (hx : H1[b]? = some (.cells (ns.map nv) e o r)) (hk : Keep H.length H H1) {v : Value} (hv : v = .slice (some ⟨b, 0, none⟩) l c) :
    ∃ J k v2 x, H1 = H ++ J ∧ J[k]? = some x ∧ (∀ σ, (∀ b, b < H.length → σ b = some b) → σ H.length = some (H.length + k) → VR (hat σ) v2 v ∧ AR σ x x) ∧
      v2 = .slice (some ⟨H.length, 0, none⟩) l c ∧ x = .cells (ns.map nv) e o r := by
  obtain ⟨J, rfl⟩ := hk.split
  obtain ⟨k, rfl⟩ : ∃ k, b = H.length + k := ⟨b - H.length, by omega⟩
  rw [get_new] at hx
  subst hv
  exact ⟨J, k, _, _, rfl, hx, fun σ _ h => ⟨hat_slice h, AR_nv⟩, rfl, rfl⟩

theorem Keep.step {lo b : Nat} {H H1 H2 Y Z : AH} (hk : Keep lo H H1) (hb : lo ≤ b) (hl : H2.length = (H1 ++ Y).length) (hk2 : ∀ b', b' ≠ b → H2[b']? = (H1 ++ Y)[b']?) : Keep lo H (H2 ++ Z) := by
  have h1 := hk.1
  have h2 : H2.length = H1.length + Y.length := by simpa using hl
  refine ⟨by simp; omega, fun n hn => ?_⟩
  rw [List.getElem?_append_left (by omega), hk2 n (by omega), List.getElem?_append_left (by omega)]
  exact hk.2 n hn

theorem app_none {H : AH} {e : TypeId} {bytes b b2 o2 n m c2 : Nat} {l l2 : List Nat} {cc : List Value} {e2 : TypeId} {op2 : Option Nat} {r2 : Bool} (hb : H[b]? = some (.cells (l.map nv) e none false)) (hn : n = l.length)
    (hb2 : H[b2]? = some (.cells cc e2 op2 r2)) (hcc : (cc.drop o2).take m = l2.map nv) (hm : m = l2.length) (hm0 : 0 < m) (hfit : o2 + m ≤ cc.length) (hbig : (n + m) * bytes ≤ 140737488355328) (hbig2 : n + m ≤ 9223372036854775807) :
    xact (.app e 1 bytes) H [.slice (some ⟨b, 0, none⟩) n n, .slice (some ⟨b2, o2, none⟩) m c2] = some (.slice (some ⟨H.length, 0, none⟩) (n + m) (n + m), H ++ [.cells ((l ++ l2).map nv) e (some 1) false]) := by
  have hrow : erow H (.slice (some ⟨b2, o2, none⟩) m c2) (slen (.slice (some ⟨b2, o2, none⟩) m c2) * 1) = some (l2.map nv) := by
    simp only [erow, slen, hb2, Nat.mul_one]
    rw [if_pos hfit, hcc]
  have hone : (l2.map nv).all one = true := all_nv
  have hlen : (l.map nv).length = n := by simp [hn]
  simp only [xact, hrow]
  rw [if_pos ⟨by simpa [slen] using hbig, by simpa [slen] using hbig2, hone⟩]
  simp only [hb, slen]
  rw [if_neg (by omega), if_pos trivial, if_pos (by rw [hlen]; omega)]
  simp [hn, List.take_of_length_le]

theorem xp_slShi {sz b o l c h : Nat} {k : IntKind} (hh : h ≤ c) : xpure (.slS sz false true) [.slice (some ⟨b, o, none⟩) l c, .int k h] = some (.slice (some ⟨b, o, none⟩) h c) := by
  simp [xpure, bnds]
  omega

theorem madeL_zero (n : Nat) : madeL (nv 0) n = (List.replicate n 0).map nv := by
  unfold madeL madeCells
  refine List.ext_getElem (by simp) fun i h1 h2 => ?_
  simp [Value.cells, Nat.mod_one]
theorem xnew_makeN {e : TypeId} {bytes a : Nat} (h : bytes * a ≤ 281474976710656) (h2 : a ≤ 9223372036854775807) : xnew (.make (nv 0) 1 bytes e) [nv a, nv a] = some ((List.replicate a 0).map nv, e, fun b => .slice (some ⟨b, 0, none⟩) a a) := by
  simp only [xnew]
  rw [if_pos ⟨by omega, by omega, by omega, by omega⟩]
  simp only [Int.toNat_natCast, Nat.mul_one, madeL_zero]

theorem app_open {H : AH} {e : TypeId} {bytes b b2 o2 n m c2 : Nat} {l l2 : List Nat} {cc : List Value} {e2 : TypeId} {op2 : Option Nat} {r2 : Bool} (hb : H[b]? = some (.cells (l.map nv) e (some 1) false)) (hn : n = l.length)
    (hb2 : H[b2]? = some (.cells cc e2 op2 r2)) (hcc : (cc.drop o2).take m = l2.map nv) (hm : m = l2.length) (hm0 : 0 < m) (hfit : o2 + m ≤ cc.length) (hbig : (n + m) * bytes ≤ 140737488355328) (hbig2 : n + m ≤ 9223372036854775807) :
    xact (.app e 1 bytes) H [.slice (some ⟨b, 0, none⟩) n n, .slice (some ⟨b2, o2, none⟩) m c2] = some (.slice (some ⟨H.length, 0, none⟩) (n + m) (n + m), H.set b .dead ++ [.cells ((l ++ l2).map nv) e (some 1) false]) := by
  have hrow : erow H (.slice (some ⟨b2, o2, none⟩) m c2) (slen (.slice (some ⟨b2, o2, none⟩) m c2) * 1) = some (l2.map nv) := by
    simp only [erow, slen, hb2, Nat.mul_one]
    rw [if_pos hfit, hcc]
  have hone : (l2.map nv).all one = true := all_nv
  have hlen : (l.map nv).length = n := by simp [hn]
  simp only [xact, hrow]
  rw [if_pos ⟨by simpa [slen] using hbig, by simpa [slen] using hbig2, hone⟩]
  simp only [hb, slen]
  rw [if_neg (by omega), if_neg (by simp), if_pos (by simp [hlen])]
  simp

end Go.Sim
