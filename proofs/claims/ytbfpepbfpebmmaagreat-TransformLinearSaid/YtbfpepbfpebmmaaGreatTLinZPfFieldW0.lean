/- Part of the proof: ZPfFieldW0. -/
import Derived.Test.YtbfpepbfpebmmaaGreatTLinZPfFieldT
import Derived.Test.YtbfpepbfpebmmaaGreatTLinZPfFieldL
import Derived.Test.YtbfpepbfpebmmaaGreatTLinZPfFieldOToZPfFieldS
import Derived.Test.YtbfpepbfpebmmaaGreatTLinSimWToSimX2
set_option linter.all false
namespace Go.Sim.Pf
open Go Go.Proofs
theorem rpow_spec {p e:Nat} {H:AH} (hp:2≤p) (hq:p ^ e≤64):FN Tryz.prog 200 [nv p,nv e] H (fun v H'=>v=nv (p ^ e)∧H'=H):=by
  have he:e<64:=by
    have h1:e<2 ^ e:=Nat.lt_two_pow_self
    have h2:2 ^ e≤p ^ e:=Nat.pow_le_pow_left hp e
    omega
  refine FN.gc0 (FN.of_compZ qbs xf200_ok (Nat.le_of_ble_eq_true rfl) ?_)
  simp (disch:=(first|omega|(simp only [List.length_map];omega)|(simp only [qbf]<;>omega)|(simp only [qbd];done)|rfl)) only [↓qbk,zC,zD,zF,zG,zH,Nat.reduceEqDiff,Nat.reduceLT,Nat.reduceLeDiff,↓reduceIte,xf200]
  refine LZ.nat e (fun k s H'=>s.env 0=nv p∧s.env 1=nv e∧s.env 5=nv (p ^ k)∧s.env 6=nv k∧s.ds=[]∧H'=H) ?_ ?_ ?_
  · simp (disch:=(first|omega|(simp only [List.length_map];omega)|(simp only [qbf]<;>omega)|(simp only [qbd];done)|rfl)) only [↓qbk,zC,zD,zF,zG,zH,Nat.reduceEqDiff,Nat.reduceLT,Nat.reduceLeDiff,↓reduceIte]
    simp
  · rintro k s H1 hk ⟨e0,e1,e5,e6,eds,rfl⟩
    have h1:=qc1 (k:=k) hp (by omega) hq
    have h2:=qc1 (k:=k+1) hp (by omega) hq
    rw [Nat.pow_succ] at h2
    simp (disch:=(first|omega|(simp only [List.length_map];omega)|(simp only [qbf]<;>omega)|(simp only [qbd];done)|rfl)) only [↓qbk,zC,zD,zF,zG,zH,Nat.reduceEqDiff,Nat.reduceLT,Nat.reduceLeDiff,↓reduceIte,e0,e1,e5,e6,eds,hk]
    simp [Nat.pow_succ]
  · rintro s H1 ⟨e0,e1,e5,e6,eds,rfl⟩
    simp (disch:=(first|omega|(simp only [List.length_map];omega)|(simp only [qbf]<;>omega)|(simp only [qbd];done)|rfl)) only [↓qbk,zC,zD,zF,zG,zH,Nat.reduceEqDiff,Nat.reduceLT,Nat.reduceLeDiff,↓reduceIte,e0,e1,e5,e6,eds,xf200]
    simp [ground,scal]
theorem qk5 {p e b n c:Nat} {H:AH} (hp:2≤p) (hq:p ^ e≤64):FN Tryz.prog 166 [fldv p e b n c] H (fun v H'=>v=nv (p ^ e)∧H'=H):=by
  refine FN.gc0 (FN.of_compZ qbs xf166_ok (Nat.le_of_ble_eq_true rfl) ?_)
  simp (disch:=omega) only [↓qbk,zC,zD,zF,zG,zH,Nat.reduceEqDiff,Nat.reduceLT,Nat.reduceLeDiff,↓reduceIte,xf166]
  refine FZ.use (rpow_spec hp hq) ?_
  simp (disch:=omega) only [↓qbk,zC,zD,zF,zG,zH,↓reduceIte,xf166]
  simp [ground,scal]
end Go.Sim.Pf
