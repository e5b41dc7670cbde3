/- The semantic simulation logic, part 14: operations, their types looked up: what they come to is right. -/
import Derived.Test.YtaepmmdbhikjlaaSimM
namespace Go.Sim
open Go

theorem xpure_sim {P : Program} {o : Oper} {x : XO} {vs : List Value} {v : Value} (h : cop P o = some x) (hv : xpure x vs = some v) (H : AH) : RunSim P o vs H v H := by
  cases ho : o.op
  case move a =>
    simp only [cop, ho, Option.some.injEq] at h; subst h
    have := xp_mov hv; subst this
    exact runSim_move (.inl ho)
  case assign a =>
    simp only [cop, ho, Option.some.injEq] at h; subst h
    have := xp_mov hv; subst this
    exact runSim_move (.inr ho)
  case pick a b c =>
    simp only [cop, ho, Option.some.injEq] at h; subst h
    obtain ⟨_, _, _, rfl, rfl⟩ := xp_pick hv
    exact runSim_pick ho
  case binOp op t a b t' =>
    simp only [cop, ho, Option.some.injEq] at h; subst h
    obtain ⟨_, _, rfl, h1⟩ := xp_bin hv
    exact runSim_binOp ho (xbin_ebin h1)
  case unOp op t a =>
    simp only [cop, ho, Option.some.injEq] at h; subst h
    obtain ⟨_, rfl, h1⟩ := xp_un hv
    exact runSim_unOp ho h1
  case convert s d a =>
    simp only [cop, ho] at h
    split at h
    · rename_i hs
      simp only [Option.map_eq_some_iff] at h
      obtain ⟨k, h1, rfl⟩ := h
      obtain ⟨_, _, rfl, rfl⟩ := xp_conv hv
      exact runSim_convert_int ho hs h1
    · cases h
  case extract a ix =>
    simp only [cop, ho, Option.some.injEq] at h; subst h
    obtain ⟨_, rfl, h1⟩ := xp_ext hv
    exact runSim_extract ho h1
  case load t a =>
    simp only [cop, ho, Option.map_eq_some_iff] at h
    obtain ⟨k, h1, rfl⟩ := h
    exact absurd hv xp_ld
  case alloc e =>
    simp only [cop, ho] at h
    split at h
    · split at h
      · cases h; exact absurd hv xp_new
      · cases h
    · cases h
  case box e a =>
    simp only [cop, ho, Option.some.injEq] at h; subst h
    exact absurd hv xp_box
  case store t a b =>
    simp only [cop, ho, Option.map_eq_some_iff] at h
    obtain ⟨k, h1, rfl⟩ := h
    exact absurd hv xp_st
  case fieldAddr s a f =>
    simp only [cop, ho, Option.map_eq_some_iff] at h
    obtain ⟨⟨off, ft⟩, h1, rfl⟩ := h
    obtain ⟨_, rfl, rfl⟩ := xp_fld hv
    exact runSim_fieldAddr ho h1
  case indexAddr t a b =>
    simp only [cop, ho] at h
    split at h
    · rename_i n e ht
      simp only [Option.map_eq_some_iff] at h
      obtain ⟨sz, h1, rfl⟩ := h
      obtain ⟨ad, k, i, rfl, q1, q2, q3, rfl⟩ := xp_ixA hv
      refine runSim_indexAddr ho ?_
      simp only [eindex, ht, q1, h1]
      rw [if_pos ⟨q2, q3⟩]
    · split at h
      · rename_i e ht
        simp only [Option.map_eq_some_iff] at h
        obtain ⟨sz, h1, rfl⟩ := h
        obtain ⟨ad, l, c, k, i, rfl, q1, q2, q3, rfl⟩ := xp_ixS hv
        refine runSim_indexAddr ho ?_
        simp only [eindex, ht, q1, h1]
        rw [if_pos ⟨q2, q3⟩]
      · cases h
  case slice t a lo hi mx =>
    cases mx with
    | some m => simp [cop, ho] at h
    | none =>
      simp only [cop, ho] at h
      split at h
      · rename_i n e ht
        simp only [Option.map_eq_some_iff] at h
        obtain ⟨sz, h1, rfl⟩ := h
        obtain ⟨u, us, l, hh, rfl, q1, q2⟩ := xp_slA ht h1 hv
        exact runSim_slice ho q1 q2
      · split at h
        · rename_i e ht
          simp only [Option.map_eq_some_iff] at h
          obtain ⟨sz, h1, rfl⟩ := h
          obtain ⟨u, us, l, hh, rfl, q1, q2⟩ := xp_slS ht h1 hv
          exact runSim_slice ho q1 q2
        · cases h
  case makeSlice t a b =>
    simp only [cop, ho] at h
    repeat (split at h; skip)
    all_goals first | (cases h; exact absurd hv xp_make) | cases h
  case buildSlice t len parts =>
    simp only [cop, ho] at h
    repeat (split at h; skip)
    all_goals first | (cases h; exact absurd hv xp_bsl) | cases h
  case makeFunc f first cap =>
    cases f with
    | func g =>
      simp only [cop, ho, Option.some.injEq] at h; subst h
      obtain ⟨q1, rfl⟩ := xp_fn hv
      have := runSim_makeFunc (H := H) (u := vs.take first.size) (v := vs.drop first.size) ho (P := P) (by simp; omega) (by simp; omega)
      rwa [List.take_append_drop] at this
    | _ => simp [cop, ho] at h
  case build t parts =>
    simp only [cop, ho] at h
    split at h
    · rename_i z hz
      split at h
      · rename_i hg
        split at h
        · rename_i fs hu
          split at h
          · rename_i pl hm
            simp only [Option.map_eq_some_iff] at h
            obtain ⟨ppl, h1, rfl⟩ := h
            obtain ⟨l, q1, rfl⟩ := xp_bld hv
            exact runSim_build_struct ho hz hg (.inl ⟨fs, pl, hu, hm, rfl⟩) (xfill_fill _ _ _ _ _ h1 q1)
          · cases h
        · rename_i n e hu
          simp only [Option.map_eq_some_iff] at h
          obtain ⟨sz, h1, rfl⟩ := h
          obtain ⟨l, q1, rfl⟩ := xp_bld hv
          refine runSim_build_struct ho hz hg (.inr ⟨n, e, sz, hu, h1, rfl⟩) (xfill_fill _ _ _ _ _ ?_ q1)
          rw [map_mul_place, List.map_map]
          rfl
        · cases h
      · cases h
    · cases h
  case field t a f =>
    simp only [cop, ho] at h
    split at h
    · rename_i fs hu
      split at h
      · rename_i fd hf
        simp only [Option.map_eq_some_iff] at h
        obtain ⟨sz, h1, rfl⟩ := h
        obtain ⟨cs, rfl, q⟩ := xp_prt hv
        exact runSim_field_agg ho hu hf h1 q
      · cases h
    · cases h
  case index t a b =>
    simp only [cop, ho] at h
    split at h
    · rename_i len e ht
      split at h
      · rename_i es sz h1 h2
        cases h
        obtain ⟨cs, k, n, rfl, q1, q2, q3⟩ := xp_ixV hv
        exact runSim_index_agg ho ht h1 h2 q1 q2 q3
      · cases h
    · cases h
  case call c =>
    simp only [cop, ho] at h
    split at h
    · cases h; exact absurd hv xp_call
    · rename_i hc
      split at h
      · rename_i x t ha hty
        have hce := call_eq hc ha hty
        rw [hce] at ho
        split at h
        · rename_i hu
          cases h
          obtain ⟨s, rfl, rfl⟩ := xp_lenT hv
          exact runSim_len ho (by simp [elen, hu])
        · rename_i e hu
          cases h
          obtain ⟨s, n, c, rfl, rfl⟩ := xp_lenS hv
          exact runSim_len ho (by simp [elen, hu])
        · rename_i n e hu
          cases h
          obtain ⟨u, rfl, rfl⟩ := xp_lenA hv
          exact runSim_len ho (by simp [elen, hu])
        · cases h
      · cases h
    · rename_i hc
      split at h
      · rename_i x y ha
        have hce := call_eq hc ha rfl
        rw [hce] at ho
        cases h
        obtain ⟨k, a, b, rfl, rfl⟩ := xp_min2 hv
        exact runSim_min ho
      · cases h
    · rename_i hc
      split at h
      · rename_i x y ha
        have hce := call_eq hc ha rfl
        rw [hce] at ho
        cases h
        obtain ⟨k, a, b, rfl, rfl⟩ := xp_max2 hv
        exact runSim_max ho
      · cases h
    · repeat (split at h; skip)
      all_goals first | (cases h; exact absurd hv xp_app) | cases h
    · cases h
  all_goals simp [cop, ho] at h

/-! ### loads, new memory, what acts -/
theorem cop_ld {P : Program} {o : Oper} {sz : Option Nat} (h : cop P o = some (.ld sz)) : ∃ t a, o.op = .load t a ∧ partT P t = some sz := by
  cases ho : o.op
  case load t a =>
    simp only [cop, ho, Option.map_eq_some_iff] at h
    obtain ⟨k, h1, h2⟩ := h
    cases h2
    exact ⟨_, _, rfl, h1⟩
  all_goals exfalso
  all_goals simp only [cop, ho] at h
  all_goals (repeat' split at h)
  all_goals first | contradiction | (simp at h; done)

theorem xload_sim {P : Program} {o : Oper} {sz : Option Nat} {vs : List Value} {v : Value} {H : AH} (h : cop P o = some (.ld sz)) (hv : xload sz H vs = some v) : RunSim P o vs H v H := by
  obtain ⟨t, a, ho, hp⟩ := cop_ld h
  rcases vs with _ | ⟨u, _ | ⟨u2, us⟩⟩
  · simp [xload] at hv
  · cases u <;> first | (exfalso; simp [xload] at hv; done) | skip
    rename_i ad
    cases ad with
    | none => simp [xload] at hv
    | some ad =>
      refine runSim_load ho ?_
      simp only [xload] at hv
      split at hv
      · rename_i c e op ro h1 h2
        simp only [eload, h1, h2]
        unfold partT at hp
        split at hp
        · cases hp
        · rename_i hn
          rw [if_neg hn]
          split at hp
          · rename_i hag
            rw [if_pos hag]
            simp only [Option.map_eq_some_iff] at hp
            obtain ⟨n, h3, rfl⟩ := hp
            simp only [h3]
            exact hv
          · rename_i hag
            cases hp
            rw [if_neg hag]
            exact hv
      · cases hv
  · simp [xload] at hv

theorem xnew_sim {P : Program} {o : Oper} {x : XO} {vs c : List Value} {e : TypeId} {mk : Nat → Value} (h : cop P o = some x) (hv : xnew x vs = some (c, e, mk)) : NewSim P o vs c e mk := by
  cases ho : o.op
  case alloc t =>
    simp only [cop, ho] at h
    split at h
    · rename_i z hz
      split at h
      · rename_i hg
        cases h
        cases vs with
        | nil =>
          simp [xnew] at hv
          obtain ⟨rfl, rfl, rfl⟩ := hv
          rw [cellsL_eq]
          exact newSim_alloc ho hz hg
        | cons _ _ => simp [xnew] at hv
      · cases h
    · cases h
  case box t a =>
    simp only [cop, ho, Option.some.injEq] at h; subst h
    rcases vs with _ | ⟨u, _ | ⟨u2, us⟩⟩ <;> simp [xnew] at hv
    obtain ⟨rfl, rfl, rfl⟩ := hv
    rw [cellsL_eq]
    exact newSim_box ho
  case makeSlice t a b =>
    simp only [cop, ho] at h
    split at h
    · rename_i el hs
      split at h
      · rename_i ti hti
        split at h
        · rename_i z hz
          split at h
          · rename_i hc
            cases h
            rcases vs with _ | ⟨u, _ | ⟨u2, _ | ⟨u3, us⟩⟩⟩ <;> first | (exfalso; simp [xnew] at hv; done) | skip
            cases u <;> first | (exfalso; simp [xnew] at hv; done) | skip
            cases u2 <;> first | (exfalso; simp [xnew] at hv; done) | skip
            simp only [xnew] at hv
            split at hv
            · rename_i hb
              cases hv
              refine newSim_makeSlice ho ?_
              simp only [emake, hs, hti, hz]
              rw [if_pos ⟨hb.1, hb.2.1, hb.2.2.1, hb.2.2.2, hc.1, hc.2⟩]
            · cases hv
          · cases h
        · cases h
      · cases h
    · cases h
  case buildSlice t len parts =>
    simp only [cop, ho] at h
    split at h
    · rename_i el hs
      split at h
      · rename_i sz z hsz hz
        split at h
        · rename_i hc
          cases h
          simp only [xnew] at hv
          split at hv
          · rename_i l hl
            cases hv
            refine newSim_buildSlice ho ?_
            simp only [ebuildSlice, hs, hsz, hz]
            rw [if_pos hc]
            have := xfill_fill (place := fun i => some (i * sz, sz)) (parts.toList.map (·.1)) vs _ _ _ (map_mul_place sz _) (by rw [List.map_map]; exact hl)
            unfold eparts
            rw [this]
          · cases hv
        · cases h
      · cases h
    · cases h
  all_goals exfalso
  all_goals simp only [cop, ho] at h
  all_goals (repeat' split at h)
  all_goals first | contradiction | (cases h; done) | (simp only [Option.some.injEq] at h; subst h; simp [xnew] at hv; done) | (simp only [Option.map_eq_some_iff] at h; obtain ⟨_, _, rfl⟩ := h; simp [xnew] at hv; done)

theorem xact_sim {P : Program} {o : Oper} {x : XO} {vs : List Value} {v : Value} {H H' : AH} (h : cop P o = some x) (hv : xact x H vs = some (v, H')) : RunSim P o vs H v H' := by
  cases ho : o.op
  case store t a b =>
    simp only [cop, ho, Option.map_eq_some_iff] at h
    obtain ⟨n, hn, rfl⟩ := h
    rcases vs with _ | ⟨u, _ | ⟨u2, _ | ⟨u3, us⟩⟩⟩ <;> first | (exfalso; simp [xact] at hv; done) | skip
    cases u <;> first | (exfalso; simp [xact] at hv; done) | skip
    rename_i ad
    cases ad <;> first | (exfalso; simp [xact] at hv; done) | skip
    simp only [xact] at hv
    split at hv
    · rename_i c e op h1 h2
      split at hv
      · rename_i hc
        obtain ⟨c1, c2, c3⟩ := hc
        cases hv
        refine runSim_store ho ?_
        rw [cellsL_eq] at c1 c2
        simp only [estore, h1, h2]
        have c1' : u2.cells.size = n := by simpa using c1
        rw [if_pos ⟨by rw [hn, c1'], c2, by omega⟩]
        congr 2
        rw [cellsL_eq, putL_eq (by rw [c1]; exact c3)]
      · cases hv
    · cases hv
  case call c =>
    simp only [cop, ho] at h
    split at h
    · cases h; simp [xact] at hv
    · repeat' split at h
      all_goals first | (cases h; done) | (cases h; simp [xact] at hv; done)
    · repeat' split at h
      all_goals first | (cases h; done) | (cases h; simp [xact] at hv; done)
    · repeat' split at h
      all_goals first | (cases h; done) | (cases h; simp [xact] at hv; done)
    · rename_i hc
      split at h
      · rename_i x y t t' ha hty
        have hce := call_eq hc ha hty
        rw [hce] at ho
        split at h
        · rename_i e e2 hs hs2
          split at h
          · rename_i ti hti
            split at h
            · rename_i z hz
              split at h
              · rename_i hcz
                cases h
                rcases vs with _ | ⟨u, _ | ⟨u2, _ | ⟨u3, us⟩⟩⟩ <;> first | (exfalso; simp [xact] at hv; done) | skip
                refine runSim_append ho ?_
                simp only [xact] at hv
                simp only [eappend, hs, hs2, hti, hz]
                split at hv
                · rename_i new hnew
                  split at hv
                  · rename_i hc1
                    simp only [hnew]
                    rw [if_pos ⟨hc1.1, hc1.2.1, hcz.1, hcz.2, hc1.2.2⟩]
                    split at hv
                    · exact hv
                    · split at hv
                      · rename_i h1 h2
                        simp only [h1, h2]
                        split at hv
                        · rename_i hle
                          rw [if_pos hle]
                          split at hv
                          · rename_i h0
                            rw [if_pos h0]
                            exact hv
                          · rename_i h0
                            rw [if_neg h0]
                            split at hv
                            · rename_i hr
                              rw [if_pos hr]
                              rw [putL_eq hr.2] at hv
                              exact hv
                            · cases hv
                        · rename_i hle
                          rw [if_neg hle]
                          exact hv
                      · cases hv
                    · cases hv
                  · cases hv
                · cases hv
              · cases h
            · cases h
          · cases h
        · cases h
      · cases h
    · cases h
  all_goals exfalso
  all_goals simp only [cop, ho] at h
  all_goals (repeat' split at h)
  all_goals first | contradiction | (cases h; done) | (simp only [Option.some.injEq] at h; subst h; simp [xact] at hv; done) | (simp only [Option.map_eq_some_iff] at h; obtain ⟨_, _, rfl⟩ := h; simp [xact] at hv; done)

end Go.Sim
