/- Part of the proof: FrobA. -/
import Derived.Test.YtaepmmdbhikjlaaFieldV
import Derived.Test.YtaepmmdbhikjlaaFieldX
set_option linter.unusedSimpArgs false
namespace Go.Sim
open Go Go.Proofs

/-- The sum and the power after k rounds of a trace. -/
def trS (p e : Nat) (m : List Nat) (x : Nat) : Nat → Nat × Nat
  | 0 => (0, x)
  | k + 1 => (addF p e (trS p e m x k).1 (trS p e m x k).2, powF p e m (trS p e m x k).2 p)
def trF (p e : Nat) (m : List Nat) (x : Nat) : Nat := (trS p e m x e).1

theorem trace_spec {p e b c x : Nat} {m : List Nat} {g : Nat} {E : List Nat} {H : AH} {el : TypeId} {op : Option Nat} {r : Bool} (F : FT p e m g E) (hb : H[b]? = some (.cells (m.map nv) el op r)) (hx : x < p ^ e) :
    FN Try.prog 35 [fldv p e b e c, nv x] H (fun v H' => v = nv (trF p e m x) ∧ H' = H) := by
  have hp := F.hp
  have he6 := F.e6
  have hq := F.q
  have hq2 := F.q2
  have hp64 : p ≤ 64 := by have := pow_le64 (k := 1) F.p2 F.e1 F.q; simpa using this
  have hb2 := fun (Y : AH) => get_old (L := Y) hb
  have hs : ∀ k, (trS p e m x k).1 < p ^ e ∧ (trS p e m x k).2 < p ^ e := by
    intro k
    induction k with
    | zero => exact ⟨by show 0 < p ^ e; omega, hx⟩
    | succ k ih =>
      refine ⟨addF_lt hp, ?_⟩
      show powF p e m (trS p e m x k).2 p < p ^ e
      rw [F.powF _ _ ih.2]
      exact F.pw_lt _ _
  refine FN.gc0 (FN.of_compZ mixed xf35_ok (Nat.le_of_ble_eq_true rfl) ?_)
  have hmin : min e 6 = e := Nat.min_eq_left he6
  simp (disch := (first | omega | (simp only [List.length_map]; omega) | (simp only [List.length_map, List.length_set, List.length_replicate, List.length_append, List.length_cons, List.length_nil] <;> omega) | (simp only [all_nv]; done) | rfl)) only [↓X0_skip, ↓X0_exit, ↓X0_ret, ↓X0_seq, ↓X0_cond, ↓X0_block, ↓X0_loop, ↓X0_reg, ↓E_then_normal, ↓E_then_exit, ↓E_then_ret, ↓E_inBlock_normal, ↓E_inBlock_exit, ↓E_inBlock_ret, ↓E_normal, ↓E_ret, ↓S0_mov, ↓S0_pick, ↓S0_bin, ↓S0_un, ↓S0_conv, ↓S0_ext, ↓S0_fld, ↓S0_ixA, ↓S0_ixS, ↓S0_slA, ↓S0_slS, ↓S0_fn, ↓S0_lenA, ↓S0_lenS, ↓S0_lenT, ↓S0_min2, ↓S0_max2, ↓S0_bld, ↓S0_prt, ↓S0_ixV, ↓S0_ldF, ↓S0_ldT, ↓S0_new, ↓S0_box, ↓S0_make, ↓S0_bsl, ↓S0_st, ↓S0_app, ↓S0_appC, ↓S0_stC, ↓S0_call, ↓S0_callC, ↓S0_guardT, ↓S0_guardF, ↓S0_nil, callZ_f, callZ_y, chkX_nil, chkX_D0, chkX_D1, List.mem_cons, List.not_mem_nil, or_false, true_or, or_true, eq_self, true_implies, false_implies, asB_bool, asNB_bool, bindO_some, bindP_some, bindN_some, bindU_some, bindL_some, letV_eq, letH_eq, condK_bool, guardK_true, guardK_false, pickK_true, pickK_false, xbin_eqlB, xbin_neqB, eun_not, eun_neg, xp_conv', xp_ext', xp_ext'', xp_fld', xp_lenS', xp_lenT', xload_ptr, xact_st, loadB_nv, loadB_c0, loadB_c1, loadB_c2, loadB_c3, loadB_cs, loadB_all, stB_nv, stB_intL, stB_bool, stB_slice, stB_all, get_new, get_new0, set_new, set_new0, cellsL_agg, cellsL_int, cellsL_bool, cellsL_slice, ev_tmp, ev_const, ev_func, put_env, put_none, put_dsS, env0_env, env0_at, List.map_cons, List.map_nil, List.getD_cons_zero, List.getD_cons_succ, List.getElem?_cons_zero, List.getElem?_cons_succ, List.set_cons_zero, List.set_cons_succ, List.append_assoc, List.cons_append, List.nil_append, List.length_append, List.length_cons, List.length_nil, Nat.zero_add, Nat.add_zero, Nat.mul_one, decide_eq_true_eq, decide_eq_false_iff_not, Bool.not_eq_true', Bool.false_eq_true, Bool.true_eq_false, Bool.not_true, Bool.not_false, decide_true, decide_false, unwA_nil, xress_one, xress_two, tup2_some, xres_cell, xres_tmp, ↓reduceIte, Nat.reduceEqDiff, Nat.reduceLT, Nat.reduceLeDiff, Nat.lt_irrefl, Nat.zero_le, not_true_eq_false, ite_true, ite_false, true_and, and_true, and_self, if_true, if_false, ne_eq, not_false_eq_true, xbin_addN, xbin_subN, xbin_mulN, xbin_quoN, xbin_remN, xbin_eqlN, xbin_neqN, xbin_lssN, xbin_leqN, xbin_gtrN, xbin_geqN, xp_ixAN, xp_ixSN, xp_convN, xp_min2N, xp_max2N, xf35, hmin]
  refine LZ.nat e (fun k s H' => s.env 2 = .pointer (some ⟨H.length, 0, none⟩) ∧ s.env 1 = nv (trS p e m x k).2 ∧ s.env 5 = nv (trS p e m x k).1 ∧ s.env 8 = nv e ∧ s.env 9 = nv k ∧ s.ds = [] ∧
     H' = H ++ [.cells [nv p, nv e, .slice (some ⟨b, 0, none⟩) e c] 26 none false]) ?_ ?_ ?_
  · simp (disch := (first | omega | (simp only [List.length_map]; omega) | (simp only [List.length_map, List.length_set, List.length_replicate, List.length_append, List.length_cons, List.length_nil] <;> omega) | (simp only [all_nv]; done) | rfl)) only [↓X0_skip, ↓X0_exit, ↓X0_ret, ↓X0_seq, ↓X0_cond, ↓X0_block, ↓X0_loop, ↓X0_reg, ↓E_then_normal, ↓E_then_exit, ↓E_then_ret, ↓E_inBlock_normal, ↓E_inBlock_exit, ↓E_inBlock_ret, ↓E_normal, ↓E_ret, ↓S0_mov, ↓S0_pick, ↓S0_bin, ↓S0_un, ↓S0_conv, ↓S0_ext, ↓S0_fld, ↓S0_ixA, ↓S0_ixS, ↓S0_slA, ↓S0_slS, ↓S0_fn, ↓S0_lenA, ↓S0_lenS, ↓S0_lenT, ↓S0_min2, ↓S0_max2, ↓S0_bld, ↓S0_prt, ↓S0_ixV, ↓S0_ldF, ↓S0_ldT, ↓S0_new, ↓S0_box, ↓S0_make, ↓S0_bsl, ↓S0_st, ↓S0_app, ↓S0_appC, ↓S0_stC, ↓S0_call, ↓S0_callC, ↓S0_guardT, ↓S0_guardF, ↓S0_nil, callZ_f, callZ_y, chkX_nil, chkX_D0, chkX_D1, List.mem_cons, List.not_mem_nil, or_false, true_or, or_true, eq_self, true_implies, false_implies, asB_bool, asNB_bool, bindO_some, bindP_some, bindN_some, bindU_some, bindL_some, letV_eq, letH_eq, condK_bool, guardK_true, guardK_false, pickK_true, pickK_false, xbin_eqlB, xbin_neqB, eun_not, eun_neg, xp_conv', xp_ext', xp_ext'', xp_fld', xp_lenS', xp_lenT', xload_ptr, xact_st, loadB_nv, loadB_c0, loadB_c1, loadB_c2, loadB_c3, loadB_cs, loadB_all, stB_nv, stB_intL, stB_bool, stB_slice, stB_all, get_new, get_new0, set_new, set_new0, cellsL_agg, cellsL_int, cellsL_bool, cellsL_slice, ev_tmp, ev_const, ev_func, put_env, put_none, put_dsS, env0_env, env0_at, List.map_cons, List.map_nil, List.getD_cons_zero, List.getD_cons_succ, List.getElem?_cons_zero, List.getElem?_cons_succ, List.set_cons_zero, List.set_cons_succ, List.append_assoc, List.cons_append, List.nil_append, List.length_append, List.length_cons, List.length_nil, Nat.zero_add, Nat.add_zero, Nat.mul_one, decide_eq_true_eq, decide_eq_false_iff_not, Bool.not_eq_true', Bool.false_eq_true, Bool.true_eq_false, Bool.not_true, Bool.not_false, decide_true, decide_false, unwA_nil, xress_one, xress_two, tup2_some, xres_cell, xres_tmp, ↓reduceIte, Nat.reduceEqDiff, Nat.reduceLT, Nat.reduceLeDiff, Nat.lt_irrefl, Nat.zero_le, not_true_eq_false, ite_true, ite_false, true_and, and_true, and_self, if_true, if_false, ne_eq, not_false_eq_true, xbin_addN, xbin_subN, xbin_mulN, xbin_quoN, xbin_remN, xbin_eqlN, xbin_neqN, xbin_lssN, xbin_leqN, xbin_gtrN, xbin_geqN, xp_ixAN, xp_ixSN, xp_convN, xp_min2N, xp_max2N]
    simp [trS]
  · rintro k s H1 hk ⟨e2, e1, e5, e8, e9, eds, rfl⟩
    obtain ⟨h1, h2⟩ := hs k
    simp (disch := (first | omega | (simp only [List.length_map]; omega) | (simp only [List.length_map, List.length_set, List.length_replicate, List.length_append, List.length_cons, List.length_nil] <;> omega) | (simp only [all_nv]; done) | rfl)) only [↓X0_skip, ↓X0_exit, ↓X0_ret, ↓X0_seq, ↓X0_cond, ↓X0_block, ↓X0_loop, ↓X0_reg, ↓E_then_normal, ↓E_then_exit, ↓E_then_ret, ↓E_inBlock_normal, ↓E_inBlock_exit, ↓E_inBlock_ret, ↓E_normal, ↓E_ret, ↓S0_mov, ↓S0_pick, ↓S0_bin, ↓S0_un, ↓S0_conv, ↓S0_ext, ↓S0_fld, ↓S0_ixA, ↓S0_ixS, ↓S0_slA, ↓S0_slS, ↓S0_fn, ↓S0_lenA, ↓S0_lenS, ↓S0_lenT, ↓S0_min2, ↓S0_max2, ↓S0_bld, ↓S0_prt, ↓S0_ixV, ↓S0_ldF, ↓S0_ldT, ↓S0_new, ↓S0_box, ↓S0_make, ↓S0_bsl, ↓S0_st, ↓S0_app, ↓S0_appC, ↓S0_stC, ↓S0_call, ↓S0_callC, ↓S0_guardT, ↓S0_guardF, ↓S0_nil, callZ_f, callZ_y, chkX_nil, chkX_D0, chkX_D1, List.mem_cons, List.not_mem_nil, or_false, true_or, or_true, eq_self, true_implies, false_implies, asB_bool, asNB_bool, bindO_some, bindP_some, bindN_some, bindU_some, bindL_some, letV_eq, letH_eq, condK_bool, guardK_true, guardK_false, pickK_true, pickK_false, xbin_eqlB, xbin_neqB, eun_not, eun_neg, xp_conv', xp_ext', xp_ext'', xp_fld', xp_lenS', xp_lenT', xload_ptr, xact_st, loadB_nv, loadB_c0, loadB_c1, loadB_c2, loadB_c3, loadB_cs, loadB_all, stB_nv, stB_intL, stB_bool, stB_slice, stB_all, get_new, get_new0, set_new, set_new0, cellsL_agg, cellsL_int, cellsL_bool, cellsL_slice, ev_tmp, ev_const, ev_func, put_env, put_none, put_dsS, env0_env, env0_at, List.map_cons, List.map_nil, List.getD_cons_zero, List.getD_cons_succ, List.getElem?_cons_zero, List.getElem?_cons_succ, List.set_cons_zero, List.set_cons_succ, List.append_assoc, List.cons_append, List.nil_append, List.length_append, List.length_cons, List.length_nil, Nat.zero_add, Nat.add_zero, Nat.mul_one, decide_eq_true_eq, decide_eq_false_iff_not, Bool.not_eq_true', Bool.false_eq_true, Bool.true_eq_false, Bool.not_true, Bool.not_false, decide_true, decide_false, unwA_nil, xress_one, xress_two, tup2_some, xres_cell, xres_tmp, ↓reduceIte, Nat.reduceEqDiff, Nat.reduceLT, Nat.reduceLeDiff, Nat.lt_irrefl, Nat.zero_le, not_true_eq_false, ite_true, ite_false, true_and, and_true, and_self, if_true, if_false, ne_eq, not_false_eq_true, xbin_addN, xbin_subN, xbin_mulN, xbin_quoN, xbin_remN, xbin_eqlN, xbin_neqN, xbin_lssN, xbin_leqN, xbin_gtrN, xbin_geqN, xp_ixAN, xp_ixSN, xp_convN, xp_min2N, xp_max2N, e2, e1, e5, e8, e9, eds, hk]
    refine FZ.use (add_spec F.p2 F.e1 F.e6 rfl F.q (by omega) (by omega)) ?_
    simp (disch := (first | omega | (simp only [List.length_map]; omega) | (simp only [List.length_map, List.length_set, List.length_replicate, List.length_append, List.length_cons, List.length_nil] <;> omega) | (simp only [all_nv]; done) | rfl)) only [↓X0_skip, ↓X0_exit, ↓X0_ret, ↓X0_seq, ↓X0_cond, ↓X0_block, ↓X0_loop, ↓X0_reg, ↓E_then_normal, ↓E_then_exit, ↓E_then_ret, ↓E_inBlock_normal, ↓E_inBlock_exit, ↓E_inBlock_ret, ↓E_normal, ↓E_ret, ↓S0_mov, ↓S0_pick, ↓S0_bin, ↓S0_un, ↓S0_conv, ↓S0_ext, ↓S0_fld, ↓S0_ixA, ↓S0_ixS, ↓S0_slA, ↓S0_slS, ↓S0_fn, ↓S0_lenA, ↓S0_lenS, ↓S0_lenT, ↓S0_min2, ↓S0_max2, ↓S0_bld, ↓S0_prt, ↓S0_ixV, ↓S0_ldF, ↓S0_ldT, ↓S0_new, ↓S0_box, ↓S0_make, ↓S0_bsl, ↓S0_st, ↓S0_app, ↓S0_appC, ↓S0_stC, ↓S0_call, ↓S0_callC, ↓S0_guardT, ↓S0_guardF, ↓S0_nil, callZ_f, callZ_y, chkX_nil, chkX_D0, chkX_D1, List.mem_cons, List.not_mem_nil, or_false, true_or, or_true, eq_self, true_implies, false_implies, asB_bool, asNB_bool, bindO_some, bindP_some, bindN_some, bindU_some, bindL_some, letV_eq, letH_eq, condK_bool, guardK_true, guardK_false, pickK_true, pickK_false, xbin_eqlB, xbin_neqB, eun_not, eun_neg, xp_conv', xp_ext', xp_ext'', xp_fld', xp_lenS', xp_lenT', xload_ptr, xact_st, loadB_nv, loadB_c0, loadB_c1, loadB_c2, loadB_c3, loadB_cs, loadB_all, stB_nv, stB_intL, stB_bool, stB_slice, stB_all, get_new, get_new0, set_new, set_new0, cellsL_agg, cellsL_int, cellsL_bool, cellsL_slice, ev_tmp, ev_const, ev_func, put_env, put_none, put_dsS, env0_env, env0_at, List.map_cons, List.map_nil, List.getD_cons_zero, List.getD_cons_succ, List.getElem?_cons_zero, List.getElem?_cons_succ, List.set_cons_zero, List.set_cons_succ, List.append_assoc, List.cons_append, List.nil_append, List.length_append, List.length_cons, List.length_nil, Nat.zero_add, Nat.add_zero, Nat.mul_one, decide_eq_true_eq, decide_eq_false_iff_not, Bool.not_eq_true', Bool.false_eq_true, Bool.true_eq_false, Bool.not_true, Bool.not_false, decide_true, decide_false, unwA_nil, xress_one, xress_two, tup2_some, xres_cell, xres_tmp, ↓reduceIte, Nat.reduceEqDiff, Nat.reduceLT, Nat.reduceLeDiff, Nat.lt_irrefl, Nat.zero_le, not_true_eq_false, ite_true, ite_false, true_and, and_true, and_self, if_true, if_false, ne_eq, not_false_eq_true, xbin_addN, xbin_subN, xbin_mulN, xbin_quoN, xbin_remN, xbin_eqlN, xbin_neqN, xbin_lssN, xbin_leqN, xbin_gtrN, xbin_geqN, xp_ixAN, xp_ixSN, xp_convN, xp_min2N, xp_max2N, e2, e1, e5, e8, e9, eds, hk]
    refine FZ.use (power_spec (hb2 _) F.len F.lt F.p2 F.e1 F.e6 F.q (by omega) (by omega)) ?_
    simp (disch := (first | omega | (simp only [List.length_map]; omega) | (simp only [List.length_map, List.length_set, List.length_replicate, List.length_append, List.length_cons, List.length_nil] <;> omega) | (simp only [all_nv]; done) | rfl)) only [↓X0_skip, ↓X0_exit, ↓X0_ret, ↓X0_seq, ↓X0_cond, ↓X0_block, ↓X0_loop, ↓X0_reg, ↓E_then_normal, ↓E_then_exit, ↓E_then_ret, ↓E_inBlock_normal, ↓E_inBlock_exit, ↓E_inBlock_ret, ↓E_normal, ↓E_ret, ↓S0_mov, ↓S0_pick, ↓S0_bin, ↓S0_un, ↓S0_conv, ↓S0_ext, ↓S0_fld, ↓S0_ixA, ↓S0_ixS, ↓S0_slA, ↓S0_slS, ↓S0_fn, ↓S0_lenA, ↓S0_lenS, ↓S0_lenT, ↓S0_min2, ↓S0_max2, ↓S0_bld, ↓S0_prt, ↓S0_ixV, ↓S0_ldF, ↓S0_ldT, ↓S0_new, ↓S0_box, ↓S0_make, ↓S0_bsl, ↓S0_st, ↓S0_app, ↓S0_appC, ↓S0_stC, ↓S0_call, ↓S0_callC, ↓S0_guardT, ↓S0_guardF, ↓S0_nil, callZ_f, callZ_y, chkX_nil, chkX_D0, chkX_D1, List.mem_cons, List.not_mem_nil, or_false, true_or, or_true, eq_self, true_implies, false_implies, asB_bool, asNB_bool, bindO_some, bindP_some, bindN_some, bindU_some, bindL_some, letV_eq, letH_eq, condK_bool, guardK_true, guardK_false, pickK_true, pickK_false, xbin_eqlB, xbin_neqB, eun_not, eun_neg, xp_conv', xp_ext', xp_ext'', xp_fld', xp_lenS', xp_lenT', xload_ptr, xact_st, loadB_nv, loadB_c0, loadB_c1, loadB_c2, loadB_c3, loadB_cs, loadB_all, stB_nv, stB_intL, stB_bool, stB_slice, stB_all, get_new, get_new0, set_new, set_new0, cellsL_agg, cellsL_int, cellsL_bool, cellsL_slice, ev_tmp, ev_const, ev_func, put_env, put_none, put_dsS, env0_env, env0_at, List.map_cons, List.map_nil, List.getD_cons_zero, List.getD_cons_succ, List.getElem?_cons_zero, List.getElem?_cons_succ, List.set_cons_zero, List.set_cons_succ, List.append_assoc, List.cons_append, List.nil_append, List.length_append, List.length_cons, List.length_nil, Nat.zero_add, Nat.add_zero, Nat.mul_one, decide_eq_true_eq, decide_eq_false_iff_not, Bool.not_eq_true', Bool.false_eq_true, Bool.true_eq_false, Bool.not_true, Bool.not_false, decide_true, decide_false, unwA_nil, xress_one, xress_two, tup2_some, xres_cell, xres_tmp, ↓reduceIte, Nat.reduceEqDiff, Nat.reduceLT, Nat.reduceLeDiff, Nat.lt_irrefl, Nat.zero_le, not_true_eq_false, ite_true, ite_false, true_and, and_true, and_self, if_true, if_false, ne_eq, not_false_eq_true, xbin_addN, xbin_subN, xbin_mulN, xbin_quoN, xbin_remN, xbin_eqlN, xbin_neqN, xbin_lssN, xbin_leqN, xbin_gtrN, xbin_geqN, xp_ixAN, xp_ixSN, xp_convN, xp_min2N, xp_max2N, e2, e1, e5, e8, e9, eds, hk]
    simp [trS]
  · rintro s H1 ⟨e2, e1, e5, e8, e9, eds, rfl⟩
    simp (disch := (first | omega | (simp only [List.length_map]; omega) | (simp only [List.length_map, List.length_set, List.length_replicate, List.length_append, List.length_cons, List.length_nil] <;> omega) | (simp only [all_nv]; done) | rfl)) only [↓X0_skip, ↓X0_exit, ↓X0_ret, ↓X0_seq, ↓X0_cond, ↓X0_block, ↓X0_loop, ↓X0_reg, ↓E_then_normal, ↓E_then_exit, ↓E_then_ret, ↓E_inBlock_normal, ↓E_inBlock_exit, ↓E_inBlock_ret, ↓E_normal, ↓E_ret, ↓S0_mov, ↓S0_pick, ↓S0_bin, ↓S0_un, ↓S0_conv, ↓S0_ext, ↓S0_fld, ↓S0_ixA, ↓S0_ixS, ↓S0_slA, ↓S0_slS, ↓S0_fn, ↓S0_lenA, ↓S0_lenS, ↓S0_lenT, ↓S0_min2, ↓S0_max2, ↓S0_bld, ↓S0_prt, ↓S0_ixV, ↓S0_ldF, ↓S0_ldT, ↓S0_new, ↓S0_box, ↓S0_make, ↓S0_bsl, ↓S0_st, ↓S0_app, ↓S0_appC, ↓S0_stC, ↓S0_call, ↓S0_callC, ↓S0_guardT, ↓S0_guardF, ↓S0_nil, callZ_f, callZ_y, chkX_nil, chkX_D0, chkX_D1, List.mem_cons, List.not_mem_nil, or_false, true_or, or_true, eq_self, true_implies, false_implies, asB_bool, asNB_bool, bindO_some, bindP_some, bindN_some, bindU_some, bindL_some, letV_eq, letH_eq, condK_bool, guardK_true, guardK_false, pickK_true, pickK_false, xbin_eqlB, xbin_neqB, eun_not, eun_neg, xp_conv', xp_ext', xp_ext'', xp_fld', xp_lenS', xp_lenT', xload_ptr, xact_st, loadB_nv, loadB_c0, loadB_c1, loadB_c2, loadB_c3, loadB_cs, loadB_all, stB_nv, stB_intL, stB_bool, stB_slice, stB_all, get_new, get_new0, set_new, set_new0, cellsL_agg, cellsL_int, cellsL_bool, cellsL_slice, ev_tmp, ev_const, ev_func, put_env, put_none, put_dsS, env0_env, env0_at, List.map_cons, List.map_nil, List.getD_cons_zero, List.getD_cons_succ, List.getElem?_cons_zero, List.getElem?_cons_succ, List.set_cons_zero, List.set_cons_succ, List.append_assoc, List.cons_append, List.nil_append, List.length_append, List.length_cons, List.length_nil, Nat.zero_add, Nat.add_zero, Nat.mul_one, decide_eq_true_eq, decide_eq_false_iff_not, Bool.not_eq_true', Bool.false_eq_true, Bool.true_eq_false, Bool.not_true, Bool.not_false, decide_true, decide_false, unwA_nil, xress_one, xress_two, tup2_some, xres_cell, xres_tmp, ↓reduceIte, Nat.reduceEqDiff, Nat.reduceLT, Nat.reduceLeDiff, Nat.lt_irrefl, Nat.zero_le, not_true_eq_false, ite_true, ite_false, true_and, and_true, and_self, if_true, if_false, ne_eq, not_false_eq_true, xbin_addN, xbin_subN, xbin_mulN, xbin_quoN, xbin_remN, xbin_eqlN, xbin_neqN, xbin_lssN, xbin_leqN, xbin_gtrN, xbin_geqN, xp_ixAN, xp_ixSN, xp_convN, xp_min2N, xp_max2N, e2, e1, e5, e8, e9, eds, xf35]
    simp [ground, scal, trF]

/-! ### plain -/
section
variable {p e : Nat} {m : List Nat} {g : Nat} {E : List Nat} (F : FT p e m g E)
include F
theorem FT.pw_zero (n : Nat) (h : n ≠ 0) : pw p e m 0 n = 0 := by
  obtain ⟨k, rfl⟩ : ∃ k, n = k + 1 := ⟨n - 1, by omega⟩
  exact mul_zeroF F.toFd _ _ (.inl rfl)
/-- The law's power. -/
theorem FT.powL_nat (x n : Nat) (hx : x < p ^ e) : powL p e m x (n : Int) = ((pw p e m x n : Nat) : Int) := by
  have hq2 := F.q2
  have key : powZ p e m x (n : Int) = (pw p e m x n, 0) := by
    unfold powZ
    by_cases hn : n = 0
    · subst hn; rfl
    · rw [if_neg (by omega)]
      by_cases h0 : x = 0
      · subst h0
        rw [if_pos rfl, if_neg (by omega), F.pw_zero n hn]
      · rw [if_neg h0]
        have : ((n : Int) % ((p ^ e : Nat) - 1 : Int)).toNat = n % (p ^ e - 1) := by
          have h1 : ((p ^ e : Nat) - 1 : Int) = ((p ^ e - 1 : Nat) : Int) := by omega
          rw [h1, ← Int.natCast_emod]
          exact Int.toNat_natCast _
        rw [this, F.powF _ _ hx, ← F.pw_mod x hx h0]
  unfold powL
  rw [key]
  rfl
end
theorem addF_small {p e t u : Nat} (hp : 2 ≤ p) (he : 1 ≤ e) (ht : t < p) (hu : u < p) : addF p e t u = (t + u) % p := by
  have hp0 : 0 < p := by omega
  have hsm : ∀ x i, x < p → i ≠ 0 → dg p x i = 0 := fun x i hx hi => by
    unfold dg
    rw [Nat.div_eq_of_lt, Nat.zero_mod]
    exact Nat.lt_of_lt_of_le hx (by simpa using Nat.pow_le_pow_right hp0 (show 1 ≤ i by omega))
  have hz : ∀ x, x < p → dg p x 0 = x := fun x hx => by unfold dg; rw [Nat.pow_zero, Nat.div_one, Nat.mod_eq_of_lt hx]
  have hm := Nat.mod_lt (t + u) hp0
  refine digit_ext hp0 e _ _ (addF_lt hp0) (Nat.lt_of_lt_of_le hm (by simpa using Nat.pow_le_pow_right hp0 he)) (fun i hi => ?_)
  refine (addF_dg hp0 hi).trans ?_
  show _ = dg p ((t + u) % p) i
  by_cases h0 : i = 0
  · subst h0; rw [hz t ht, hz u hu, hz _ hm]
  · rw [hsm t i ht h0, hsm u i hu h0, hsm _ i hm h0]; simp

/-- The table of the powers P and of the traces. -/
def trP (p e : Nat) (Φ : List Nat) (x : Nat) : Nat → Nat × Nat
  | 0 => (0, x)
  | k + 1 => (addF p e (trP p e Φ x k).1 (trP p e Φ x k).2, Φ.getD (trP p e Φ x k).2 0)
def cntK (TR : List Nat) (l : List Nat) (c : Nat) : List Nat := l.set (TR.getD c 0) (l.getD (TR.getD c 0) 0 + 1)
def frB (p e : Nat) (m Φ TR : List Nat) : Bool :=
  (List.range (p ^ e)).all (fun a => Nat.beq (Φ.getD a 0) (powF p e m a p) && (List.range e).all (fun i => Nat.beq (Φ.getD (addF p e a (p ^ i)) 0) (addF p e (Φ.getD a 0) (Φ.getD (p ^ i) 0))) &&
    Nat.beq (TR.getD a 0) (trP p e Φ a e).1 && Nat.blt (TR.getD a 0) p && Nat.beq (TR.getD (Φ.getD a 0) 0) (TR.getD a 0)) &&
  ((List.range (p ^ e)).foldl (cntK TR) (List.replicate p 0) == List.replicate p (p ^ e / p))
structure FR (p e : Nat) (m : List Nat) (g : Nat) (E Φ TR : List Nat) : Prop extends FT p e m g E where
  fr : frB p e m Φ TR = true
section
variable {p e : Nat} {m : List Nat} {g : Nat} {E Φ TR : List Nat} (F : FR p e m g E Φ TR)
include F
theorem FR.at (a : Nat) (ha : a < p ^ e) : Φ.getD a 0 = pw p e m a p ∧ (∀ i, i < e → Φ.getD (addF p e a (p ^ i)) 0 = addF p e (Φ.getD a 0) (Φ.getD (p ^ i) 0)) ∧ TR.getD a 0 = (trP p e Φ a e).1 ∧ TR.getD a 0 < p ∧ TR.getD (Φ.getD a 0) 0 = TR.getD a 0 := by
  have h := F.fr
  simp only [frB, Bool.and_eq_true, List.all_eq_true, List.mem_range] at h
  obtain ⟨⟨⟨⟨h1, h2⟩, h3⟩, h4⟩, h5⟩ := h.1 a ha
  have h1 := Nat.eq_of_beq_eq_true h1
  rw [F.powF a p ha] at h1
  exact ⟨h1, fun i hi => Nat.eq_of_beq_eq_true (h2 i hi), Nat.eq_of_beq_eq_true h3, Nat.lt_of_lt_of_le (Nat.lt_succ_self _) (Nat.le_of_ble_eq_true h4), Nat.eq_of_beq_eq_true h5⟩
theorem FR.cnt : (List.range (p ^ e)).foldl (cntK TR) (List.replicate p 0) = List.replicate p (p ^ e / p) := by
  have h := F.fr
  simp only [frB, Bool.and_eq_true, beq_iff_eq] at h
  exact h.2
theorem FR.phi_add (a b : Nat) (ha : a < p ^ e) (hb : b < p ^ e) : Φ.getD (addF p e a b) 0 = addF p e (Φ.getD a 0) (Φ.getD b 0) := by
  have hp := F.hp
  have hq2 := F.q2
  have hlt : ∀ x, x < p ^ e → Φ.getD x 0 < p ^ e := fun x hx => by rw [(F.at x hx).1]; exact F.pw_lt _ _
  have hpi : ∀ i, i < e → p ^ i < p ^ e := fun i hi => Nat.pow_lt_pow_right (by have := F.p2; omega) hi
  have key : b < p ^ e ∧ ∀ a, a < p ^ e → Φ.getD (addF p e a b) 0 = addF p e (Φ.getD a 0) (Φ.getD b 0) := by
    refine F.gen (fun b => b < p ^ e ∧ ∀ a, a < p ^ e → Φ.getD (addF p e a b) 0 = addF p e (Φ.getD a 0) (Φ.getD b 0)) ⟨by omega, fun a ha => ?_⟩ (fun i hi => ⟨hpi i hi, fun a ha => (F.at a ha).2.1 i hi⟩) (fun x y hx hy => ⟨addF_lt hp, fun a ha => ?_⟩) b hb
    · rw [addF_zero hp ha, (F.at 0 (by omega)).1, F.pw_zero p (by omega), addF_zero hp (hlt a ha)]
    · rw [← addF_assoc hp, hy.2 _ (addF_lt hp), hx.2 a ha, hy.2 x hx.1, addF_assoc hp]
  exact key.2 a ha
theorem FR.trP_eq (x : Nat) (hx : x < p ^ e) : ∀ k, trS p e m x k = trP p e Φ x k ∧ (trP p e Φ x k).1 < p ^ e ∧ (trP p e Φ x k).2 < p ^ e
  | 0 => ⟨rfl, by have := F.q2; show 0 < p ^ e; omega, hx⟩
  | k + 1 => by
    obtain ⟨h1, h2, h3⟩ := FR.trP_eq x hx k
    refine ⟨?_, addF_lt F.hp, ?_⟩
    · rw [trS, trP, h1, F.powF _ _ h3, (F.at _ h3).1]
    · rw [trP, (F.at _ h3).1]; exact F.pw_lt _ _
theorem FR.tr (x : Nat) (hx : x < p ^ e) : trF p e m x = TR.getD x 0 := by
  rw [trF, (F.trP_eq x hx e).1, (F.at x hx).2.2.1]
theorem FR.trP_add (a b : Nat) (ha : a < p ^ e) (hb : b < p ^ e) : ∀ k, trP p e Φ (addF p e a b) k = (addF p e (trP p e Φ a k).1 (trP p e Φ b k).1, addF p e (trP p e Φ a k).2 (trP p e Φ b k).2)
  | 0 => by
    have := F.q2
    simp only [trP]; rw [addF_zero F.hp (by omega)]
  | k + 1 => by
    have hp := F.hp
    obtain ⟨_, h1, h2⟩ := F.trP_eq a ha k
    obtain ⟨_, h3, h4⟩ := F.trP_eq b hb k
    simp only [trP, FR.trP_add a b ha hb k]
    rw [F.phi_add _ _ h2 h4]
    generalize (trP p e Φ a k).1 = s1 at *
    generalize (trP p e Φ a k).2 = s2 at *
    generalize (trP p e Φ b k).1 = t1 at *
    generalize (trP p e Φ b k).2 = t2 at *
    congr 1
    rw [addF_assoc hp, addF_assoc hp]
    congr 1
    rw [← addF_assoc hp, ← addF_assoc hp, addF_comm hp t1 s2]
theorem FR.tr_add (a b : Nat) (ha : a < p ^ e) (hb : b < p ^ e) : trF p e m (addF p e a b) = (trF p e m a + trF p e m b) % p := by
  rw [F.tr _ (addF_lt F.hp), F.tr a ha, F.tr b hb, ← addF_small F.p2 F.e1 (F.at a ha).2.2.2.1 (F.at b hb).2.2.2.1, (F.at _ (addF_lt F.hp)).2.2.1, F.trP_add a b ha hb, (F.at a ha).2.2.1, (F.at b hb).2.2.1]
end
end Go.Sim
