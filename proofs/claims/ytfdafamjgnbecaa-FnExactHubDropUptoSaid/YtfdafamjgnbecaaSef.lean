/- The law FnExactHubDrop holds for all arguments of bulk at most 1048576. -/
import Derived.Test.YtfdafamjgnbecaaSee
import Derived.Test.YtfdafamjgnbecaaAvc
import Derived.Test.YtfdafamjgnbecaaSed
import Derived.Test.YtfdafamjgnbecaaRows
set_option linter.unusedVariables false
set_option linter.unusedSimpArgs false
namespace Go.Av
open Go
set_option maxRecDepth 10000

theorem dropW_len (w : List GW) (id : Int) : (dropW w id).1.length ≤ w.length := by
  unfold dropW
  split
  · simp only [List.length_eraseIdx]; split <;> omega
  · exact Nat.le_refl _

theorem law2_ok (l : List GN) (w : List GW) (id : Int) (hll : Len l) (hf : ∀ v ∈ l, v.fits) (hw : Len w) (hfw : ∀ v ∈ w, v.fits) (hcnt : 1 + cntNs l + 5 * w.length ≤ 4611686018427387904) :
    PCall P 4 [.agg [.fsl 7 (encn l), .fsl 5 (encw w)], .int .i64 id] (.bool true) := by
  obtain ⟨⟨w', ok⟩, hdr⟩ : ∃ p, dropW w id = p := ⟨_, rfl⟩
  have hw'l : w'.length ≤ w.length := by have := dropW_len w id; rw [hdr] at this; exact this
  have hw' : Len w' := by simp only [Len] at hw ⊢; omega
  have hspec := specHubDrop_ok l w id hll hf hw
  rw [hdr] at hspec
  have himpl := fun aN aW i1 i2 H hL hW hb hnd => HubDrop_ok l w id aN aW i1 i2 H hL hW hb hnd hll hf hw
  simp only [hdr] at himpl
  refine pcall_of_fcall (fcall_walk T_ok ok_4 rfl ?_)
  unfold Go.Proofs.Try.f4
  simp only [Option.getD_some, envOf, Nat.zero_add, Nat.reduceAdd]
  repeat' (first | ((with_reducible first | apply ar_w T_ok | apply ar_w0 T_ok | apply ard_w T_ok | apply ard_w0 T_ok); (focus (simp (disch := omega) only [go_sem, Nat.reduceLT, Nat.reduceAdd, Nat.reduceLeDiff, Nat.reduceMul, Nat.reduceEqDiff, Nat.reduceBEq, reduceIte, encn_len] <;> rfl)); (focus (first | rfl | (simp [okIdsB, Nat.ble_eq]; done))); (focus rfl); (focus (first | trivial | (simp only [preOK]; omega) | exact ⟨by first | trivial | rfl | omega, by assumption, by omega⟩ | (simp [preOK, AllBytes, encn_len]; first | done | omega))); (focus (simp only [encn_len, Heap.puts, Heap.put_app, Heap.put_app0, Heap.put_len, Heap.put, List.length_append, List.length_cons, List.length_nil, Nat.zero_add, Nat.reduceAdd] <;> rfl))) | with_reducible (first | refine aw_reg_d P_mixed ?_ | refine ar_done ?_ | refine aw_seq ?_ | refine aw_reg ?_ | refine aw_block ?_ | refine aw_skip ?_ | refine aw_exit ?_ | refine aw_ret ?_ | refine at_n ?_ | refine at_e ?_ | refine at_r ?_ | refine ab_n ?_ | refine ab_r ?_ | refine ab_e ?_ | refine ab_ne rfl ?_ | refine an_e ?_ | refine an_r ?_ | refine am_e ?_ | refine am_r ?_) | ((with_reducible apply aw_cond_f); (focus (simp only [go_sem, Nat.reduceLT, Nat.reduceAdd, Nat.reduceLeDiff, Nat.reduceMul, Nat.reduceEqDiff, Nat.reduceBEq, reduceIte, encn_len] <;> rfl))) | ((with_reducible apply aw_cond_t); (focus (simp only [go_sem, Nat.reduceLT, Nat.reduceAdd, Nat.reduceLeDiff, Nat.reduceMul, Nat.reduceEqDiff, Nat.reduceBEq, reduceIte, encn_len] <;> rfl))) | ((with_reducible apply aw_cond_d); (focus (simp only [go_sem, Nat.reduceLT, Nat.reduceAdd, Nat.reduceLeDiff, Nat.reduceMul, Nat.reduceEqDiff, Nat.reduceBEq, reduceIte, encn_len] <;> rfl)); all_goals (intro hcond; try (exfalso; omega))) | ((with_reducible first | apply ae_r | apply ae_n); (focus (simp only [go_sem, Nat.reduceLT, Nat.reduceAdd, Nat.reduceLeDiff, Nat.reduceMul, Nat.reduceEqDiff, Nat.reduceBEq, reduceIte, encn_len] <;> rfl))) | ((with_reducible apply ard_done); (focus rfl)))
  ((apply ar_call rfl ok_15); (focus (simp only [go_sem, Nat.reduceLT, Nat.reduceAdd, Nat.reduceLeDiff, Nat.reduceMul, Nat.reduceEqDiff, Nat.reduceBEq, reduceIte, encn_len, List.map] <;> rfl)); (focus exact szHub_ok l w 1048576 (by omega) (by omega) hll hf hw hfw); (focus rfl); (focus rfl))
  repeat' (first | ((with_reducible first | apply ar_w T_ok | apply ar_w0 T_ok | apply ard_w T_ok | apply ard_w0 T_ok); (focus (simp (disch := omega) only [go_sem, Nat.reduceLT, Nat.reduceAdd, Nat.reduceLeDiff, Nat.reduceMul, Nat.reduceEqDiff, Nat.reduceBEq, reduceIte, encn_len] <;> rfl)); (focus (first | rfl | (simp [okIdsB, Nat.ble_eq]; done))); (focus rfl); (focus (first | trivial | (simp only [preOK]; omega) | exact ⟨by first | trivial | rfl | omega, by assumption, by omega⟩ | (simp [preOK, AllBytes, encn_len]; first | done | omega))); (focus (simp only [encn_len, Heap.puts, Heap.put_app, Heap.put_app0, Heap.put_len, Heap.put, List.length_append, List.length_cons, List.length_nil, Nat.zero_add, Nat.reduceAdd] <;> rfl))) | with_reducible (first | refine aw_reg_d P_mixed ?_ | refine ar_done ?_ | refine aw_seq ?_ | refine aw_reg ?_ | refine aw_block ?_ | refine aw_skip ?_ | refine aw_exit ?_ | refine aw_ret ?_ | refine at_n ?_ | refine at_e ?_ | refine at_r ?_ | refine ab_n ?_ | refine ab_r ?_ | refine ab_e ?_ | refine ab_ne rfl ?_ | refine an_e ?_ | refine an_r ?_ | refine am_e ?_ | refine am_r ?_) | ((with_reducible apply aw_cond_f); (focus (simp only [go_sem, Nat.reduceLT, Nat.reduceAdd, Nat.reduceLeDiff, Nat.reduceMul, Nat.reduceEqDiff, Nat.reduceBEq, reduceIte, encn_len] <;> rfl))) | ((with_reducible apply aw_cond_t); (focus (simp only [go_sem, Nat.reduceLT, Nat.reduceAdd, Nat.reduceLeDiff, Nat.reduceMul, Nat.reduceEqDiff, Nat.reduceBEq, reduceIte, encn_len] <;> rfl))) | ((with_reducible apply aw_cond_d); (focus (simp only [go_sem, Nat.reduceLT, Nat.reduceAdd, Nat.reduceLeDiff, Nat.reduceMul, Nat.reduceEqDiff, Nat.reduceBEq, reduceIte, encn_len] <;> rfl)); all_goals (intro hcond; try (exfalso; omega))) | ((with_reducible first | apply ae_r | apply ae_n); (focus (simp only [go_sem, Nat.reduceLT, Nat.reduceAdd, Nat.reduceLeDiff, Nat.reduceMul, Nat.reduceEqDiff, Nat.reduceBEq, reduceIte, encn_len] <;> rfl))) | ((with_reducible apply ard_done); (focus rfl)))
  · rfl
  ((apply ar_fcall rfl ok_17); (focus (simp only [go_sem, Nat.reduceLT, Nat.reduceAdd, Nat.reduceLeDiff, Nat.reduceMul, Nat.reduceEqDiff, Nat.reduceBEq, reduceIte, encn_len, List.map] <;> rfl)); (focus exact toHub_ok l w hll hf hw _); (focus rfl); (focus rfl))
  rintro _ H1 ⟨N1, aN1, aW1, i1, j1, rfl, hN1, hL1, hW1, hnd1, hb1⟩
  have hx1 : H1.at 0 = .row 2 [[.fsl 7 (encn l), .fsl 5 (encw w)]] := by rw [hN1]; rfl
  have hl1 : 0 < H1.length := by rw [hN1]; simp
  have hb1' : ∀ b ∈ i1 ++ j1, 0 < b ∧ b < H1.length := fun b hb => by have := hb1 b hb; simp at this; omega
  clear hN1 hb1
  repeat' (first | ((with_reducible first | apply ar_w T_ok | apply ar_w0 T_ok | apply ard_w T_ok | apply ard_w0 T_ok); (focus (simp (disch := omega) only [go_sem, Nat.reduceLT, Nat.reduceAdd, Nat.reduceLeDiff, Nat.reduceMul, Nat.reduceEqDiff, Nat.reduceBEq, reduceIte, encn_len] <;> rfl)); (focus (first | rfl | (simp [okIdsB, Nat.ble_eq]; done))); (focus rfl); (focus (first | trivial | (simp only [preOK]; omega) | exact ⟨by first | trivial | rfl | omega, by assumption, by omega⟩ | (simp [preOK, AllBytes, encn_len]; first | done | omega))); (focus (simp only [encn_len, Heap.puts, Heap.put_app, Heap.put_app0, Heap.put_len, Heap.put, List.length_append, List.length_cons, List.length_nil, Nat.zero_add, Nat.reduceAdd] <;> rfl))) | with_reducible (first | refine aw_reg_d P_mixed ?_ | refine ar_done ?_ | refine aw_seq ?_ | refine aw_reg ?_ | refine aw_block ?_ | refine aw_skip ?_ | refine aw_exit ?_ | refine aw_ret ?_ | refine at_n ?_ | refine at_e ?_ | refine at_r ?_ | refine ab_n ?_ | refine ab_r ?_ | refine ab_e ?_ | refine ab_ne rfl ?_ | refine an_e ?_ | refine an_r ?_ | refine am_e ?_ | refine am_r ?_) | ((with_reducible apply aw_cond_f); (focus (simp only [go_sem, Nat.reduceLT, Nat.reduceAdd, Nat.reduceLeDiff, Nat.reduceMul, Nat.reduceEqDiff, Nat.reduceBEq, reduceIte, encn_len] <;> rfl))) | ((with_reducible apply aw_cond_t); (focus (simp only [go_sem, Nat.reduceLT, Nat.reduceAdd, Nat.reduceLeDiff, Nat.reduceMul, Nat.reduceEqDiff, Nat.reduceBEq, reduceIte, encn_len] <;> rfl))) | ((with_reducible apply aw_cond_d); (focus (simp only [go_sem, Nat.reduceLT, Nat.reduceAdd, Nat.reduceLeDiff, Nat.reduceMul, Nat.reduceEqDiff, Nat.reduceBEq, reduceIte, encn_len] <;> rfl)); all_goals (intro hcond; try (exfalso; omega))) | ((with_reducible first | apply ae_r | apply ae_n); (focus (simp only [go_sem, Nat.reduceLT, Nat.reduceAdd, Nat.reduceLeDiff, Nat.reduceMul, Nat.reduceEqDiff, Nat.reduceBEq, reduceIte, encn_len] <;> rfl))) | ((with_reducible apply ard_done); (focus rfl)))
  refine ar_give (S := i1 ++ j1) rfl ok_16 (args := [.agg [.fsl 7 (encn l), .fsl 5 (encw w)], .int .i64 id]) ⟨bor_agg rfl fun i hi => ?_, bor_frz rfl, trivial⟩ hspec (fun b hb => (hb1' b hb).2) rfl rfl ?_
  · match i, hi with
    | 0, _ => exact hL1.bor fun b hb => by simp [hb]
    | 1, _ => exact hW1.bor fun b hb => by simp [hb]
  have hk1 := Heap.kill_len H1 (i1 ++ j1) (fun b hb => (hb1' b hb).2)
  have hx1' : (H1.kill (i1 ++ j1)).at 0 = .row 2 [[.fsl 7 (encn l), .fsl 5 (encw w)]] := by
    rw [Heap.at_kill, if_neg (fun h => by have := hb1' 0 h; omega)]; exact hx1
  generalize H1.kill (i1 ++ j1) = K1 at hk1 hx1' ⊢
  have hk1l : 0 < K1.length := by omega
  clear hL1 hW1 hb1' hk1 hx1 hl1 hnd1
  obtain ⟨q0, hq0⟩ : ∃ q, K1.length = q := ⟨_, rfl⟩
  have hxo : ∀ G, Heap.at (K1 ++ G) 0 = .row 2 [[.fsl 7 (encn l), .fsl 5 (encw w)]] := fun G => (Heap.at_old _ _ hk1l).trans hx1'
  repeat' (first | ((with_reducible first | apply ar_w T_ok | apply ar_w0 T_ok | apply ard_w T_ok | apply ard_w0 T_ok); (focus (simp (disch := omega) only [go_sem, Nat.reduceLT, Nat.reduceAdd, Nat.reduceLeDiff, Nat.reduceMul, Nat.reduceEqDiff, Nat.reduceBEq, reduceIte, encn_len, hxo] <;> rfl)); (focus (first | rfl | (simp [okIdsB, Nat.ble_eq]; done))); (focus rfl); (focus (first | trivial | (simp only [preOK]; omega) | exact ⟨by first | trivial | rfl | omega, by assumption, by omega⟩ | (simp [preOK, AllBytes, encn_len, hxo]; first | done | omega))); (focus (simp only [encn_len, hxo, Heap.puts, Heap.put_app, Heap.put_app0, Heap.put_len, Heap.put, List.length_append, List.length_cons, List.length_nil, Nat.zero_add, Nat.reduceAdd] <;> rfl))) | with_reducible (first | refine aw_reg_d P_mixed ?_ | refine ar_done ?_ | refine aw_seq ?_ | refine aw_reg ?_ | refine aw_block ?_ | refine aw_skip ?_ | refine aw_exit ?_ | refine aw_ret ?_ | refine at_n ?_ | refine at_e ?_ | refine at_r ?_ | refine ab_n ?_ | refine ab_r ?_ | refine ab_e ?_ | refine ab_ne rfl ?_ | refine an_e ?_ | refine an_r ?_ | refine am_e ?_ | refine am_r ?_) | ((with_reducible apply aw_cond_f); (focus (simp only [go_sem, Nat.reduceLT, Nat.reduceAdd, Nat.reduceLeDiff, Nat.reduceMul, Nat.reduceEqDiff, Nat.reduceBEq, reduceIte, encn_len, hxo] <;> rfl))) | ((with_reducible apply aw_cond_t); (focus (simp only [go_sem, Nat.reduceLT, Nat.reduceAdd, Nat.reduceLeDiff, Nat.reduceMul, Nat.reduceEqDiff, Nat.reduceBEq, reduceIte, encn_len, hxo] <;> rfl))) | ((with_reducible apply aw_cond_d); (focus (simp only [go_sem, Nat.reduceLT, Nat.reduceAdd, Nat.reduceLeDiff, Nat.reduceMul, Nat.reduceEqDiff, Nat.reduceBEq, reduceIte, encn_len, hxo] <;> rfl)); all_goals (intro hcond; try (exfalso; omega))) | ((with_reducible first | apply ae_r | apply ae_n); (focus (simp only [go_sem, Nat.reduceLT, Nat.reduceAdd, Nat.reduceLeDiff, Nat.reduceMul, Nat.reduceEqDiff, Nat.reduceBEq, reduceIte, encn_len, hxo] <;> rfl))) | ((with_reducible apply ard_done); (focus rfl)))
  ((apply ar_fcall rfl ok_17); (focus (simp only [go_sem, Nat.reduceLT, Nat.reduceAdd, Nat.reduceLeDiff, Nat.reduceMul, Nat.reduceEqDiff, Nat.reduceBEq, reduceIte, encn_len, hxo, List.map] <;> rfl)); (focus exact toHub_ok l w hll hf hw _); (focus rfl); (focus rfl))
  rintro _ _ ⟨N2, aN2, aW2, i2, j2, rfl, rfl, hL2, hW2, hnd2, hb2⟩
  have hc2 := hL2.cell
  have hc2s := solid_of_cell hc2
  have hc2c := cells_of_cell hc2
  have hd2 := hW2.cell
  have hd2s := solid_of_cell hd2
  have hd2c := cells_of_cell hd2
  simp only [List.append_assoc, List.cons_append, List.nil_append] at hL2 hW2 hb2 ⊢
  repeat' (first | ((with_reducible first | apply ar_w T_ok | apply ar_w0 T_ok | apply ard_w T_ok | apply ard_w0 T_ok); (focus (simp (disch := omega) only [go_sem, Nat.reduceLT, Nat.reduceAdd, Nat.reduceLeDiff, Nat.reduceMul, Nat.reduceEqDiff, Nat.reduceBEq, reduceIte, encn_len, hxo, hc2, hc2s, hc2c, hd2, hd2s, hd2c] <;> rfl)); (focus (first | rfl | (simp [okIdsB, Nat.ble_eq]; done))); (focus rfl); (focus (first | trivial | (simp only [preOK]; omega) | exact ⟨by first | trivial | rfl | omega, by assumption, by omega⟩ | (simp [preOK, AllBytes, encn_len, hxo, hc2, hc2s, hc2c, hd2, hd2s, hd2c]; first | done | omega))); (focus (simp only [encn_len, hxo, hc2, hc2s, hc2c, hd2, hd2s, hd2c, Heap.puts, Heap.put_app, Heap.put_app0, Heap.put_len, Heap.put, List.length_append, List.length_cons, List.length_nil, Nat.zero_add, Nat.reduceAdd] <;> rfl))) | with_reducible (first | refine aw_reg_d P_mixed ?_ | refine ar_done ?_ | refine aw_seq ?_ | refine aw_reg ?_ | refine aw_block ?_ | refine aw_skip ?_ | refine aw_exit ?_ | refine aw_ret ?_ | refine at_n ?_ | refine at_e ?_ | refine at_r ?_ | refine ab_n ?_ | refine ab_r ?_ | refine ab_e ?_ | refine ab_ne rfl ?_ | refine an_e ?_ | refine an_r ?_ | refine am_e ?_ | refine am_r ?_) | ((with_reducible apply aw_cond_f); (focus (simp only [go_sem, Nat.reduceLT, Nat.reduceAdd, Nat.reduceLeDiff, Nat.reduceMul, Nat.reduceEqDiff, Nat.reduceBEq, reduceIte, encn_len, hxo, hc2, hc2s, hc2c, hd2, hd2s, hd2c] <;> rfl))) | ((with_reducible apply aw_cond_t); (focus (simp only [go_sem, Nat.reduceLT, Nat.reduceAdd, Nat.reduceLeDiff, Nat.reduceMul, Nat.reduceEqDiff, Nat.reduceBEq, reduceIte, encn_len, hxo, hc2, hc2s, hc2c, hd2, hd2s, hd2c] <;> rfl))) | ((with_reducible apply aw_cond_d); (focus (simp only [go_sem, Nat.reduceLT, Nat.reduceAdd, Nat.reduceLeDiff, Nat.reduceMul, Nat.reduceEqDiff, Nat.reduceBEq, reduceIte, encn_len, hxo, hc2, hc2s, hc2c, hd2, hd2s, hd2c] <;> rfl)); all_goals (intro hcond; try (exfalso; omega))) | ((with_reducible first | apply ae_r | apply ae_n); (focus (simp only [go_sem, Nat.reduceLT, Nat.reduceAdd, Nat.reduceLeDiff, Nat.reduceMul, Nat.reduceEqDiff, Nat.reduceBEq, reduceIte, encn_len, hxo, hc2, hc2s, hc2c, hd2, hd2s, hd2c] <;> rfl))) | ((with_reducible apply ard_done); (focus rfl)))
  -- W at q0, X at q2
  have key : ∃ (q2 : Nat) (H3 : Heap), K1.length + (N2.length + 1) = q2 ∧ K1 ++ Blk.row 2 [[.fsl 7 (encn l), .fsl 5 (encw w')]] :: (N2 ++ [Blk.row 2 [[aN2, aW2]]]) = H3 ∧ H3.at 0 = .row 2 [[.fsl 7 (encn l), .fsl 5 (encw w)]] ∧ H3.at q0 = .row 2 [[.fsl 7 (encn l), .fsl 5 (encw w')]] ∧ H3.at q2 = .row 2 [[aN2, aW2]] ∧
      LNS H3 l aN2 i2 ∧ LWS H3 w aW2 j2 ∧ 0 < q0 ∧ q0 < q2 ∧ q2 < H3.length ∧ ∀ b ∈ i2 ++ j2, q0 < b ∧ b < q2 := by
    refine ⟨_, _, rfl, rfl, hxo _, ?_, ?_, hL2.mono fun b hb => ?_, hW2.mono fun b hb => ?_, by omega, by omega, by simp, fun b hb => ?_⟩
    · rw [← hq0, Heap.at_app0]; rfl
    · rw [Heap.at_app, Heap.at_cons_succ, Heap.at_app0]; rfl
    · have := hb2 b (by simp [hb]); simp at this
      exact at_tail1 (by omega) (by omega)
    · have := hb2 b (by simp [hb]); simp at this
      exact at_tail1 (by omega) (by omega)
    · have := hb2 b hb; simp at this; omega
  obtain ⟨q2, H3, hq2, hH3, hx3, hg3, hy3, hL3, hW3, hq0p, hq02, hq2l, hb3⟩ := key
  rw [hq2, hH3, hq0]
  clear hq2 hH3 hxo hL2 hW2 hb2 hx1' hk1l hq0 K1 N2
  repeat' (first | ((with_reducible first | apply ar_w T_ok | apply ar_w0 T_ok | apply ard_w T_ok | apply ard_w0 T_ok); (focus (simp (disch := omega) only [go_sem, Nat.reduceLT, Nat.reduceAdd, Nat.reduceLeDiff, Nat.reduceMul, Nat.reduceEqDiff, Nat.reduceBEq, reduceIte, encn_len, hc2, hc2s, hc2c, hd2, hd2s, hd2c, hx3, hg3, hy3] <;> rfl)); (focus (first | rfl | (simp [okIdsB, Nat.ble_eq]; done))); (focus rfl); (focus (first | trivial | (simp only [preOK]; omega) | exact ⟨by first | trivial | rfl | omega, by assumption, by omega⟩ | (simp [preOK, AllBytes, encn_len, hc2, hc2s, hc2c, hd2, hd2s, hd2c, hx3, hg3, hy3]; first | done | omega))); (focus (simp only [encn_len, hc2, hc2s, hc2c, hd2, hd2s, hd2c, hx3, hg3, hy3, Heap.puts, Heap.put_app, Heap.put_app0, Heap.put_len, Heap.put, List.length_append, List.length_cons, List.length_nil, Nat.zero_add, Nat.reduceAdd] <;> rfl))) | with_reducible (first | refine aw_reg_d P_mixed ?_ | refine ar_done ?_ | refine aw_seq ?_ | refine aw_reg ?_ | refine aw_block ?_ | refine aw_skip ?_ | refine aw_exit ?_ | refine aw_ret ?_ | refine at_n ?_ | refine at_e ?_ | refine at_r ?_ | refine ab_n ?_ | refine ab_r ?_ | refine ab_e ?_ | refine ab_ne rfl ?_ | refine an_e ?_ | refine an_r ?_ | refine am_e ?_ | refine am_r ?_) | ((with_reducible apply aw_cond_f); (focus (simp only [go_sem, Nat.reduceLT, Nat.reduceAdd, Nat.reduceLeDiff, Nat.reduceMul, Nat.reduceEqDiff, Nat.reduceBEq, reduceIte, encn_len, hc2, hc2s, hc2c, hd2, hd2s, hd2c, hx3, hg3, hy3] <;> rfl))) | ((with_reducible apply aw_cond_t); (focus (simp only [go_sem, Nat.reduceLT, Nat.reduceAdd, Nat.reduceLeDiff, Nat.reduceMul, Nat.reduceEqDiff, Nat.reduceBEq, reduceIte, encn_len, hc2, hc2s, hc2c, hd2, hd2s, hd2c, hx3, hg3, hy3] <;> rfl))) | ((with_reducible apply aw_cond_d); (focus (simp only [go_sem, Nat.reduceLT, Nat.reduceAdd, Nat.reduceLeDiff, Nat.reduceMul, Nat.reduceEqDiff, Nat.reduceBEq, reduceIte, encn_len, hc2, hc2s, hc2c, hd2, hd2s, hd2c, hx3, hg3, hy3] <;> rfl)); all_goals (intro hcond; try (exfalso; omega))) | ((with_reducible first | apply ae_r | apply ae_n); (focus (simp only [go_sem, Nat.reduceLT, Nat.reduceAdd, Nat.reduceLeDiff, Nat.reduceMul, Nat.reduceEqDiff, Nat.reduceBEq, reduceIte, encn_len, hc2, hc2s, hc2c, hd2, hd2s, hd2c, hx3, hg3, hy3] <;> rfl))) | ((with_reducible apply ard_done); (focus rfl)))
  ((apply ar_fcall rfl ok_18); (focus (simp only [go_sem, Nat.reduceLT, Nat.reduceAdd, Nat.reduceLeDiff, Nat.reduceMul, Nat.reduceEqDiff, Nat.reduceBEq, reduceIte, encn_len, hc2, hc2s, hc2c, hd2, hd2s, hd2c, hx3, hg3, hy3, List.map] <;> rfl)); (focus exact himpl aN2 aW2 i2 j2 H3 hL3 hW3 (fun b hb => by have := hb3 b hb; omega) (List.nodup_append.1 hnd2).1); (focus rfl); (focus rfl))
  rintro _ _ ⟨N4, _, rfl, ⟨N4', aN4, aW4, i4, j4, rfl, hN4, hL4, hW4, hnd4, hb4⟩, rfl⟩
  clear hN4 N4'
  have hc4 := hL4.cell
  have hc4s := solid_of_cell hc4
  have hc4c := cells_of_cell hc4
  have hd4 := hW4.cell
  have hd4s := solid_of_cell hd4
  have hd4c := cells_of_cell hd4
  have hold3 : ∀ (G : Heap) b, b < H3.length → Heap.at (H3 ++ G) b = H3.at b := fun G b hb => Heap.at_old _ _ hb
  have hx3o : ∀ G, Heap.at (H3 ++ G) 0 = .row 2 [[.fsl 7 (encn l), .fsl 5 (encw w)]] := fun G => (hold3 G 0 (by omega)).trans hx3
  have hg3o : ∀ G, Heap.at (H3 ++ G) q0 = .row 2 [[.fsl 7 (encn l), .fsl 5 (encw w')]] := fun G => (hold3 G q0 (by omega)).trans hg3
  have hy3o : ∀ G, Heap.at (H3 ++ G) q2 = .row 2 [[aN2, aW2]] := fun G => (hold3 G q2 (by omega)).trans hy3
  repeat' (first | ((with_reducible first | apply ar_w T_ok | apply ar_w0 T_ok | apply ard_w T_ok | apply ard_w0 T_ok); (focus (simp (disch := omega) only [go_sem, Nat.reduceLT, Nat.reduceAdd, Nat.reduceLeDiff, Nat.reduceMul, Nat.reduceEqDiff, Nat.reduceBEq, reduceIte, encn_len, hc4, hc4s, hc4c, hd4, hd4s, hd4c, hx3o, hg3o, hy3o] <;> rfl)); (focus (first | rfl | (simp [okIdsB, Nat.ble_eq]; done))); (focus rfl); (focus (first | trivial | (simp only [preOK]; omega) | exact ⟨by first | trivial | rfl | omega, by assumption, by omega⟩ | (simp [preOK, AllBytes, encn_len, hc4, hc4s, hc4c, hd4, hd4s, hd4c, hx3o, hg3o, hy3o]; first | done | omega))); (focus (simp only [encn_len, hc4, hc4s, hc4c, hd4, hd4s, hd4c, hx3o, hg3o, hy3o, Heap.puts, Heap.put_app, Heap.put_app0, Heap.put_len, Heap.put, List.length_append, List.length_cons, List.length_nil, Nat.zero_add, Nat.reduceAdd] <;> rfl))) | with_reducible (first | refine aw_reg_d P_mixed ?_ | refine ar_done ?_ | refine aw_seq ?_ | refine aw_reg ?_ | refine aw_block ?_ | refine aw_skip ?_ | refine aw_exit ?_ | refine aw_ret ?_ | refine at_n ?_ | refine at_e ?_ | refine at_r ?_ | refine ab_n ?_ | refine ab_r ?_ | refine ab_e ?_ | refine ab_ne rfl ?_ | refine an_e ?_ | refine an_r ?_ | refine am_e ?_ | refine am_r ?_) | ((with_reducible apply aw_cond_f); (focus (simp only [go_sem, Nat.reduceLT, Nat.reduceAdd, Nat.reduceLeDiff, Nat.reduceMul, Nat.reduceEqDiff, Nat.reduceBEq, reduceIte, encn_len, hc4, hc4s, hc4c, hd4, hd4s, hd4c, hx3o, hg3o, hy3o] <;> rfl))) | ((with_reducible apply aw_cond_t); (focus (simp only [go_sem, Nat.reduceLT, Nat.reduceAdd, Nat.reduceLeDiff, Nat.reduceMul, Nat.reduceEqDiff, Nat.reduceBEq, reduceIte, encn_len, hc4, hc4s, hc4c, hd4, hd4s, hd4c, hx3o, hg3o, hy3o] <;> rfl))) | ((with_reducible apply aw_cond_d); (focus (simp only [go_sem, Nat.reduceLT, Nat.reduceAdd, Nat.reduceLeDiff, Nat.reduceMul, Nat.reduceEqDiff, Nat.reduceBEq, reduceIte, encn_len, hc4, hc4s, hc4c, hd4, hd4s, hd4c, hx3o, hg3o, hy3o] <;> rfl)); all_goals (intro hcond; try (exfalso; omega))) | ((with_reducible first | apply ae_r | apply ae_n); (focus (simp only [go_sem, Nat.reduceLT, Nat.reduceAdd, Nat.reduceLeDiff, Nat.reduceMul, Nat.reduceEqDiff, Nat.reduceBEq, reduceIte, encn_len, hc4, hc4s, hc4c, hd4, hd4s, hd4c, hx3o, hg3o, hy3o] <;> rfl))) | ((with_reducible apply ard_done); (focus rfl)))
  have key : ∃ (q5 : Nat) (H5 : Heap), H3.length + N4.length = q5 ∧ H3 ++ (N4 ++ [Blk.row 2 [[aN4, aW4]]]) = H5 ∧ H5.at 0 = .row 2 [[.fsl 7 (encn l), .fsl 5 (encw w)]] ∧ H5.at q0 = .row 2 [[.fsl 7 (encn l), .fsl 5 (encw w')]] ∧ H5.at q2 = .row 2 [[aN2, aW2]] ∧ H5.at q5 = .row 2 [[aN4, aW4]] ∧
      LNS H5 l aN2 i2 ∧ LWS H5 w aW2 j2 ∧ LNS H5 l aN4 i4 ∧ LWS H5 w' aW4 j4 ∧ q2 < q5 ∧ q5 < H5.length ∧ (∀ b ∈ i4 ++ j4, q2 < b ∧ b < q5) ∧ (∀ b ∈ i4 ++ j4, b ∉ i2 ++ j2) := by
    refine ⟨_, _, rfl, rfl, hx3o _, hg3o _, hy3o _, ?_, hL3.mono fun b hb => hold3 _ b ?_, hW3.mono fun b hb => hold3 _ b ?_, hL4.mono fun b hb => ?_, hW4.mono fun b hb => ?_, by omega, by simp, fun b hb => ?_, fun b hb h => ?_⟩
    · rw [Heap.at_app, Heap.at_app0]; rfl
    · have := hb3 b (by simp [hb]); omega
    · have := hb3 b (by simp [hb]); omega
    · rw [← List.append_assoc, Heap.at_old _ _ (hb4 b (by simp [hb])).2]
    · rw [← List.append_assoc, Heap.at_old _ _ (hb4 b (by simp [hb])).2]
    · have := hb4 b hb; simp at this; omega
    · have h1 := hb4 b hb; have h2 := hb3 b h; omega
  obtain ⟨q5, H5, hq5, hH5, hx5, hg5, hy5, hz5, hL25, hW25, hL45, hW45, hq25, hq5l, hb45, hdis⟩ := key
  rw [hq5, hH5]
  clear hq5 hH5 hx3o hg3o hy3o hold3 hL4 hW4 hb4 hx3 hg3 hy3 hL3 hW3
  repeat' (first | ((with_reducible first | apply ar_w T_ok | apply ar_w0 T_ok | apply ard_w T_ok | apply ard_w0 T_ok); (focus (simp (disch := omega) only [go_sem, Nat.reduceLT, Nat.reduceAdd, Nat.reduceLeDiff, Nat.reduceMul, Nat.reduceEqDiff, Nat.reduceBEq, reduceIte, encn_len, hc2, hc2s, hc2c, hd2, hd2s, hd2c, hc4, hc4s, hc4c, hd4, hd4s, hd4c, hx5, hg5, hy5, hz5] <;> rfl)); (focus (first | rfl | (simp [okIdsB, Nat.ble_eq]; done))); (focus rfl); (focus (first | trivial | (simp only [preOK]; omega) | exact ⟨by first | trivial | rfl | omega, by assumption, by omega⟩ | (simp [preOK, AllBytes, encn_len, hc2, hc2s, hc2c, hd2, hd2s, hd2c, hc4, hc4s, hc4c, hd4, hd4s, hd4c, hx5, hg5, hy5, hz5]; first | done | omega))); (focus (simp only [encn_len, hc2, hc2s, hc2c, hd2, hd2s, hd2c, hc4, hc4s, hc4c, hd4, hd4s, hd4c, hx5, hg5, hy5, hz5, Heap.puts, Heap.put_app, Heap.put_app0, Heap.put_len, Heap.put, List.length_append, List.length_cons, List.length_nil, Nat.zero_add, Nat.reduceAdd] <;> rfl))) | ((with_reducible first | apply ar_skip | apply ard_skip); (focus rfl); (focus rfl)) | ((with_reducible first | apply ar_pick | apply ard_pick); (focus (simp only [go_sem, Nat.reduceLT, Nat.reduceAdd, Nat.reduceLeDiff, Nat.reduceMul, Nat.reduceEqDiff, Nat.reduceBEq, reduceIte, encn_len, hc2, hc2s, hc2c, hd2, hd2s, hd2c, hc4, hc4s, hc4c, hd4, hd4s, hd4c, hx5, hg5, hy5, hz5] <;> rfl)); (focus (simp only [go_sem, Nat.reduceLT, Nat.reduceAdd, Nat.reduceLeDiff, Nat.reduceMul, Nat.reduceEqDiff, Nat.reduceBEq, reduceIte, encn_len, hc2, hc2s, hc2c, hd2, hd2s, hd2c, hc4, hc4s, hc4c, hd4, hd4s, hd4c, hx5, hg5, hy5, hz5] <;> rfl)); (focus rfl); (focus rfl)) | with_reducible (first | refine aw_reg_d P_mixed ?_ | refine ar_done ?_ | refine aw_seq ?_ | refine aw_reg ?_ | refine aw_block ?_ | refine aw_skip ?_ | refine aw_exit ?_ | refine aw_ret ?_ | refine at_n ?_ | refine at_e ?_ | refine at_r ?_ | refine ab_n ?_ | refine ab_r ?_ | refine ab_e ?_ | refine ab_ne rfl ?_ | refine an_e ?_ | refine an_r ?_ | refine am_e ?_ | refine am_r ?_) | ((with_reducible apply aw_cond_f); (focus (simp only [go_sem, Nat.reduceLT, Nat.reduceAdd, Nat.reduceLeDiff, Nat.reduceMul, Nat.reduceEqDiff, Nat.reduceBEq, reduceIte, encn_len, hc2, hc2s, hc2c, hd2, hd2s, hd2c, hc4, hc4s, hc4c, hd4, hd4s, hd4c, hx5, hg5, hy5, hz5] <;> rfl))) | ((with_reducible apply aw_cond_t); (focus (simp only [go_sem, Nat.reduceLT, Nat.reduceAdd, Nat.reduceLeDiff, Nat.reduceMul, Nat.reduceEqDiff, Nat.reduceBEq, reduceIte, encn_len, hc2, hc2s, hc2c, hd2, hd2s, hd2c, hc4, hc4s, hc4c, hd4, hd4s, hd4c, hx5, hg5, hy5, hz5] <;> rfl))) | ((with_reducible apply aw_cond_d); (focus (simp only [go_sem, Nat.reduceLT, Nat.reduceAdd, Nat.reduceLeDiff, Nat.reduceMul, Nat.reduceEqDiff, Nat.reduceBEq, reduceIte, encn_len, hc2, hc2s, hc2c, hd2, hd2s, hd2c, hc4, hc4s, hc4c, hd4, hd4s, hd4c, hx5, hg5, hy5, hz5] <;> rfl)); all_goals (intro hcond; try (exfalso; omega))) | ((with_reducible first | apply ae_r | apply ae_n); (focus (simp only [go_sem, Nat.reduceLT, Nat.reduceAdd, Nat.reduceLeDiff, Nat.reduceMul, Nat.reduceEqDiff, Nat.reduceBEq, reduceIte, encn_len, hc2, hc2s, hc2c, hd2, hd2s, hd2c, hc4, hc4s, hc4c, hd4, hd4s, hd4c, hx5, hg5, hy5, hz5] <;> rfl))) | ((with_reducible apply ard_done); (focus rfl)))
  refine ar_lend (S := i4 ++ j4) (args := [.agg [.fsl 7 (encn l), .fsl 5 (encw w')], .agg [.fsl 7 (encn l), .fsl 5 (encw w')]]) rfl ok_10 ⟨bor_agg rfl fun i hi => ?_, bor_frz rfl, trivial⟩ (eqHub_ok l w' hll hf hw') rfl rfl rfl ?_
  · match i, hi with
    | 0, _ => exact hL45.bor fun b hb => by simp [hb]
    | 1, _ => exact hW45.bor fun b hb => by simp [hb]
  repeat' (first | ((with_reducible first | apply ar_w T_ok | apply ar_w0 T_ok | apply ard_w T_ok | apply ard_w0 T_ok); (focus (simp (disch := omega) only [go_sem, Nat.reduceLT, Nat.reduceAdd, Nat.reduceLeDiff, Nat.reduceMul, Nat.reduceEqDiff, Nat.reduceBEq, reduceIte, encn_len, hc2, hc2s, hc2c, hd2, hd2s, hd2c, hc4, hc4s, hc4c, hd4, hd4s, hd4c, hx5, hg5, hy5, hz5] <;> rfl)); (focus (first | rfl | (simp [okIdsB, Nat.ble_eq]; done))); (focus rfl); (focus (first | trivial | (simp only [preOK]; omega) | exact ⟨by first | trivial | rfl | omega, by assumption, by omega⟩ | (simp [preOK, AllBytes, encn_len, hc2, hc2s, hc2c, hd2, hd2s, hd2c, hc4, hc4s, hc4c, hd4, hd4s, hd4c, hx5, hg5, hy5, hz5]; first | done | omega))); (focus (simp only [encn_len, hc2, hc2s, hc2c, hd2, hd2s, hd2c, hc4, hc4s, hc4c, hd4, hd4s, hd4c, hx5, hg5, hy5, hz5, Heap.puts, Heap.put_app, Heap.put_app0, Heap.put_len, Heap.put, List.length_append, List.length_cons, List.length_nil, Nat.zero_add, Nat.reduceAdd] <;> rfl))) | ((with_reducible first | apply ar_skip | apply ard_skip); (focus rfl); (focus rfl)) | ((with_reducible first | apply ar_pick | apply ard_pick); (focus (simp only [go_sem, Nat.reduceLT, Nat.reduceAdd, Nat.reduceLeDiff, Nat.reduceMul, Nat.reduceEqDiff, Nat.reduceBEq, reduceIte, encn_len, hc2, hc2s, hc2c, hd2, hd2s, hd2c, hc4, hc4s, hc4c, hd4, hd4s, hd4c, hx5, hg5, hy5, hz5] <;> rfl)); (focus (simp only [go_sem, Nat.reduceLT, Nat.reduceAdd, Nat.reduceLeDiff, Nat.reduceMul, Nat.reduceEqDiff, Nat.reduceBEq, reduceIte, encn_len, hc2, hc2s, hc2c, hd2, hd2s, hd2c, hc4, hc4s, hc4c, hd4, hd4s, hd4c, hx5, hg5, hy5, hz5] <;> rfl)); (focus rfl); (focus rfl)) | with_reducible (first | refine aw_reg_d P_mixed ?_ | refine ar_done ?_ | refine aw_seq ?_ | refine aw_reg ?_ | refine aw_block ?_ | refine aw_skip ?_ | refine aw_exit ?_ | refine aw_ret ?_ | refine at_n ?_ | refine at_e ?_ | refine at_r ?_ | refine ab_n ?_ | refine ab_r ?_ | refine ab_e ?_ | refine ab_ne rfl ?_ | refine an_e ?_ | refine an_r ?_ | refine am_e ?_ | refine am_r ?_) | ((with_reducible apply aw_cond_f); (focus (simp only [go_sem, Nat.reduceLT, Nat.reduceAdd, Nat.reduceLeDiff, Nat.reduceMul, Nat.reduceEqDiff, Nat.reduceBEq, reduceIte, encn_len, hc2, hc2s, hc2c, hd2, hd2s, hd2c, hc4, hc4s, hc4c, hd4, hd4s, hd4c, hx5, hg5, hy5, hz5] <;> rfl))) | ((with_reducible apply aw_cond_t); (focus (simp only [go_sem, Nat.reduceLT, Nat.reduceAdd, Nat.reduceLeDiff, Nat.reduceMul, Nat.reduceEqDiff, Nat.reduceBEq, reduceIte, encn_len, hc2, hc2s, hc2c, hd2, hd2s, hd2c, hc4, hc4s, hc4c, hd4, hd4s, hd4c, hx5, hg5, hy5, hz5] <;> rfl))) | ((with_reducible apply aw_cond_d); (focus (simp only [go_sem, Nat.reduceLT, Nat.reduceAdd, Nat.reduceLeDiff, Nat.reduceMul, Nat.reduceEqDiff, Nat.reduceBEq, reduceIte, encn_len, hc2, hc2s, hc2c, hd2, hd2s, hd2c, hc4, hc4s, hc4c, hd4, hd4s, hd4c, hx5, hg5, hy5, hz5] <;> rfl)); all_goals (intro hcond; try (exfalso; omega))) | ((with_reducible first | apply ae_r | apply ae_n); (focus (simp only [go_sem, Nat.reduceLT, Nat.reduceAdd, Nat.reduceLeDiff, Nat.reduceMul, Nat.reduceEqDiff, Nat.reduceBEq, reduceIte, encn_len, hc2, hc2s, hc2c, hd2, hd2s, hd2c, hc4, hc4s, hc4c, hd4, hd4s, hd4c, hx5, hg5, hy5, hz5] <;> rfl))) | ((with_reducible apply ard_done); (focus rfl)))
  have hcallH : ∀ H1 : Heap, H1.length = H5.length → (∀ b ∈ ([] : List Nat), H1.at b = H5.at b) → FCall P 17 [.agg [.fsl 7 (encn l), .fsl 5 (encw w)]] H1 fun r H' => r = (tH H5.length l w).1 ∧ H' = H1 ++ (tH H5.length l w).2 := fun H1 e1 _ => by rw [← e1]; exact toHub_fix l w hll hf hw H1
  ((apply ard_fcall (log := []) rfl ok_17); (focus (simp only [go_sem, Nat.reduceLT, Nat.reduceAdd, Nat.reduceLeDiff, Nat.reduceMul, Nat.reduceEqDiff, Nat.reduceBEq, reduceIte, encn_len, hc2, hc2s, hc2c, hd2, hd2s, hd2c, hc4, hc4s, hc4c, hd4, hd4s, hd4c, hx5, hg5, hy5, hz5, List.map] <;> rfl)); (focus exact hcallH); (rotate_left 5); (focus rfl); (focus rfl))
  rotate_left
  · rfl
  · exact fun b hb => by cases hb
  · exact fun b hb => by cases hb
  · exact (tH_abv _ l w).1
  · exact (tH_abv _ l w).2
  obtain ⟨aN6, aW6, i6, j6, hr6, hL6, hW6, hnd6, hb6⟩ := tH_L l w H5
  obtain ⟨⟨r6, Bs6⟩, hcB⟩ : ∃ p, tH H5.length l w = p := ⟨_, rfl⟩
  rw [hcB] at hr6 hL6 hW6 hb6 ⊢
  dsimp only at hr6 hL6 hW6 hb6 ⊢
  subst hr6
  have hold5 : ∀ (G : Heap) b, b < H5.length → Heap.at (H5 ++ G) b = H5.at b := fun G b hb => Heap.at_old _ _ hb
  have hi2lt : ∀ b ∈ i2 ++ j2, b < H5.length := fun b hb => by have := hb3 b hb; omega
  refine ard_lend (S := (i2 ++ j2) ++ (i6 ++ j6)) (args := [.agg [.fsl 7 (encn l), .fsl 5 (encw w)], .agg [.fsl 7 (encn l), .fsl 5 (encw w)]]) rfl ok_10 (fun G hG => ⟨bor_agg rfl fun i hi => ?_, bor_agg rfl fun i hi => ?_, trivial⟩) (eqHub_ok l w hll hf hw) rfl rfl rfl ?_
  · match i, hi with
    | 0, _ => exact (hL25.mono fun b hb => (hG b (by simp [hb])).trans (hold5 _ b (hi2lt b (by simp [hb])))).bor fun b hb => by simp [hb]
    | 1, _ => exact (hW25.mono fun b hb => (hG b (by simp [hb])).trans (hold5 _ b (hi2lt b (by simp [hb])))).bor fun b hb => by simp [hb]
  · match i, hi with
    | 0, _ => exact (hL6.mono fun b hb => hG b (by simp [hb])).bor fun b hb => by simp [hb]
    | 1, _ => exact (hW6.mono fun b hb => hG b (by simp [hb])).bor fun b hb => by simp [hb]
  repeat' (first | ((with_reducible first | apply ar_w T_ok | apply ar_w0 T_ok | apply ard_w T_ok | apply ard_w0 T_ok); (focus (simp (disch := omega) only [go_sem, Nat.reduceLT, Nat.reduceAdd, Nat.reduceLeDiff, Nat.reduceMul, Nat.reduceEqDiff, Nat.reduceBEq, reduceIte, encn_len, hc2, hc2s, hc2c, hd2, hd2s, hd2c, hc4, hc4s, hc4c, hd4, hd4s, hd4c, hx5, hg5, hy5, hz5] <;> rfl)); (focus (first | rfl | (simp [okIdsB, Nat.ble_eq]; done))); (focus rfl); (focus (first | trivial | (simp only [preOK]; omega) | exact ⟨by first | trivial | rfl | omega, by assumption, by omega⟩ | (simp [preOK, AllBytes, encn_len, hc2, hc2s, hc2c, hd2, hd2s, hd2c, hc4, hc4s, hc4c, hd4, hd4s, hd4c, hx5, hg5, hy5, hz5]; first | done | omega))); (focus (simp only [encn_len, hc2, hc2s, hc2c, hd2, hd2s, hd2c, hc4, hc4s, hc4c, hd4, hd4s, hd4c, hx5, hg5, hy5, hz5, Heap.puts, Heap.put_app, Heap.put_app0, Heap.put_len, Heap.put, List.length_append, List.length_cons, List.length_nil, Nat.zero_add, Nat.reduceAdd] <;> rfl))) | ((with_reducible first | apply ar_skip | apply ard_skip); (focus rfl); (focus rfl)) | ((with_reducible first | apply ar_pick | apply ard_pick); (focus (simp only [go_sem, Nat.reduceLT, Nat.reduceAdd, Nat.reduceLeDiff, Nat.reduceMul, Nat.reduceEqDiff, Nat.reduceBEq, reduceIte, encn_len, hc2, hc2s, hc2c, hd2, hd2s, hd2c, hc4, hc4s, hc4c, hd4, hd4s, hd4c, hx5, hg5, hy5, hz5] <;> rfl)); (focus (simp only [go_sem, Nat.reduceLT, Nat.reduceAdd, Nat.reduceLeDiff, Nat.reduceMul, Nat.reduceEqDiff, Nat.reduceBEq, reduceIte, encn_len, hc2, hc2s, hc2c, hd2, hd2s, hd2c, hc4, hc4s, hc4c, hd4, hd4s, hd4c, hx5, hg5, hy5, hz5] <;> rfl)); (focus rfl); (focus rfl)) | with_reducible (first | refine aw_reg_d P_mixed ?_ | refine ar_done ?_ | refine aw_seq ?_ | refine aw_reg ?_ | refine aw_block ?_ | refine aw_skip ?_ | refine aw_exit ?_ | refine aw_ret ?_ | refine at_n ?_ | refine at_e ?_ | refine at_r ?_ | refine ab_n ?_ | refine ab_r ?_ | refine ab_e ?_ | refine ab_ne rfl ?_ | refine an_e ?_ | refine an_r ?_ | refine am_e ?_ | refine am_r ?_) | ((with_reducible apply aw_cond_f); (focus (simp only [go_sem, Nat.reduceLT, Nat.reduceAdd, Nat.reduceLeDiff, Nat.reduceMul, Nat.reduceEqDiff, Nat.reduceBEq, reduceIte, encn_len, hc2, hc2s, hc2c, hd2, hd2s, hd2c, hc4, hc4s, hc4c, hd4, hd4s, hd4c, hx5, hg5, hy5, hz5] <;> rfl))) | ((with_reducible apply aw_cond_t); (focus (simp only [go_sem, Nat.reduceLT, Nat.reduceAdd, Nat.reduceLeDiff, Nat.reduceMul, Nat.reduceEqDiff, Nat.reduceBEq, reduceIte, encn_len, hc2, hc2s, hc2c, hd2, hd2s, hd2c, hc4, hc4s, hc4c, hd4, hd4s, hd4c, hx5, hg5, hy5, hz5] <;> rfl))) | ((with_reducible apply aw_cond_d); (focus (simp only [go_sem, Nat.reduceLT, Nat.reduceAdd, Nat.reduceLeDiff, Nat.reduceMul, Nat.reduceEqDiff, Nat.reduceBEq, reduceIte, encn_len, hc2, hc2s, hc2c, hd2, hd2s, hd2c, hc4, hc4s, hc4c, hd4, hd4s, hd4c, hx5, hg5, hy5, hz5] <;> rfl)); all_goals (intro hcond; try (exfalso; omega))) | ((with_reducible first | apply ae_r | apply ae_n); (focus (simp only [go_sem, Nat.reduceLT, Nat.reduceAdd, Nat.reduceLeDiff, Nat.reduceMul, Nat.reduceEqDiff, Nat.reduceBEq, reduceIte, encn_len, hc2, hc2s, hc2c, hd2, hd2s, hd2c, hc4, hc4s, hc4c, hd4, hd4s, hd4c, hx5, hg5, hy5, hz5] <;> rfl))) | ((with_reducible apply ard_done); (focus rfl)))
  refine ard_done_of [(0, 1), (0, 2)] rfl rfl rfl rfl ?_ ?_
  · have hbi2 : ∀ k, H5.length ≤ k → k ∉ i2 ++ j2 := fun k hk h => by have := hi2lt k h; omega
    simp only [List.all_cons, List.all_nil, List.reverse_cons, List.reverse_nil, List.nil_append, List.cons_append, List.append_assoc, effOf, List.getElem?_cons_zero, List.getElem?_cons_succ, apartH, Bool.and_true, Bool.true_and, List.contains_nil, Bool.not_false, Bool.and_eq_true, and_true, true_and, and_self]
    repeat' apply And.intro
    all_goals first | (apply all_newWr'; intro k x h1 h2; simp at h1 h2 ⊢; done) | (apply all_newWr'; intro k x h1 h2; simp at h1 h2 ⊢; omega) | (simp; done) | (simp; omega) | skip
  have key : ∃ (H6 : Heap), H5 ++ Bs6 = H6 ∧ H6.at 0 = .row 2 [[.fsl 7 (encn l), .fsl 5 (encw w)]] ∧ H6.at q0 = .row 2 [[.fsl 7 (encn l), .fsl 5 (encw w')]] ∧ H6.at q2 = .row 2 [[aN2, aW2]] ∧ H6.at q5 = .row 2 [[aN4, aW4]] ∧
      LNS H6 l aN2 i2 ∧ LWS H6 w aW2 j2 ∧ LNS H6 l aN4 i4 ∧ LWS H6 w' aW4 j4 ∧ q5 < H6.length := by
    refine ⟨_, rfl, (hold5 _ _ (by omega)).trans hx5, (hold5 _ _ (by omega)).trans hg5, (hold5 _ _ (by omega)).trans hy5, (hold5 _ _ (by omega)).trans hz5, hL25.mono fun b hb => hold5 _ b (hi2lt b (by simp [hb])), hW25.mono fun b hb => hold5 _ b (hi2lt b (by simp [hb])), hL45.mono fun b hb => hold5 _ b ?_, hW45.mono fun b hb => hold5 _ b ?_, by simp; omega⟩
    · have := hb45 b (by simp [hb]); omega
    · have := hb45 b (by simp [hb]); omega
  obtain ⟨H6, hH6, hx6, hg6, hy6, hz6, hL26, hW26, hL46, hW46, hq6⟩ := key
  rw [hH6]
  clear hH6 hL6 hW6 hb6 hnd6 hold5 hi2lt hcallH hL25 hW25 hL45 hW45 hx5 hg5 hy5 hz5 hcB Bs6
  repeat' (first | ((with_reducible first | apply ar_w T_ok | apply ar_w0 T_ok | apply ard_w T_ok | apply ard_w0 T_ok); (focus (simp (disch := omega) only [go_sem, Nat.reduceLT, Nat.reduceAdd, Nat.reduceLeDiff, Nat.reduceMul, Nat.reduceEqDiff, Nat.reduceBEq, reduceIte, encn_len, hc2, hc2s, hc2c, hd2, hd2s, hd2c, hc4, hc4s, hc4c, hd4, hd4s, hd4c, hx6, hg6, hy6, hz6] <;> rfl)); (focus (first | rfl | (simp [okIdsB, Nat.ble_eq]; done))); (focus rfl); (focus (first | trivial | (simp only [preOK]; omega) | exact ⟨by first | trivial | rfl | omega, by assumption, by omega⟩ | (simp [preOK, AllBytes, encn_len, hc2, hc2s, hc2c, hd2, hd2s, hd2c, hc4, hc4s, hc4c, hd4, hd4s, hd4c, hx6, hg6, hy6, hz6]; first | done | omega))); (focus (simp only [encn_len, hc2, hc2s, hc2c, hd2, hd2s, hd2c, hc4, hc4s, hc4c, hd4, hd4s, hd4c, hx6, hg6, hy6, hz6, Heap.puts, Heap.put_app, Heap.put_app0, Heap.put_len, Heap.put, List.length_append, List.length_cons, List.length_nil, Nat.zero_add, Nat.reduceAdd] <;> rfl))) | with_reducible (first | refine aw_reg_d P_mixed ?_ | refine ar_done ?_ | refine aw_seq ?_ | refine aw_reg ?_ | refine aw_block ?_ | refine aw_skip ?_ | refine aw_exit ?_ | refine aw_ret ?_ | refine at_n ?_ | refine at_e ?_ | refine at_r ?_ | refine ab_n ?_ | refine ab_r ?_ | refine ab_e ?_ | refine ab_ne rfl ?_ | refine an_e ?_ | refine an_r ?_ | refine am_e ?_ | refine am_r ?_) | ((with_reducible apply aw_cond_f); (focus (simp only [go_sem, Nat.reduceLT, Nat.reduceAdd, Nat.reduceLeDiff, Nat.reduceMul, Nat.reduceEqDiff, Nat.reduceBEq, reduceIte, encn_len, hc2, hc2s, hc2c, hd2, hd2s, hd2c, hc4, hc4s, hc4c, hd4, hd4s, hd4c, hx6, hg6, hy6, hz6] <;> rfl))) | ((with_reducible apply aw_cond_t); (focus (simp only [go_sem, Nat.reduceLT, Nat.reduceAdd, Nat.reduceLeDiff, Nat.reduceMul, Nat.reduceEqDiff, Nat.reduceBEq, reduceIte, encn_len, hc2, hc2s, hc2c, hd2, hd2s, hd2c, hc4, hc4s, hc4c, hd4, hd4s, hd4c, hx6, hg6, hy6, hz6] <;> rfl))) | ((with_reducible apply aw_cond_d); (focus (simp only [go_sem, Nat.reduceLT, Nat.reduceAdd, Nat.reduceLeDiff, Nat.reduceMul, Nat.reduceEqDiff, Nat.reduceBEq, reduceIte, encn_len, hc2, hc2s, hc2c, hd2, hd2s, hd2c, hc4, hc4s, hc4c, hd4, hd4s, hd4c, hx6, hg6, hy6, hz6] <;> rfl)); all_goals (intro hcond; try (exfalso; omega))) | ((with_reducible first | apply ae_r | apply ae_n); (focus (simp only [go_sem, Nat.reduceLT, Nat.reduceAdd, Nat.reduceLeDiff, Nat.reduceMul, Nat.reduceEqDiff, Nat.reduceBEq, reduceIte, encn_len, hc2, hc2s, hc2c, hd2, hd2s, hd2c, hc4, hc4s, hc4c, hd4, hd4s, hd4c, hx6, hg6, hy6, hz6] <;> rfl))) | ((with_reducible apply ard_done); (focus rfl)))
  ((apply ar_fcall rfl ok_13); (focus (simp only [go_sem, Nat.reduceLT, Nat.reduceAdd, Nat.reduceLeDiff, Nat.reduceMul, Nat.reduceEqDiff, Nat.reduceBEq, reduceIte, encn_len, hc2, hc2s, hc2c, hd2, hd2s, hd2c, hc4, hc4s, hc4c, hd4, hd4s, hd4c, hx6, hg6, hy6, hz6, List.map] <;> rfl)); (focus exact markHub_ok l w aN2 aW2 i2 j2 1 H6 hL26 hW26 hnd2 (fun b hb => by have := hb3 b hb; omega) hll hf hw (Nat.le_refl _) (by omega)); (focus rfl); (focus rfl))
  rintro _ H7 ⟨rfl, X7, hl7, -, -, hO7⟩
  have hx7 := (hO7 0 (by omega) fun h => by have := hb3 0 h; omega).trans hx6
  have hg7 := (hO7 q0 (by omega) fun h => by have := hb3 q0 h; omega).trans hg6
  have hz7 := (hO7 q5 (by omega) fun h => by have := hb3 q5 h; omega).trans hz6
  have hL47 : LNS H7 l aN4 i4 := hL46.mono fun b hb => hO7 b (by have := hb45 b (by simp [hb]); omega) (hdis b (by simp [hb]))
  have hW47 : LWS H7 w' aW4 j4 := hW46.mono fun b hb => hO7 b (by have := hb45 b (by simp [hb]); omega) (hdis b (by simp [hb]))
  clear hx6 hg6 hy6 hz6 hL26 hW26 hL46 hW46 hO7
  have hneg : decide (((1 + cntNs l + 5 * w.length : Nat) : Int) < 0) = false := by simp; omega
  repeat' (first | ((with_reducible first | apply ar_w T_ok | apply ar_w0 T_ok | apply ard_w T_ok | apply ard_w0 T_ok); (focus (simp (disch := omega) only [go_sem, Nat.reduceLT, Nat.reduceAdd, Nat.reduceLeDiff, Nat.reduceMul, Nat.reduceEqDiff, Nat.reduceBEq, reduceIte, encn_len, hc2, hc2s, hc2c, hd2, hd2s, hd2c, hc4, hc4s, hc4c, hd4, hd4s, hd4c, hx7, hg7, hz7, hneg] <;> rfl)); (focus (first | rfl | (simp [okIdsB, Nat.ble_eq]; done))); (focus rfl); (focus (first | trivial | (simp only [preOK]; omega) | exact ⟨by first | trivial | rfl | omega, by assumption, by omega⟩ | (simp [preOK, AllBytes, encn_len, hc2, hc2s, hc2c, hd2, hd2s, hd2c, hc4, hc4s, hc4c, hd4, hd4s, hd4c, hx7, hg7, hz7, hneg]; first | done | omega))); (focus (simp only [encn_len, hc2, hc2s, hc2c, hd2, hd2s, hd2c, hc4, hc4s, hc4c, hd4, hd4s, hd4c, hx7, hg7, hz7, hneg, Heap.puts, Heap.put_app, Heap.put_app0, Heap.put_len, Heap.put, List.length_append, List.length_cons, List.length_nil, Nat.zero_add, Nat.reduceAdd] <;> rfl))) | ((with_reducible first | apply ar_skip | apply ard_skip); (focus rfl); (focus rfl)) | ((with_reducible first | apply ar_pick | apply ard_pick); (focus (simp only [go_sem, Nat.reduceLT, Nat.reduceAdd, Nat.reduceLeDiff, Nat.reduceMul, Nat.reduceEqDiff, Nat.reduceBEq, reduceIte, encn_len, hc2, hc2s, hc2c, hd2, hd2s, hd2c, hc4, hc4s, hc4c, hd4, hd4s, hd4c, hx7, hg7, hz7, hneg] <;> rfl)); (focus (simp only [go_sem, Nat.reduceLT, Nat.reduceAdd, Nat.reduceLeDiff, Nat.reduceMul, Nat.reduceEqDiff, Nat.reduceBEq, reduceIte, encn_len, hc2, hc2s, hc2c, hd2, hd2s, hd2c, hc4, hc4s, hc4c, hd4, hd4s, hd4c, hx7, hg7, hz7, hneg] <;> rfl)); (focus rfl); (focus rfl)) | with_reducible (first | refine aw_reg_d P_mixed ?_ | refine ar_done ?_ | refine aw_seq ?_ | refine aw_reg ?_ | refine aw_block ?_ | refine aw_skip ?_ | refine aw_exit ?_ | refine aw_ret ?_ | refine at_n ?_ | refine at_e ?_ | refine at_r ?_ | refine ab_n ?_ | refine ab_r ?_ | refine ab_e ?_ | refine ab_ne rfl ?_ | refine an_e ?_ | refine an_r ?_ | refine am_e ?_ | refine am_r ?_) | ((with_reducible apply aw_cond_f); (focus (simp only [go_sem, Nat.reduceLT, Nat.reduceAdd, Nat.reduceLeDiff, Nat.reduceMul, Nat.reduceEqDiff, Nat.reduceBEq, reduceIte, encn_len, hc2, hc2s, hc2c, hd2, hd2s, hd2c, hc4, hc4s, hc4c, hd4, hd4s, hd4c, hx7, hg7, hz7, hneg] <;> rfl))) | ((with_reducible apply aw_cond_t); (focus (simp only [go_sem, Nat.reduceLT, Nat.reduceAdd, Nat.reduceLeDiff, Nat.reduceMul, Nat.reduceEqDiff, Nat.reduceBEq, reduceIte, encn_len, hc2, hc2s, hc2c, hd2, hd2s, hd2c, hc4, hc4s, hc4c, hd4, hd4s, hd4c, hx7, hg7, hz7, hneg] <;> rfl))) | ((with_reducible apply aw_cond_d); (focus (simp only [go_sem, Nat.reduceLT, Nat.reduceAdd, Nat.reduceLeDiff, Nat.reduceMul, Nat.reduceEqDiff, Nat.reduceBEq, reduceIte, encn_len, hc2, hc2s, hc2c, hd2, hd2s, hd2c, hc4, hc4s, hc4c, hd4, hd4s, hd4c, hx7, hg7, hz7, hneg] <;> rfl)); all_goals (intro hcond; try (exfalso; omega))) | ((with_reducible first | apply ae_r | apply ae_n); (focus (simp only [go_sem, Nat.reduceLT, Nat.reduceAdd, Nat.reduceLeDiff, Nat.reduceMul, Nat.reduceEqDiff, Nat.reduceBEq, reduceIte, encn_len, hc2, hc2s, hc2c, hd2, hd2s, hd2c, hc4, hc4s, hc4c, hd4, hd4s, hd4c, hx7, hg7, hz7, hneg] <;> rfl))) | ((with_reducible apply ard_done); (focus rfl)))
  refine ar_lend (S := i4 ++ j4) (args := [.agg [.fsl 7 (encn l), .fsl 5 (encw w')], .agg [.fsl 7 (encn l), .fsl 5 (encw w')]]) rfl ok_10 ⟨bor_agg rfl fun i hi => ?_, bor_frz rfl, trivial⟩ (eqHub_ok l w' hll hf hw') rfl rfl rfl ?_
  · match i, hi with
    | 0, _ => exact hL47.bor fun b hb => by simp [hb]
    | 1, _ => exact hW47.bor fun b hb => by simp [hb]
  repeat' (first | ((with_reducible first | apply ar_w T_ok | apply ar_w0 T_ok | apply ard_w T_ok | apply ard_w0 T_ok); (focus (simp (disch := omega) only [go_sem, Nat.reduceLT, Nat.reduceAdd, Nat.reduceLeDiff, Nat.reduceMul, Nat.reduceEqDiff, Nat.reduceBEq, reduceIte, encn_len, hc2, hc2s, hc2c, hd2, hd2s, hd2c, hc4, hc4s, hc4c, hd4, hd4s, hd4c, hx7, hg7, hz7, hneg] <;> rfl)); (focus (first | rfl | (simp [okIdsB, Nat.ble_eq]; done))); (focus rfl); (focus (first | trivial | (simp only [preOK]; omega) | exact ⟨by first | trivial | rfl | omega, by assumption, by omega⟩ | (simp [preOK, AllBytes, encn_len, hc2, hc2s, hc2c, hd2, hd2s, hd2c, hc4, hc4s, hc4c, hd4, hd4s, hd4c, hx7, hg7, hz7, hneg]; first | done | omega))); (focus (simp only [encn_len, hc2, hc2s, hc2c, hd2, hd2s, hd2c, hc4, hc4s, hc4c, hd4, hd4s, hd4c, hx7, hg7, hz7, hneg, Heap.puts, Heap.put_app, Heap.put_app0, Heap.put_len, Heap.put, List.length_append, List.length_cons, List.length_nil, Nat.zero_add, Nat.reduceAdd] <;> rfl))) | ((with_reducible first | apply ar_skip | apply ard_skip); (focus rfl); (focus rfl)) | ((with_reducible first | apply ar_pick | apply ard_pick); (focus (simp only [go_sem, Nat.reduceLT, Nat.reduceAdd, Nat.reduceLeDiff, Nat.reduceMul, Nat.reduceEqDiff, Nat.reduceBEq, reduceIte, encn_len, hc2, hc2s, hc2c, hd2, hd2s, hd2c, hc4, hc4s, hc4c, hd4, hd4s, hd4c, hx7, hg7, hz7, hneg] <;> rfl)); (focus (simp only [go_sem, Nat.reduceLT, Nat.reduceAdd, Nat.reduceLeDiff, Nat.reduceMul, Nat.reduceEqDiff, Nat.reduceBEq, reduceIte, encn_len, hc2, hc2s, hc2c, hd2, hd2s, hd2c, hc4, hc4s, hc4c, hd4, hd4s, hd4c, hx7, hg7, hz7, hneg] <;> rfl)); (focus rfl); (focus rfl)) | with_reducible (first | refine aw_reg_d P_mixed ?_ | refine ar_done ?_ | refine aw_seq ?_ | refine aw_reg ?_ | refine aw_block ?_ | refine aw_skip ?_ | refine aw_exit ?_ | refine aw_ret ?_ | refine at_n ?_ | refine at_e ?_ | refine at_r ?_ | refine ab_n ?_ | refine ab_r ?_ | refine ab_e ?_ | refine ab_ne rfl ?_ | refine an_e ?_ | refine an_r ?_ | refine am_e ?_ | refine am_r ?_) | ((with_reducible apply aw_cond_f); (focus (simp only [go_sem, Nat.reduceLT, Nat.reduceAdd, Nat.reduceLeDiff, Nat.reduceMul, Nat.reduceEqDiff, Nat.reduceBEq, reduceIte, encn_len, hc2, hc2s, hc2c, hd2, hd2s, hd2c, hc4, hc4s, hc4c, hd4, hd4s, hd4c, hx7, hg7, hz7, hneg] <;> rfl))) | ((with_reducible apply aw_cond_t); (focus (simp only [go_sem, Nat.reduceLT, Nat.reduceAdd, Nat.reduceLeDiff, Nat.reduceMul, Nat.reduceEqDiff, Nat.reduceBEq, reduceIte, encn_len, hc2, hc2s, hc2c, hd2, hd2s, hd2c, hc4, hc4s, hc4c, hd4, hd4s, hd4c, hx7, hg7, hz7, hneg] <;> rfl))) | ((with_reducible apply aw_cond_d); (focus (simp only [go_sem, Nat.reduceLT, Nat.reduceAdd, Nat.reduceLeDiff, Nat.reduceMul, Nat.reduceEqDiff, Nat.reduceBEq, reduceIte, encn_len, hc2, hc2s, hc2c, hd2, hd2s, hd2c, hc4, hc4s, hc4c, hd4, hd4s, hd4c, hx7, hg7, hz7, hneg] <;> rfl)); all_goals (intro hcond; try (exfalso; omega))) | ((with_reducible first | apply ae_r | apply ae_n); (focus (simp only [go_sem, Nat.reduceLT, Nat.reduceAdd, Nat.reduceLeDiff, Nat.reduceMul, Nat.reduceEqDiff, Nat.reduceBEq, reduceIte, encn_len, hc2, hc2s, hc2c, hd2, hd2s, hd2c, hc4, hc4s, hc4c, hd4, hd4s, hd4c, hx7, hg7, hz7, hneg] <;> rfl))) | ((with_reducible apply ard_done); (focus rfl)))
  ((apply ar_fcall rfl ok_13); (focus (simp only [go_sem, Nat.reduceLT, Nat.reduceAdd, Nat.reduceLeDiff, Nat.reduceMul, Nat.reduceEqDiff, Nat.reduceBEq, reduceIte, encn_len, hc2, hc2s, hc2c, hd2, hd2s, hd2c, hc4, hc4s, hc4c, hd4, hd4s, hd4c, hx7, hg7, hz7, hneg, List.map] <;> rfl)); (focus exact markHub_ok l w' aN4 aW4 i4 j4 1 H7 hL47 hW47 hnd4 (fun b hb => by have := hb45 b hb; omega) hll hf hw' (Nat.le_refl _) (by omega)); (focus rfl); (focus rfl))
  rintro _ H8 ⟨rfl, X8, hl8, hL48, hW48, hO8⟩
  have hx8 := (hO8 0 (by omega) fun h => by have := hb45 0 h; omega).trans hx7
  have hg8 := (hO8 q0 (by omega) fun h => by have := hb45 q0 h; omega).trans hg7
  have hz8 := (hO8 q5 (by omega) fun h => by have := hb45 q5 h; omega).trans hz7
  clear hx7 hg7 hz7 hL47 hW47 hO8
  repeat' (first | ((with_reducible first | apply ar_w T_ok | apply ar_w0 T_ok | apply ard_w T_ok | apply ard_w0 T_ok); (focus (simp (disch := omega) only [go_sem, Nat.reduceLT, Nat.reduceAdd, Nat.reduceLeDiff, Nat.reduceMul, Nat.reduceEqDiff, Nat.reduceBEq, reduceIte, encn_len, hc2, hc2s, hc2c, hd2, hd2s, hd2c, hc4, hc4s, hc4c, hd4, hd4s, hd4c, hx8, hg8, hz8] <;> rfl)); (focus (first | rfl | (simp [okIdsB, Nat.ble_eq]; done))); (focus rfl); (focus (first | trivial | (simp only [preOK]; omega) | exact ⟨by first | trivial | rfl | omega, by assumption, by omega⟩ | (simp [preOK, AllBytes, encn_len, hc2, hc2s, hc2c, hd2, hd2s, hd2c, hc4, hc4s, hc4c, hd4, hd4s, hd4c, hx8, hg8, hz8]; first | done | omega))); (focus (simp only [encn_len, hc2, hc2s, hc2c, hd2, hd2s, hd2c, hc4, hc4s, hc4c, hd4, hd4s, hd4c, hx8, hg8, hz8, Heap.puts, Heap.put_app, Heap.put_app0, Heap.put_len, Heap.put, List.length_append, List.length_cons, List.length_nil, Nat.zero_add, Nat.reduceAdd] <;> rfl))) | with_reducible (first | refine aw_reg_d P_mixed ?_ | refine ar_done ?_ | refine aw_seq ?_ | refine aw_reg ?_ | refine aw_block ?_ | refine aw_skip ?_ | refine aw_exit ?_ | refine aw_ret ?_ | refine at_n ?_ | refine at_e ?_ | refine at_r ?_ | refine ab_n ?_ | refine ab_r ?_ | refine ab_e ?_ | refine ab_ne rfl ?_ | refine an_e ?_ | refine an_r ?_ | refine am_e ?_ | refine am_r ?_) | ((with_reducible apply aw_cond_f); (focus (simp only [go_sem, Nat.reduceLT, Nat.reduceAdd, Nat.reduceLeDiff, Nat.reduceMul, Nat.reduceEqDiff, Nat.reduceBEq, reduceIte, encn_len, hc2, hc2s, hc2c, hd2, hd2s, hd2c, hc4, hc4s, hc4c, hd4, hd4s, hd4c, hx8, hg8, hz8] <;> rfl))) | ((with_reducible apply aw_cond_t); (focus (simp only [go_sem, Nat.reduceLT, Nat.reduceAdd, Nat.reduceLeDiff, Nat.reduceMul, Nat.reduceEqDiff, Nat.reduceBEq, reduceIte, encn_len, hc2, hc2s, hc2c, hd2, hd2s, hd2c, hc4, hc4s, hc4c, hd4, hd4s, hd4c, hx8, hg8, hz8] <;> rfl))) | ((with_reducible apply aw_cond_d); (focus (simp only [go_sem, Nat.reduceLT, Nat.reduceAdd, Nat.reduceLeDiff, Nat.reduceMul, Nat.reduceEqDiff, Nat.reduceBEq, reduceIte, encn_len, hc2, hc2s, hc2c, hd2, hd2s, hd2c, hc4, hc4s, hc4c, hd4, hd4s, hd4c, hx8, hg8, hz8] <;> rfl)); all_goals (intro hcond; try (exfalso; omega))) | ((with_reducible first | apply ae_r | apply ae_n); (focus (simp only [go_sem, Nat.reduceLT, Nat.reduceAdd, Nat.reduceLeDiff, Nat.reduceMul, Nat.reduceEqDiff, Nat.reduceBEq, reduceIte, encn_len, hc2, hc2s, hc2c, hd2, hd2s, hd2c, hc4, hc4s, hc4c, hd4, hd4s, hd4c, hx8, hg8, hz8] <;> rfl))) | ((with_reducible apply ard_done); (focus rfl)))
  refine ar_lend (S := i4 ++ j4) (args := [.agg [.fsl 7 (encn (mkNs l 1)), .fsl 5 (encw (mkWs w' (1 + cntNs l)))], .int .i64 1]) rfl ok_14 ⟨bor_agg rfl fun i hi => ?_, bor_frz rfl, trivial⟩ (heldHub_ok l w' 1 hll hf hw' (Nat.le_refl _) (by omega)) rfl rfl rfl ?_
  · match i, hi with
    | 0, _ => exact hL48.bor fun b hb => by simp [hb]
    | 1, _ => exact hW48.bor fun b hb => by simp [hb]
  have hneg' : decide (((1 + cntNs l + 5 * w'.length : Nat) : Int) < 0) = false := by simp; omega
  repeat' (first | ((with_reducible first | apply ar_w T_ok | apply ar_w0 T_ok | apply ard_w T_ok | apply ard_w0 T_ok); (focus (simp (disch := omega) only [go_sem, Nat.reduceLT, Nat.reduceAdd, Nat.reduceLeDiff, Nat.reduceMul, Nat.reduceEqDiff, Nat.reduceBEq, reduceIte, encn_len, hc2, hc2s, hc2c, hd2, hd2s, hd2c, hc4, hc4s, hc4c, hd4, hd4s, hd4c, hx8, hg8, hz8, hneg'] <;> rfl)); (focus (first | rfl | (simp [okIdsB, Nat.ble_eq]; done))); (focus rfl); (focus (first | trivial | (simp only [preOK]; omega) | exact ⟨by first | trivial | rfl | omega, by assumption, by omega⟩ | (simp [preOK, AllBytes, encn_len, hc2, hc2s, hc2c, hd2, hd2s, hd2c, hc4, hc4s, hc4c, hd4, hd4s, hd4c, hx8, hg8, hz8, hneg']; first | done | omega))); (focus (simp only [encn_len, hc2, hc2s, hc2c, hd2, hd2s, hd2c, hc4, hc4s, hc4c, hd4, hd4s, hd4c, hx8, hg8, hz8, hneg', Heap.puts, Heap.put_app, Heap.put_app0, Heap.put_len, Heap.put, List.length_append, List.length_cons, List.length_nil, Nat.zero_add, Nat.reduceAdd] <;> rfl))) | with_reducible (first | refine aw_reg_d P_mixed ?_ | refine ar_done ?_ | refine aw_seq ?_ | refine aw_reg ?_ | refine aw_block ?_ | refine aw_skip ?_ | refine aw_exit ?_ | refine aw_ret ?_ | refine at_n ?_ | refine at_e ?_ | refine at_r ?_ | refine ab_n ?_ | refine ab_r ?_ | refine ab_e ?_ | refine ab_ne rfl ?_ | refine an_e ?_ | refine an_r ?_ | refine am_e ?_ | refine am_r ?_) | ((with_reducible apply aw_cond_f); (focus (simp only [go_sem, Nat.reduceLT, Nat.reduceAdd, Nat.reduceLeDiff, Nat.reduceMul, Nat.reduceEqDiff, Nat.reduceBEq, reduceIte, encn_len, hc2, hc2s, hc2c, hd2, hd2s, hd2c, hc4, hc4s, hc4c, hd4, hd4s, hd4c, hx8, hg8, hz8, hneg'] <;> rfl))) | ((with_reducible apply aw_cond_t); (focus (simp only [go_sem, Nat.reduceLT, Nat.reduceAdd, Nat.reduceLeDiff, Nat.reduceMul, Nat.reduceEqDiff, Nat.reduceBEq, reduceIte, encn_len, hc2, hc2s, hc2c, hd2, hd2s, hd2c, hc4, hc4s, hc4c, hd4, hd4s, hd4c, hx8, hg8, hz8, hneg'] <;> rfl))) | ((with_reducible apply aw_cond_d); (focus (simp only [go_sem, Nat.reduceLT, Nat.reduceAdd, Nat.reduceLeDiff, Nat.reduceMul, Nat.reduceEqDiff, Nat.reduceBEq, reduceIte, encn_len, hc2, hc2s, hc2c, hd2, hd2s, hd2c, hc4, hc4s, hc4c, hd4, hd4s, hd4c, hx8, hg8, hz8, hneg'] <;> rfl)); all_goals (intro hcond; try (exfalso; omega))) | ((with_reducible first | apply ae_r | apply ae_n); (focus (simp only [go_sem, Nat.reduceLT, Nat.reduceAdd, Nat.reduceLeDiff, Nat.reduceMul, Nat.reduceEqDiff, Nat.reduceBEq, reduceIte, encn_len, hc2, hc2s, hc2c, hd2, hd2s, hd2c, hc4, hc4s, hc4c, hd4, hd4s, hd4c, hx8, hg8, hz8, hneg'] <;> rfl))) | ((with_reducible apply ard_done); (focus rfl)))
  ((apply ar_fcall rfl ok_17); (focus (simp only [go_sem, Nat.reduceLT, Nat.reduceAdd, Nat.reduceLeDiff, Nat.reduceMul, Nat.reduceEqDiff, Nat.reduceBEq, reduceIte, encn_len, hc2, hc2s, hc2c, hd2, hd2s, hd2c, hc4, hc4s, hc4c, hd4, hd4s, hd4c, hx8, hg8, hz8, hneg', List.map] <;> rfl)); (focus exact toHub_ok l w hll hf hw _); (focus rfl); (focus rfl))
  rintro _ _ ⟨N9, aN9, aW9, i9, j9, rfl, rfl, hL9, hW9, hnd9, hb9⟩
  repeat' (first | ((with_reducible first | apply ar_w T_ok | apply ar_w0 T_ok | apply ard_w T_ok | apply ard_w0 T_ok); (focus (simp (disch := omega) only [go_sem, Nat.reduceLT, Nat.reduceAdd, Nat.reduceLeDiff, Nat.reduceMul, Nat.reduceEqDiff, Nat.reduceBEq, reduceIte, encn_len, hc2, hc2s, hc2c, hd2, hd2s, hd2c, hc4, hc4s, hc4c, hd4, hd4s, hd4c, hx8, hg8, hz8, hneg'] <;> rfl)); (focus (first | rfl | (simp [okIdsB, Nat.ble_eq]; done))); (focus rfl); (focus (first | trivial | (simp only [preOK]; omega) | exact ⟨by first | trivial | rfl | omega, by assumption, by omega⟩ | (simp [preOK, AllBytes, encn_len, hc2, hc2s, hc2c, hd2, hd2s, hd2c, hc4, hc4s, hc4c, hd4, hd4s, hd4c, hx8, hg8, hz8, hneg']; first | done | omega))); (focus (simp only [encn_len, hc2, hc2s, hc2c, hd2, hd2s, hd2c, hc4, hc4s, hc4c, hd4, hd4s, hd4c, hx8, hg8, hz8, hneg', Heap.puts, Heap.put_app, Heap.put_app0, Heap.put_len, Heap.put, List.length_append, List.length_cons, List.length_nil, Nat.zero_add, Nat.reduceAdd] <;> rfl))) | with_reducible (first | refine aw_reg_d P_mixed ?_ | refine ar_done ?_ | refine aw_seq ?_ | refine aw_reg ?_ | refine aw_block ?_ | refine aw_skip ?_ | refine aw_exit ?_ | refine aw_ret ?_ | refine at_n ?_ | refine at_e ?_ | refine at_r ?_ | refine ab_n ?_ | refine ab_r ?_ | refine ab_e ?_ | refine ab_ne rfl ?_ | refine an_e ?_ | refine an_r ?_ | refine am_e ?_ | refine am_r ?_) | ((with_reducible apply aw_cond_f); (focus (simp only [go_sem, Nat.reduceLT, Nat.reduceAdd, Nat.reduceLeDiff, Nat.reduceMul, Nat.reduceEqDiff, Nat.reduceBEq, reduceIte, encn_len, hc2, hc2s, hc2c, hd2, hd2s, hd2c, hc4, hc4s, hc4c, hd4, hd4s, hd4c, hx8, hg8, hz8, hneg'] <;> rfl))) | ((with_reducible apply aw_cond_t); (focus (simp only [go_sem, Nat.reduceLT, Nat.reduceAdd, Nat.reduceLeDiff, Nat.reduceMul, Nat.reduceEqDiff, Nat.reduceBEq, reduceIte, encn_len, hc2, hc2s, hc2c, hd2, hd2s, hd2c, hc4, hc4s, hc4c, hd4, hd4s, hd4c, hx8, hg8, hz8, hneg'] <;> rfl))) | ((with_reducible apply aw_cond_d); (focus (simp only [go_sem, Nat.reduceLT, Nat.reduceAdd, Nat.reduceLeDiff, Nat.reduceMul, Nat.reduceEqDiff, Nat.reduceBEq, reduceIte, encn_len, hc2, hc2s, hc2c, hd2, hd2s, hd2c, hc4, hc4s, hc4c, hd4, hd4s, hd4c, hx8, hg8, hz8, hneg'] <;> rfl)); all_goals (intro hcond; try (exfalso; omega))) | ((with_reducible first | apply ae_r | apply ae_n); (focus (simp only [go_sem, Nat.reduceLT, Nat.reduceAdd, Nat.reduceLeDiff, Nat.reduceMul, Nat.reduceEqDiff, Nat.reduceBEq, reduceIte, encn_len, hc2, hc2s, hc2c, hd2, hd2s, hd2c, hc4, hc4s, hc4c, hd4, hd4s, hd4c, hx8, hg8, hz8, hneg'] <;> rfl))) | ((with_reducible apply ard_done); (focus rfl)))
  ((apply ar_fcall rfl ok_18); (focus (simp only [go_sem, Nat.reduceLT, Nat.reduceAdd, Nat.reduceLeDiff, Nat.reduceMul, Nat.reduceEqDiff, Nat.reduceBEq, reduceIte, encn_len, hc2, hc2s, hc2c, hd2, hd2s, hd2c, hc4, hc4s, hc4c, hd4, hd4s, hd4c, hx8, hg8, hz8, hneg', List.map] <;> rfl)); (focus exact himpl aN9 aW9 i9 j9 _ hL9 hW9 (fun b hb => (hb9 b hb).2) (List.nodup_append.1 hnd9).1); (focus rfl); (focus rfl))
  rintro _ _ ⟨N10, _, rfl, ⟨N10', aN10, aW10, i10, j10, rfl, hN10, hL10, hW10, hnd10, hb10⟩, rfl⟩
  clear hN10 N10'
  have hc10 := hL10.cell
  have hc10s := solid_of_cell hc10
  have hc10c := cells_of_cell hc10
  have hd10 := hW10.cell
  have hd10s := solid_of_cell hd10
  have hd10c := cells_of_cell hd10
  have hold8 : ∀ (G : Heap) b, b < H8.length → Heap.at (H8 ++ G) b = H8.at b := fun G b hb => Heap.at_old _ _ hb
  simp only [List.append_assoc] at hL10 hW10 hb10 ⊢
  have hg8o : ∀ G, Heap.at (H8 ++ G) q0 = .row 2 [[.fsl 7 (encn l), .fsl 5 (encw w')]] := fun G => (hold8 G q0 (by omega)).trans hg8
  have hz8o : ∀ G, Heap.at (H8 ++ G) q5 = .row 2 [[aN4, aW4]] := fun G => (hold8 G q5 (by omega)).trans hz8
  repeat' (first | ((with_reducible first | apply ar_w T_ok | apply ar_w0 T_ok | apply ard_w T_ok | apply ard_w0 T_ok); (focus (simp (disch := omega) only [go_sem, Nat.reduceLT, Nat.reduceAdd, Nat.reduceLeDiff, Nat.reduceMul, Nat.reduceEqDiff, Nat.reduceBEq, reduceIte, encn_len, hc4, hc4s, hc4c, hd4, hd4s, hd4c, hc10, hc10s, hc10c, hd10, hd10s, hd10c, hg8o, hz8o] <;> rfl)); (focus (first | rfl | (simp [okIdsB, Nat.ble_eq]; done))); (focus rfl); (focus (first | trivial | (simp only [preOK]; omega) | exact ⟨by first | trivial | rfl | omega, by assumption, by omega⟩ | (simp [preOK, AllBytes, encn_len, hc4, hc4s, hc4c, hd4, hd4s, hd4c, hc10, hc10s, hc10c, hd10, hd10s, hd10c, hg8o, hz8o]; first | done | omega))); (focus (simp only [encn_len, hc4, hc4s, hc4c, hd4, hd4s, hd4c, hc10, hc10s, hc10c, hd10, hd10s, hd10c, hg8o, hz8o, Heap.puts, Heap.put_app, Heap.put_app0, Heap.put_len, Heap.put, List.length_append, List.length_cons, List.length_nil, Nat.zero_add, Nat.reduceAdd] <;> rfl))) | with_reducible (first | refine aw_reg_d P_mixed ?_ | refine ar_done ?_ | refine aw_seq ?_ | refine aw_reg ?_ | refine aw_block ?_ | refine aw_skip ?_ | refine aw_exit ?_ | refine aw_ret ?_ | refine at_n ?_ | refine at_e ?_ | refine at_r ?_ | refine ab_n ?_ | refine ab_r ?_ | refine ab_e ?_ | refine ab_ne rfl ?_ | refine an_e ?_ | refine an_r ?_ | refine am_e ?_ | refine am_r ?_) | ((with_reducible apply aw_cond_f); (focus (simp only [go_sem, Nat.reduceLT, Nat.reduceAdd, Nat.reduceLeDiff, Nat.reduceMul, Nat.reduceEqDiff, Nat.reduceBEq, reduceIte, encn_len, hc4, hc4s, hc4c, hd4, hd4s, hd4c, hc10, hc10s, hc10c, hd10, hd10s, hd10c, hg8o, hz8o] <;> rfl))) | ((with_reducible apply aw_cond_t); (focus (simp only [go_sem, Nat.reduceLT, Nat.reduceAdd, Nat.reduceLeDiff, Nat.reduceMul, Nat.reduceEqDiff, Nat.reduceBEq, reduceIte, encn_len, hc4, hc4s, hc4c, hd4, hd4s, hd4c, hc10, hc10s, hc10c, hd10, hd10s, hd10c, hg8o, hz8o] <;> rfl))) | ((with_reducible apply aw_cond_d); (focus (simp only [go_sem, Nat.reduceLT, Nat.reduceAdd, Nat.reduceLeDiff, Nat.reduceMul, Nat.reduceEqDiff, Nat.reduceBEq, reduceIte, encn_len, hc4, hc4s, hc4c, hd4, hd4s, hd4c, hc10, hc10s, hc10c, hd10, hd10s, hd10c, hg8o, hz8o] <;> rfl)); all_goals (intro hcond; try (exfalso; omega))) | ((with_reducible first | apply ae_r | apply ae_n); (focus (simp only [go_sem, Nat.reduceLT, Nat.reduceAdd, Nat.reduceLeDiff, Nat.reduceMul, Nat.reduceEqDiff, Nat.reduceBEq, reduceIte, encn_len, hc4, hc4s, hc4c, hd4, hd4s, hd4c, hc10, hc10s, hc10c, hd10, hd10s, hd10c, hg8o, hz8o] <;> rfl))) | ((with_reducible apply ard_done); (focus rfl)))
  have key : ∃ (q9 : Nat) (H9 : Heap), H8.length + (N9.length + N10.length) = q9 ∧ H8 ++ (N9 ++ (N10 ++ [Blk.row 2 [[aN10, aW10]]])) = H9 ∧ H9.at q0 = .row 2 [[.fsl 7 (encn l), .fsl 5 (encw w')]] ∧ H9.at q5 = .row 2 [[aN4, aW4]] ∧ H9.at q9 = .row 2 [[aN10, aW10]] ∧
      LNS H9 (mkNs l 1) aN4 i4 ∧ LWS H9 (mkWs w' (1 + cntNs l)) aW4 j4 ∧ LNS H9 l aN10 i10 ∧ LWS H9 w' aW10 j10 := by
    refine ⟨_, _, rfl, rfl, hg8o _, hz8o _, ?_, hL48.mono fun b hb => hold8 _ b ?_, hW48.mono fun b hb => hold8 _ b ?_, hL10.mono fun b hb => ?_, hW10.mono fun b hb => ?_⟩
    · rw [Heap.at_app, Heap.at_app, Heap.at_app0]; rfl
    · have := hb45 b (by simp [hb]); omega
    · have := hb45 b (by simp [hb]); omega
    · rw [show H8 ++ (N9 ++ (N10 ++ [Blk.row 2 [[aN10, aW10]]])) = (H8 ++ (N9 ++ N10)) ++ [Blk.row 2 [[aN10, aW10]]] by simp, Heap.at_old _ _ (hb10 b (by simp [hb])).2]
    · rw [show H8 ++ (N9 ++ (N10 ++ [Blk.row 2 [[aN10, aW10]]])) = (H8 ++ (N9 ++ N10)) ++ [Blk.row 2 [[aN10, aW10]]] by simp, Heap.at_old _ _ (hb10 b (by simp [hb])).2]
  obtain ⟨q9, H9, hq9, hH9, hg9, hz9, hy9, hL49, hW49, hL109, hW109⟩ := key
  rw [hq9, hH9]
  clear hq9 hH9 hL48 hW48 hL10 hW10 hg8o hz8o hb10 hold8
  repeat' (first | ((with_reducible first | apply ar_w T_ok | apply ar_w0 T_ok | apply ard_w T_ok | apply ard_w0 T_ok); (focus (simp (disch := omega) only [go_sem, Nat.reduceLT, Nat.reduceAdd, Nat.reduceLeDiff, Nat.reduceMul, Nat.reduceEqDiff, Nat.reduceBEq, reduceIte, encn_len, hc4, hc4s, hc4c, hd4, hd4s, hd4c, hc10, hc10s, hc10c, hd10, hd10s, hd10c, hg9, hz9, hy9, hneg'] <;> rfl)); (focus (first | rfl | (simp [okIdsB, Nat.ble_eq]; done))); (focus rfl); (focus (first | trivial | (simp only [preOK]; omega) | exact ⟨by first | trivial | rfl | omega, by assumption, by omega⟩ | (simp [preOK, AllBytes, encn_len, hc4, hc4s, hc4c, hd4, hd4s, hd4c, hc10, hc10s, hc10c, hd10, hd10s, hd10c, hg9, hz9, hy9, hneg']; first | done | omega))); (focus (simp only [encn_len, hc4, hc4s, hc4c, hd4, hd4s, hd4c, hc10, hc10s, hc10c, hd10, hd10s, hd10c, hg9, hz9, hy9, hneg', Heap.puts, Heap.put_app, Heap.put_app0, Heap.put_len, Heap.put, List.length_append, List.length_cons, List.length_nil, Nat.zero_add, Nat.reduceAdd] <;> rfl))) | ((with_reducible first | apply ar_skip | apply ard_skip); (focus rfl); (focus rfl)) | ((with_reducible first | apply ar_pick | apply ard_pick); (focus (simp only [go_sem, Nat.reduceLT, Nat.reduceAdd, Nat.reduceLeDiff, Nat.reduceMul, Nat.reduceEqDiff, Nat.reduceBEq, reduceIte, encn_len, hc4, hc4s, hc4c, hd4, hd4s, hd4c, hc10, hc10s, hc10c, hd10, hd10s, hd10c, hg9, hz9, hy9, hneg'] <;> rfl)); (focus (simp only [go_sem, Nat.reduceLT, Nat.reduceAdd, Nat.reduceLeDiff, Nat.reduceMul, Nat.reduceEqDiff, Nat.reduceBEq, reduceIte, encn_len, hc4, hc4s, hc4c, hd4, hd4s, hd4c, hc10, hc10s, hc10c, hd10, hd10s, hd10c, hg9, hz9, hy9, hneg'] <;> rfl)); (focus rfl); (focus rfl)) | with_reducible (first | refine aw_reg_d P_mixed ?_ | refine ar_done ?_ | refine aw_seq ?_ | refine aw_reg ?_ | refine aw_block ?_ | refine aw_skip ?_ | refine aw_exit ?_ | refine aw_ret ?_ | refine at_n ?_ | refine at_e ?_ | refine at_r ?_ | refine ab_n ?_ | refine ab_r ?_ | refine ab_e ?_ | refine ab_ne rfl ?_ | refine an_e ?_ | refine an_r ?_ | refine am_e ?_ | refine am_r ?_) | ((with_reducible apply aw_cond_f); (focus (simp only [go_sem, Nat.reduceLT, Nat.reduceAdd, Nat.reduceLeDiff, Nat.reduceMul, Nat.reduceEqDiff, Nat.reduceBEq, reduceIte, encn_len, hc4, hc4s, hc4c, hd4, hd4s, hd4c, hc10, hc10s, hc10c, hd10, hd10s, hd10c, hg9, hz9, hy9, hneg'] <;> rfl))) | ((with_reducible apply aw_cond_t); (focus (simp only [go_sem, Nat.reduceLT, Nat.reduceAdd, Nat.reduceLeDiff, Nat.reduceMul, Nat.reduceEqDiff, Nat.reduceBEq, reduceIte, encn_len, hc4, hc4s, hc4c, hd4, hd4s, hd4c, hc10, hc10s, hc10c, hd10, hd10s, hd10c, hg9, hz9, hy9, hneg'] <;> rfl))) | ((with_reducible apply aw_cond_d); (focus (simp only [go_sem, Nat.reduceLT, Nat.reduceAdd, Nat.reduceLeDiff, Nat.reduceMul, Nat.reduceEqDiff, Nat.reduceBEq, reduceIte, encn_len, hc4, hc4s, hc4c, hd4, hd4s, hd4c, hc10, hc10s, hc10c, hd10, hd10s, hd10c, hg9, hz9, hy9, hneg'] <;> rfl)); all_goals (intro hcond; try (exfalso; omega))) | ((with_reducible first | apply ae_r | apply ae_n); (focus (simp only [go_sem, Nat.reduceLT, Nat.reduceAdd, Nat.reduceLeDiff, Nat.reduceMul, Nat.reduceEqDiff, Nat.reduceBEq, reduceIte, encn_len, hc4, hc4s, hc4c, hd4, hd4s, hd4c, hc10, hc10s, hc10c, hd10, hd10s, hd10c, hg9, hz9, hy9, hneg'] <;> rfl))) | ((with_reducible apply ard_done); (focus rfl)))
  refine ar_lend (S := i10 ++ j10) (args := [.agg [.fsl 7 (encn l), .fsl 5 (encw w')], .agg [.fsl 7 (encn l), .fsl 5 (encw w')]]) rfl ok_10 ⟨bor_agg rfl fun i hi => ?_, bor_frz rfl, trivial⟩ (eqHub_ok l w' hll hf hw') rfl rfl rfl ?_
  · match i, hi with
    | 0, _ => exact hL109.bor fun b hb => by simp [hb]
    | 1, _ => exact hW109.bor fun b hb => by simp [hb]
  repeat' (first | ((with_reducible first | apply ar_w T_ok | apply ar_w0 T_ok | apply ard_w T_ok | apply ard_w0 T_ok); (focus (simp (disch := omega) only [go_sem, Nat.reduceLT, Nat.reduceAdd, Nat.reduceLeDiff, Nat.reduceMul, Nat.reduceEqDiff, Nat.reduceBEq, reduceIte, encn_len, hc4, hc4s, hc4c, hd4, hd4s, hd4c, hc10, hc10s, hc10c, hd10, hd10s, hd10c, hg9, hz9, hy9, hneg'] <;> rfl)); (focus (first | rfl | (simp [okIdsB, Nat.ble_eq]; done))); (focus rfl); (focus (first | trivial | (simp only [preOK]; omega) | exact ⟨by first | trivial | rfl | omega, by assumption, by omega⟩ | (simp [preOK, AllBytes, encn_len, hc4, hc4s, hc4c, hd4, hd4s, hd4c, hc10, hc10s, hc10c, hd10, hd10s, hd10c, hg9, hz9, hy9, hneg']; first | done | omega))); (focus (simp only [encn_len, hc4, hc4s, hc4c, hd4, hd4s, hd4c, hc10, hc10s, hc10c, hd10, hd10s, hd10c, hg9, hz9, hy9, hneg', Heap.puts, Heap.put_app, Heap.put_app0, Heap.put_len, Heap.put, List.length_append, List.length_cons, List.length_nil, Nat.zero_add, Nat.reduceAdd] <;> rfl))) | ((with_reducible first | apply ar_skip | apply ard_skip); (focus rfl); (focus rfl)) | ((with_reducible first | apply ar_pick | apply ard_pick); (focus (simp only [go_sem, Nat.reduceLT, Nat.reduceAdd, Nat.reduceLeDiff, Nat.reduceMul, Nat.reduceEqDiff, Nat.reduceBEq, reduceIte, encn_len, hc4, hc4s, hc4c, hd4, hd4s, hd4c, hc10, hc10s, hc10c, hd10, hd10s, hd10c, hg9, hz9, hy9, hneg'] <;> rfl)); (focus (simp only [go_sem, Nat.reduceLT, Nat.reduceAdd, Nat.reduceLeDiff, Nat.reduceMul, Nat.reduceEqDiff, Nat.reduceBEq, reduceIte, encn_len, hc4, hc4s, hc4c, hd4, hd4s, hd4c, hc10, hc10s, hc10c, hd10, hd10s, hd10c, hg9, hz9, hy9, hneg'] <;> rfl)); (focus rfl); (focus rfl)) | with_reducible (first | refine aw_reg_d P_mixed ?_ | refine ar_done ?_ | refine aw_seq ?_ | refine aw_reg ?_ | refine aw_block ?_ | refine aw_skip ?_ | refine aw_exit ?_ | refine aw_ret ?_ | refine at_n ?_ | refine at_e ?_ | refine at_r ?_ | refine ab_n ?_ | refine ab_r ?_ | refine ab_e ?_ | refine ab_ne rfl ?_ | refine an_e ?_ | refine an_r ?_ | refine am_e ?_ | refine am_r ?_) | ((with_reducible apply aw_cond_f); (focus (simp only [go_sem, Nat.reduceLT, Nat.reduceAdd, Nat.reduceLeDiff, Nat.reduceMul, Nat.reduceEqDiff, Nat.reduceBEq, reduceIte, encn_len, hc4, hc4s, hc4c, hd4, hd4s, hd4c, hc10, hc10s, hc10c, hd10, hd10s, hd10c, hg9, hz9, hy9, hneg'] <;> rfl))) | ((with_reducible apply aw_cond_t); (focus (simp only [go_sem, Nat.reduceLT, Nat.reduceAdd, Nat.reduceLeDiff, Nat.reduceMul, Nat.reduceEqDiff, Nat.reduceBEq, reduceIte, encn_len, hc4, hc4s, hc4c, hd4, hd4s, hd4c, hc10, hc10s, hc10c, hd10, hd10s, hd10c, hg9, hz9, hy9, hneg'] <;> rfl))) | ((with_reducible apply aw_cond_d); (focus (simp only [go_sem, Nat.reduceLT, Nat.reduceAdd, Nat.reduceLeDiff, Nat.reduceMul, Nat.reduceEqDiff, Nat.reduceBEq, reduceIte, encn_len, hc4, hc4s, hc4c, hd4, hd4s, hd4c, hc10, hc10s, hc10c, hd10, hd10s, hd10c, hg9, hz9, hy9, hneg'] <;> rfl)); all_goals (intro hcond; try (exfalso; omega))) | ((with_reducible first | apply ae_r | apply ae_n); (focus (simp only [go_sem, Nat.reduceLT, Nat.reduceAdd, Nat.reduceLeDiff, Nat.reduceMul, Nat.reduceEqDiff, Nat.reduceBEq, reduceIte, encn_len, hc4, hc4s, hc4c, hd4, hd4s, hd4c, hc10, hc10s, hc10c, hd10, hd10s, hd10c, hg9, hz9, hy9, hneg'] <;> rfl))) | ((with_reducible apply ard_done); (focus rfl)))
  refine ar_lend (S := i4 ++ j4) (args := [.agg [.fsl 7 (encn (mkNs l 1)), .fsl 5 (encw (mkWs w' (1 + cntNs l)))], .int .i64 1]) rfl ok_14 ⟨bor_agg rfl fun i hi => ?_, bor_frz rfl, trivial⟩ (heldHub_ok l w' 1 hll hf hw' (Nat.le_refl _) (by omega)) rfl rfl rfl ?_
  · match i, hi with
    | 0, _ => exact hL49.bor fun b hb => by simp [hb]
    | 1, _ => exact hW49.bor fun b hb => by simp [hb]
  repeat' (first | ((with_reducible first | apply ar_w T_ok | apply ar_w0 T_ok | apply ard_w T_ok | apply ard_w0 T_ok); (focus (simp (disch := omega) only [go_sem, Nat.reduceLT, Nat.reduceAdd, Nat.reduceLeDiff, Nat.reduceMul, Nat.reduceEqDiff, Nat.reduceBEq, reduceIte, encn_len, hc4, hc4s, hc4c, hd4, hd4s, hd4c, hc10, hc10s, hc10c, hd10, hd10s, hd10c, hg9, hz9, hy9, hneg'] <;> rfl)); (focus (first | rfl | (simp [okIdsB, Nat.ble_eq]; done))); (focus rfl); (focus (first | trivial | (simp only [preOK]; omega) | exact ⟨by first | trivial | rfl | omega, by assumption, by omega⟩ | (simp [preOK, AllBytes, encn_len, hc4, hc4s, hc4c, hd4, hd4s, hd4c, hc10, hc10s, hc10c, hd10, hd10s, hd10c, hg9, hz9, hy9, hneg']; first | done | omega))); (focus (simp only [encn_len, hc4, hc4s, hc4c, hd4, hd4s, hd4c, hc10, hc10s, hc10c, hd10, hd10s, hd10c, hg9, hz9, hy9, hneg', Heap.puts, Heap.put_app, Heap.put_app0, Heap.put_len, Heap.put, List.length_append, List.length_cons, List.length_nil, Nat.zero_add, Nat.reduceAdd] <;> rfl))) | with_reducible (first | refine aw_reg_d P_mixed ?_ | refine ar_done ?_ | refine aw_seq ?_ | refine aw_reg ?_ | refine aw_block ?_ | refine aw_skip ?_ | refine aw_exit ?_ | refine aw_ret ?_ | refine at_n ?_ | refine at_e ?_ | refine at_r ?_ | refine ab_n ?_ | refine ab_r ?_ | refine ab_e ?_ | refine ab_ne rfl ?_ | refine an_e ?_ | refine an_r ?_ | refine am_e ?_ | refine am_r ?_) | ((with_reducible apply aw_cond_f); (focus (simp only [go_sem, Nat.reduceLT, Nat.reduceAdd, Nat.reduceLeDiff, Nat.reduceMul, Nat.reduceEqDiff, Nat.reduceBEq, reduceIte, encn_len, hc4, hc4s, hc4c, hd4, hd4s, hd4c, hc10, hc10s, hc10c, hd10, hd10s, hd10c, hg9, hz9, hy9, hneg'] <;> rfl))) | ((with_reducible apply aw_cond_t); (focus (simp only [go_sem, Nat.reduceLT, Nat.reduceAdd, Nat.reduceLeDiff, Nat.reduceMul, Nat.reduceEqDiff, Nat.reduceBEq, reduceIte, encn_len, hc4, hc4s, hc4c, hd4, hd4s, hd4c, hc10, hc10s, hc10c, hd10, hd10s, hd10c, hg9, hz9, hy9, hneg'] <;> rfl))) | ((with_reducible apply aw_cond_d); (focus (simp only [go_sem, Nat.reduceLT, Nat.reduceAdd, Nat.reduceLeDiff, Nat.reduceMul, Nat.reduceEqDiff, Nat.reduceBEq, reduceIte, encn_len, hc4, hc4s, hc4c, hd4, hd4s, hd4c, hc10, hc10s, hc10c, hd10, hd10s, hd10c, hg9, hz9, hy9, hneg'] <;> rfl)); all_goals (intro hcond; try (exfalso; omega))) | ((with_reducible first | apply ae_r | apply ae_n); (focus (simp only [go_sem, Nat.reduceLT, Nat.reduceAdd, Nat.reduceLeDiff, Nat.reduceMul, Nat.reduceEqDiff, Nat.reduceBEq, reduceIte, encn_len, hc4, hc4s, hc4c, hd4, hd4s, hd4c, hc10, hc10s, hc10c, hd10, hd10s, hd10c, hg9, hz9, hy9, hneg'] <;> rfl))) | ((with_reducible apply ard_done); (focus rfl)))
  all_goals rfl
end Go.Av
set_option linter.unusedVariables false
set_option linter.unusedSimpArgs false
namespace Go.Av
open Go Go.Proofs.Ytfdafamjgnbecaa
set_option maxRecDepth 10000

theorem build_list {X : Type} (Q : Nat → X → Prop) : ∀ (n : Nat), (∀ i, i < n → ∃ x, Q i x) → ∃ l : List X, l.length = n ∧ ∀ i, i < n → ∃ x, l[i]? = some x ∧ Q i x
  | 0, h => ⟨[], rfl, fun i hi => by omega⟩
  | n + 1, h => by
    obtain ⟨l, h1, h2⟩ := build_list Q n fun i hi => h i (by omega)
    obtain ⟨x, hx⟩ := h n (by omega)
    refine ⟨l ++ [x], by simp [h1], fun i hi => ?_⟩
    rcases Nat.lt_or_ge i n with h3 | h3
    · obtain ⟨y, h4, h5⟩ := h2 i h3
      exact ⟨y, by rw [List.getElem?_append_left (by omega)]; exact h4, h5⟩
    · have : i = n := by omega
      subst this
      exact ⟨x, by rw [List.getElem?_append_right (by omega)]; simp [h1], hx⟩

section
variable {H : Type}
theorem bulk_pos : ∀ d : DataW H, 1 ≤ Rows.uptoBulk d
  | .lit (.string b) => by simp [Rows.uptoBulk]
  | .lit (.bool _) | .lit (.int _ _) | .lit (.float _ _) | .lit .nil => by simp [Rows.uptoBulk]
  | .nil => by simp [Rows.uptoBulk]
  | .ptr d => by simp [Rows.uptoBulk]
  | .slice a b => by simp [Rows.uptoBulk]
  | .agg a => by simp [Rows.uptoBulk]
  | .iface _ d => by simp [Rows.uptoBulk]
  | .map e => by simp [Rows.uptoBulk]
  | .held _ => by simp [Rows.uptoBulk]
theorem bulkAll_len : ∀ ds : List (DataW H), ds.length ≤ Rows.uptoBulkAll ds
  | [] => by simp [Rows.uptoBulkAll]
  | d :: r => by have := bulk_pos d; have := bulkAll_len r; simp only [Rows.uptoBulkAll, List.length_cons]; omega
theorem bulkAll_get : ∀ {ds : List (DataW H)} {i : Nat} {d : DataW H}, ds[i]? = some d → Rows.uptoBulk d ≤ Rows.uptoBulkAll ds
  | [], i, d, h => by simp at h
  | e :: r, 0, d, h => by simp at h; subst h; simp [Rows.uptoBulkAll]
  | e :: r, i + 1, d, h => by have := bulkAll_get (ds := r) (i := i) (by simpa using h); simp only [Rows.uptoBulkAll]; omega

variable {enc : TypeId × Value → H} {w : World} {base : Nat} {sp : Nat → Bool} {held : Bool}

theorem cells_one {K : Nat → Nat} {w : World} {a : AV} {v : Value} (h : FRel K w a v) (h1 : v.oneCell' = true) : Cells K w [a] [v] :=
  ⟨rfl, fun j hj => by
    have : j = 0 := by simp at hj; exact hj
    subst this; exact ⟨h, h1⟩⟩

theorem rd_int {t : TypeId} {D : TyD} (hD : T t = some D) (hk : D.kind = .int .i64) {fuel : Nat} {cs : List Value} {d : DataW H} {p : List MemPlace} (h : DataW.trod enc P w base sp held fuel t cs = some (d, p)) :
    ∃ n : Int, cs = [.int .i64 n] ∧ d = .lit (.int .i64 n) ∧ I64 n := by
  obtain ⟨n, h1, h2, h3, h4⟩ := trodT_int T_ok hD hk h
  exact ⟨n, h1, h2, h3, h4⟩
theorem rd_str {t : TypeId} {D : TyD} (hD : T t = some D) (hk : D.kind = .str) {fuel : Nat} {cs : List Value} {d : DataW H} {p : List MemPlace} (h : DataW.trod enc P w base sp held fuel t cs = some (d, p)) (hb : Rows.uptoBulk d ≤ 1048576) :
    ∃ (s : List UInt8) (b : ByteArray), cs = [.string b] ∧ b.data.toList = s ∧ d = .lit (.string s) ∧ Len s := by
  obtain ⟨b, h1, h2⟩ := trodT_str T_ok hD hk h
  subst h2
  refine ⟨_, b, h1, rfl, rfl, ?_⟩
  simp only [Rows.uptoBulk] at hb
  simp only [Len]; omega

/-- slices of what is read -/
theorem rd_slice {X : Type} (encX : X → List AV) (okX : X → DataW H → Prop) {t e : TypeId} {D De : TyD} (hD : T t = some D) (hk : D.kind = .slice e) (hDe : T e = some De) (hsz : 0 < De.sz) (hX : ∀ x, (encX x).length = De.sz) {fuel : Nat} {cs : List Value} {d : DataW H} {p : List MemPlace}
    (h : DataW.trod enc P w base sp held (fuel + 1) t cs = some (d, p)) (hb : Rows.uptoBulk d ≤ 1048576)
    (hel : ∀ c y q, DataW.trod enc P w base sp held fuel e c = some (y, q) → Rows.uptoBulk y ≤ 1048576 → ∃ x : X, Cells (Kall w) w (encX x) c ∧ okX x y) :
    ∃ (l : List X) (ds : List (DataW H)), Cells (Kall w) w [.fsl De.sz (l.map encX)] cs ∧ Len l ∧ ds.length = l.length ∧ Rows.uptoBulkAll ds + 1 ≤ Rows.uptoBulk d ∧ (∀ (i : Nat) (x : X) (y : DataW H), l[i]? = some x → ds[i]? = some y → okX x y) := by
  rcases trodT_slice T_ok hD hk hDe h with ⟨rfl, rfl⟩ | ⟨a, len, cap, es, rest, rfl, rfl, hle, hlen, hi⟩
  · exact ⟨[], [], cells_one (.fsl0 _ _ _) rfl, by simp, rfl, by simp [Rows.uptoBulkAll, Rows.uptoBulk], fun i x y hx => by simp at hx⟩
  · have hball : Rows.uptoBulkAll (es.map (·.1)) + 1 ≤ 1048576 := by simp only [Rows.uptoBulk] at hb; omega
    obtain ⟨l, hl, hll⟩ := build_list (fun i (x : X) => ∃ c y, w.cells? base (a.add (i * De.sz)) De.sz = some c ∧ es[i]? = some y ∧ Cells (Kall w) w (encX x) c ∧ okX x y.1) len fun i hil => by
      obtain ⟨c, y, h1, h2, h3⟩ := hi i hil
      have := bulkAll_get (ds := es.map (·.1)) (i := i) (d := y.1) (by simp [h2])
      obtain ⟨x, h4, h5⟩ := hel c y.1 y.2 h3 (by omega)
      exact ⟨x, c, y, h1, h2, h4, h5⟩
    have hbl := bulkAll_len (es.map (·.1))
    refine ⟨l, es.map (·.1), cells_one (frel_slice hsz hle (by simpa using hl) fun i hil => ?_) rfl, ?_, by simp [hl, hlen], by simp only [Rows.uptoBulk]; omega, fun i x y hx hy => ?_⟩
    · obtain ⟨x, h1, c, y, h2, h3, h4, h5⟩ := hll i hil
      obtain ⟨h6, h7⟩ := cells_get h2
      refine ⟨c, h7, h6, ?_⟩
      have : (l.map encX).getD i [] = encX x := by simp [List.getD_eq_getElem?_getD, h1]
      rw [this]; exact h4
    · simp only [List.length_map] at hbl
      simp only [Len]; omega
    · have hil : i < len := by rw [← hl]; exact (List.getElem?_eq_some_iff.1 hx).1
      obtain ⟨x', h1, c, y', h2, h3, h4, h5⟩ := hll i hil
      rw [h1] at hx; cases hx
      simp [h3] at hy
      subst hy; exact h5

theorem rd_strs {fuel : Nat} {cs : List Value} {d : DataW H} {p : List MemPlace} (h : DataW.trod enc P w base sp held (fuel + 1) 45 cs = some (d, p)) (hb : Rows.uptoBulk d ≤ 1048576) :
    ∃ ns : List (List UInt8), Cells (Kall w) w [.fsl 1 (strs ns)] cs ∧ Len ns ∧ (∀ s ∈ ns, Len s) ∧ ns.length + 1 ≤ Rows.uptoBulk d := by
  obtain ⟨l, ds, h1, h2, h3, h4, h5⟩ := rd_slice (fun s : List UInt8 => [AV.str s]) (fun s d => Len s) (T_45) rfl (T_9) (by decide) (fun _ => rfl) h hb fun c y q hy hby => by
    obtain ⟨s, b, rfl, rfl, rfl, hs⟩ := rd_str (T_9) rfl hy hby
    exact ⟨_, cells_one (.str _ b rfl) rfl, hs⟩
  have := bulkAll_len ds
  refine ⟨l, h1, h2, fun s hs => ?_, by omega⟩
  obtain ⟨i, hi, rfl⟩ := List.getElem_of_mem hs
  exact h5 i _ (ds[i]'(by omega)) (by simp [hi]) (by simp)
/-! ### values -/
theorem cells_cons {K : Nat → Nat} {w : World} {a : AV} {u : List AV} {cs : List Value} {v : Value} (h : FRel K w a v) (h1 : v.oneCell' = true) (h2 : Cells K w u cs) : Cells K w (a :: u) (v :: cs) :=
  ⟨by simp [h2.1], fun j hj => by
    cases j with
    | zero => exact ⟨h, h1⟩
    | succ j => exact h2.2 j (by simpa using hj)⟩
theorem cells_app {K : Nat → Nat} {w : World} : ∀ {u bs : List AV} {cs ds : List Value}, Cells K w u cs → Cells K w bs ds → Cells K w (u ++ bs) (cs ++ ds)
  | [], bs, [], ds, _, h => h
  | a :: u, bs, c :: cs, ds, h, h2 => cells_cons (h.2 0 (by simp)).1 (h.2 0 (by simp)).2 (cells_app (u := u) (cs := cs) ⟨by have := h.1; simpa using this, fun j hj => h.2 (j + 1) (by simpa using hj)⟩ h2)
  | [], _, _ :: _, _, h, _ => by have := h.1; simp at this
  | _ :: _, _, [], _, h, _ => by have := h.1; simp at this
theorem cells_nil {K : Nat → Nat} {w : World} : Cells K w [] [] := ⟨rfl, fun j hj => by simp at hj⟩
theorem cells_i64 {K : Nat → Nat} {w : World} (n : Int) : Cells K w [.int .i64 n] [.int .i64 n] := cells_one (.int _ _) rfl
theorem cells_text {K : Nat → Nat} {w : World} {s : List UInt8} {b : ByteArray} (h : b.data.toList = s) : Cells K w [.str s] [.string b] := cells_one (.str _ _ h) rfl
theorem take_drop5 {cs : List Value} (h : cs.length = 5) : cs = (cs.drop 0).take 1 ++ ((cs.drop 1).take 1 ++ ((cs.drop 2).take 1 ++ ((cs.drop 3).take 1 ++ (cs.drop 4).take 1))) := by
  match cs, h with
  | [a, b, c, d, e], _ => rfl
theorem take_drop7 {cs : List Value} (h : cs.length = 7) : cs = (cs.drop 0).take 1 ++ ((cs.drop 1).take 1 ++ (cs.drop 2).take 5) := by
  match cs, h with
  | [a, b, c, d, e, f, g], _ => rfl

theorem cntVs_le : ∀ (l : List GV) (ds : List (DataW H)), ds.length = l.length → (∀ (i : Nat) (x : GV) (y : DataW H), l[i]? = some x → ds[i]? = some y → cntV x ≤ Rows.uptoBulk y) → cntVs l ≤ Rows.uptoBulkAll ds
  | [], ds, h, hi => by simp [cntVs]
  | v :: r, [], h, hi => by simp at h
  | v :: r, d :: ds, h, hi => by
    have h1 := hi 0 v d rfl rfl
    have h2 := cntVs_le r ds (by simpa using h) fun i x y hx hy => hi (i + 1) x y (by simpa using hx) (by simpa using hy)
    simp only [cntVs, Rows.uptoBulkAll]; omega
theorem fitss_of : ∀ (l : List GV), (∀ v ∈ l, v.fits) → fitss l
  | [], _ => trivial
  | v :: r, h => ⟨h v (by simp), fitss_of r fun u hu => h u (by simp [hu])⟩

theorem rd_V : ∀ (fuel : Nat) (cs : List Value) (d : DataW H) (p : List MemPlace), DataW.trod enc P w base sp held fuel 61 cs = some (d, p) → Rows.uptoBulk d ≤ 1048576 → ∃ v : GV, Cells (Kall w) w v.enc cs ∧ v.fits ∧ cntV v ≤ Rows.uptoBulk d
  | 0, cs, d, p, h, hb => by simp [DataW.trod] at h
  | 1, cs, d, p, h, hb => by
    obtain ⟨h1, xs, rfl, h2⟩ := trodT_struct T_ok (T_61) rfl h
    have := (mapM_get h2).2 0 _ rfl
    obtain ⟨y, _, hy⟩ := this
    simp [DataW.trod] at hy
  | fuel + 2, cs, d, p, h, hb => by
    obtain ⟨h1, xs, rfl, h2⟩ := trodT_struct T_ok (T_61) rfl h
    obtain ⟨hl, hg⟩ := mapM_get h2
    have c1 : P.cellsOf 3 = 1 := cellsOf_T T_ok (T_3)
    have c2 : P.cellsOf 9 = 1 := cellsOf_T T_ok (T_9)
    have c3 : P.cellsOf 59 = 1 := cellsOf_T T_ok (T_59)
    have c4 : P.cellsOf 45 = 1 := cellsOf_T T_ok (T_45)
    obtain ⟨y0, e0, g0⟩ := hg 0 _ rfl
    obtain ⟨y1, e1, g1⟩ := hg 1 _ rfl
    obtain ⟨y2, e2, g2⟩ := hg 2 _ rfl
    obtain ⟨y3, e3, g3⟩ := hg 3 _ rfl
    obtain ⟨y4, e4, g4⟩ := hg 4 _ rfl
    dsimp only at g0 g1 g2 g3 g4
    rw [c1] at g0 g1; rw [c2] at g2; rw [c3] at g3; rw [c4] at g4
    have hxs : xs = [y0, y1, y2, y3, y4] := by
      match xs, hl, e0, e1, e2, e3, e4 with
      | [a, b, c, d, e], _, e0, e1, e2, e3, e4 => simp at e0 e1 e2 e3 e4; simp [e0, e1, e2, e3, e4]
    subst hxs
    simp only [List.map_cons, List.map_nil, Rows.uptoBulk, Rows.uptoBulkAll] at hb ⊢
    obtain ⟨n0, k0, ka0, kb0⟩ := rd_int (T_3) rfl g0
    obtain ⟨n1, k1, ka1, kb1⟩ := rd_int (T_3) rfl g1
    obtain ⟨s2, b2, k2, ka2, kb2, kc2⟩ := rd_str (T_9) rfl g2 (by omega)
    obtain ⟨ns, k4, ka4, kb4, kc4⟩ := rd_strs g4 (by omega)
    obtain ⟨l, ds, k3, ka3, kb3, kc3, kd3⟩ := rd_slice GV.enc (fun v d => v.fits ∧ cntV v ≤ Rows.uptoBulk d) (T_59) rfl (T_61) (by decide) enc_len g3 (by omega) fun c y q hy hby => by
      obtain ⟨v, h1, h2, h3⟩ := rd_V fuel c y q hy hby
      exact ⟨v, h1, h2, h3⟩
    have hcnt := cntVs_le l ds kb3 fun i x y hx hy => (kd3 i x y hx hy).2
    refine ⟨⟨n0, n1, s2, l, ns⟩, ?_, ⟨kb0, kb1, kc2, ka3, fitss_of l fun v hv => ?_, ka4, kb4⟩, ?_⟩
    · rw [take_drop5 h1, k0, k1, k2]
      simp only [GV.enc, encs_eq]
      exact cells_app (u := [_]) (cells_i64 n0) (cells_app (u := [_]) (cells_i64 n1) (cells_app (u := [_]) (cells_text ka2) (cells_app (u := [_]) k3 k4)))
    · obtain ⟨i, hi, rfl⟩ := List.getElem_of_mem hv
      exact (kd3 i _ (ds[i]'(by omega)) (by simp [hi]) (by simp)).1
    · have p0 := bulk_pos y0.1; have p1 := bulk_pos y1.1; have p2 := bulk_pos y2.1
      simp only [cntV]; omega

theorem rd_N {fuel : Nat} {cs : List Value} {d : DataW H} {p : List MemPlace} (h : DataW.trod enc P w base sp held (fuel + 1) 63 cs = some (d, p)) (hb : Rows.uptoBulk d ≤ 1048576) :
    ∃ v : GN, Cells (Kall w) w v.enc cs ∧ v.fits ∧ cntN v ≤ Rows.uptoBulk d := by
  obtain ⟨h1, xs, rfl, h2⟩ := trodT_struct T_ok (T_63) rfl h
  obtain ⟨hl, hg⟩ := mapM_get h2
  have c1 : P.cellsOf 3 = 1 := cellsOf_T T_ok (T_3)
  have c2 : P.cellsOf 9 = 1 := cellsOf_T T_ok (T_9)
  have c3 : P.cellsOf 61 = 5 := cellsOf_T T_ok (T_61)
  obtain ⟨y0, e0, g0⟩ := hg 0 _ rfl
  obtain ⟨y1, e1, g1⟩ := hg 1 _ rfl
  obtain ⟨y2, e2, g2⟩ := hg 2 _ rfl
  dsimp only at g0 g1 g2
  rw [c1] at g0; rw [c2] at g1; rw [c3] at g2
  have hxs : xs = [y0, y1, y2] := by
    match xs, hl, e0, e1, e2 with
    | [a, b, c], _, e0, e1, e2 => simp at e0 e1 e2; simp [e0, e1, e2]
  subst hxs
  simp only [List.map_cons, List.map_nil, Rows.uptoBulk, Rows.uptoBulkAll] at hb ⊢
  obtain ⟨n0, k0, ka0, kb0⟩ := rd_int (T_3) rfl g0
  obtain ⟨s1, b1, k1, ka1, kb1, kc1⟩ := rd_str (T_9) rfl g1 (by omega)
  obtain ⟨v, k2, ka2, kb2⟩ := rd_V fuel _ _ _ g2 (by omega)
  refine ⟨⟨n0, s1, v⟩, ?_, ⟨kb0, kc1, ka2⟩, ?_⟩
  · rw [take_drop7 h1, k0, k1]
    simp only [GN.enc]
    exact cells_app (u := [_]) (cells_i64 n0) (cells_app (u := [_]) (cells_text ka1) k2)
  · have p0 := bulk_pos y0.1; have p1 := bulk_pos y1.1
    obtain ⟨a, b, c, l, ns⟩ := v
    simp only [cntN, cntV] at kb2 ⊢
    omega

theorem cntNs_le : ∀ (l : List GN) (ds : List (DataW H)), ds.length = l.length → (∀ (i : Nat) (x : GN) (y : DataW H), l[i]? = some x → ds[i]? = some y → cntN x ≤ Rows.uptoBulk y) → cntNs l ≤ Rows.uptoBulkAll ds
  | [], ds, h, hi => by simp [cntNs]
  | v :: r, [], h, hi => by simp at h
  | v :: r, d :: ds, h, hi => by
    have h1 := hi 0 v d rfl rfl
    have h2 := cntNs_le r ds (by simpa using h) fun i x y hx hy => hi (i + 1) x y (by simpa using hx) (by simpa using hy)
    simp only [cntNs, Rows.uptoBulkAll]; omega

theorem rd_NS {t : TypeId} {D : TyD} (hD : T t = some D) (hk : D.kind = .slice 63) {fuel : Nat} {cs : List Value} {d : DataW H} {p : List MemPlace} (h : DataW.trod enc P w base sp held fuel t cs = some (d, p)) (hb : Rows.uptoBulk d ≤ 1048576) :
    ∃ l : List GN, Cells (Kall w) w [.fsl 7 (encn l)] cs ∧ Len l ∧ (∀ v ∈ l, v.fits) ∧ cntNs l + 1 ≤ Rows.uptoBulk d := by
  cases fuel with
  | zero => simp [DataW.trod] at h
  | succ fuel =>
    obtain ⟨l, ds, k3, ka3, kb3, kc3, kd3⟩ := rd_slice GN.enc (fun v d => v.fits ∧ cntN v ≤ Rows.uptoBulk d) hD hk (T_63) (by decide) nenc_len h hb fun c y q hy hby => by
      cases fuel with
      | zero => simp [DataW.trod] at hy
      | succ fuel =>
        obtain ⟨v, h1, h2, h3⟩ := rd_N hy hby
        exact ⟨v, h1, h2, h3⟩
    have hcnt := cntNs_le l ds kb3 fun i x y hx hy => (kd3 i x y hx hy).2
    refine ⟨l, k3, ka3, fun v hv => ?_, by omega⟩
    obtain ⟨i, hi, rfl⟩ := List.getElem_of_mem hv
    exact (kd3 i _ (ds[i]'(by omega)) (by simp [hi]) (by simp)).1
end
end Go.Av
set_option linter.unusedVariables false
set_option linter.unusedSimpArgs false
namespace Go.Av
open Go Go.Proofs.Ytfdafamjgnbecaa
set_option maxRecDepth 10000
section
variable {H : Type} {enc : TypeId × Value → H} {w : World} {base : Nat} {sp : Nat → Bool} {held : Bool}
theorem rd_W {fuel : Nat} {cs : List Value} {d : DataW H} {p : List MemPlace} (h : DataW.trod enc P w base sp held fuel 115 cs = some (d, p)) (hb : Rows.uptoBulk d ≤ 1048576) :
    ∃ v : GW, Cells (Kall w) w v.enc cs ∧ v.fits := by
  cases fuel with
  | zero => simp [DataW.trod] at h
  | succ fuel =>
    obtain ⟨h1, xs, rfl, h2⟩ := trodT_struct T_ok (T_115) rfl h
    obtain ⟨hl, hg⟩ := mapM_get h2
    have c1 : P.cellsOf 3 = 1 := cellsOf_T T_ok (T_3)
    have c2 : P.cellsOf 9 = 1 := cellsOf_T T_ok (T_9)
    obtain ⟨y0, e0, g0⟩ := hg 0 _ rfl
    obtain ⟨y1, e1, g1⟩ := hg 1 _ rfl
    obtain ⟨y2, e2, g2⟩ := hg 2 _ rfl
    obtain ⟨y3, e3, g3⟩ := hg 3 _ rfl
    obtain ⟨y4, e4, g4⟩ := hg 4 _ rfl
    dsimp only at g0 g1 g2 g3 g4
    rw [c1] at g0; rw [c2] at g1 g2 g3 g4
    have hxs : xs = [y0, y1, y2, y3, y4] := by
      match xs, hl, e0, e1, e2, e3, e4 with
      | [a, b, c, d, e], _, e0, e1, e2, e3, e4 => simp at e0 e1 e2 e3 e4; simp [e0, e1, e2, e3, e4]
    subst hxs
    simp only [List.map_cons, List.map_nil, Rows.uptoBulk, Rows.uptoBulkAll] at hb
    obtain ⟨n0, k0, ka0, kb0⟩ := rd_int (T_3) rfl g0
    obtain ⟨s1, b1, k1, ka1, kb1, kc1⟩ := rd_str (T_9) rfl g1 (by omega)
    obtain ⟨s2, b2, k2, ka2, kb2, kc2⟩ := rd_str (T_9) rfl g2 (by omega)
    obtain ⟨s3, b3, k3, ka3, kb3, kc3⟩ := rd_str (T_9) rfl g3 (by omega)
    obtain ⟨s4, b4, k4, ka4, kb4, kc4⟩ := rd_str (T_9) rfl g4 (by omega)
    refine ⟨⟨n0, s1, s2, s3, s4⟩, ?_, kb0, kc1, kc2, kc3, kc4⟩
    rw [take_drop5 h1, k0, k1, k2, k3, k4]
    simp only [GW.enc]
    exact cells_app (u := [_]) (cells_i64 n0) (cells_app (u := [_]) (cells_text ka1) (cells_app (u := [_]) (cells_text ka2) (cells_app (u := [_]) (cells_text ka3) (cells_text ka4))))

theorem rd_WS {t : TypeId} {D : TyD} (hD : T t = some D) (hk : D.kind = .slice 115) {fuel : Nat} {cs : List Value} {d : DataW H} {p : List MemPlace} (h : DataW.trod enc P w base sp held fuel t cs = some (d, p)) (hb : Rows.uptoBulk d ≤ 1048576) :
    ∃ l : List GW, Cells (Kall w) w [.fsl 5 (encw l)] cs ∧ Len l ∧ (∀ v ∈ l, v.fits) ∧ l.length + 1 ≤ Rows.uptoBulk d := by
  cases fuel with
  | zero => simp [DataW.trod] at h
  | succ fuel =>
    obtain ⟨l, ds, k3, ka3, kb3, kc3, kd3⟩ := rd_slice GW.enc (fun v d => v.fits) hD hk (T_115) (by decide) (fun _ => rfl) h (by omega) fun c y q hy hby => rd_W hy hby
    have hcnt := bulkAll_len ds
    refine ⟨l, k3, ka3, fun v hv => ?_, by omega⟩
    obtain ⟨i, hi, rfl⟩ := List.getElem_of_mem hv
    exact kd3 i _ (ds[i]'(by omega)) (by simp [hi]) (by simp)

theorem rd_H {fuel : Nat} {cs : List Value} {d : DataW H} {p : List MemPlace} (h : DataW.trod enc P w base sp held fuel 37 cs = some (d, p)) (hb : Rows.uptoBulk d ≤ 1048576) :
    ∃ (l : List GN) (ws : List GW), Cells (Kall w) w [.fsl 7 (encn l), .fsl 5 (encw ws)] cs ∧ Len l ∧ (∀ v ∈ l, v.fits) ∧ Len ws ∧ (∀ v ∈ ws, v.fits) ∧ cntNs l + ws.length ≤ 1048576 := by
  cases fuel with
  | zero => simp [DataW.trod] at h
  | succ fuel =>
    obtain ⟨h1, xs, rfl, h2⟩ := trodT_struct T_ok (T_37) rfl h
    obtain ⟨hl, hg⟩ := mapM_get h2
    have c1 : P.cellsOf 22 = 1 := cellsOf_T T_ok (T_22)
    have c2 : P.cellsOf 35 = 1 := cellsOf_T T_ok (T_35)
    obtain ⟨y0, e0, g0⟩ := hg 0 _ rfl
    obtain ⟨y1, e1, g1⟩ := hg 1 _ rfl
    dsimp only at g0 g1
    rw [c1] at g0; rw [c2] at g1
    have hxs : xs = [y0, y1] := by
      match xs, hl, e0, e1 with
      | [a, b], _, e0, e1 => simp at e0 e1; simp [e0, e1]
    subst hxs
    simp only [List.map_cons, List.map_nil, Rows.uptoBulk, Rows.uptoBulkAll] at hb
    obtain ⟨l, k0, ka0, kb0, kc0⟩ := rd_NS (T_22) rfl g0 (by omega)
    obtain ⟨ws, k1, ka1, kb1, kc1⟩ := rd_WS (T_35) rfl g1 (by omega)
    refine ⟨l, ws, ?_, ka0, kb0, ka1, kb1, by omega⟩
    have : cs = (cs.drop 0).take 1 ++ (cs.drop 1).take 1 := by
      match cs, h1 with
      | [a, b], _ => rfl
    rw [this]
    exact cells_app (u := [_]) k0 k1
end
end Go.Av
namespace Go.Proofs.Ytfdafamjgnbecaa
open Go Go.Av Go.ChangeShapes Go.WideShapes Go.ChangeAt Go.RowKit
set_option maxRecDepth 100000

theorem row2_own : ownKnob Try.prog.godebug = none := by kernel_rfl
theorem row2_laid : laidOutB Try.prog = true := by kernel_rfl
theorem row2_read : ∀ t ∈ Try.f4.params.toList, Try.prog.readableRec t = true ∧ t < Try.prog.types.size := by
  have h : (Try.f4.params.toList.all fun t => Try.prog.readableRec t && decide (t < Try.prog.types.size)) = true := by kernel_rfl
  intro t ht
  have := List.all_eq_true.1 h t ht
  simpa using this

theorem row2_contract (H : Type) (enc : TypeId × Value → H) (W : World) (args : Array Value) (base : Nat) (ds gs : List (DataW H)) (before : List MemPlace)
    (hval : ∀ (j : Nat) t v, Try.f4.params[j]? = some t → args[j]? = some v → Value.okWide Try.prog W .any base t v)
    (hW : DataW.Whole enc Try.prog Try.f4.params.toList Rows.fnExactHubDropSpec.vars false W args.toList ds gs before) (hk : Rows.uptoSmall H (ds ++ gs) = true) :
    Calls Try.prog 4 args W fun e W' => ∃ v, e = .returned v ∧ Rows.fnExactHubDropSpec.post enc Try.prog Try.f4 false true false false W args v W' := by
  have hW' := hW
  obtain ⟨p, q, hA, hV, rfl, hz, hn⟩ := hW
  obtain ⟨rfl, rfl⟩ := trodVars_none hV
  rw [Try.params4] at hA
  obtain ⟨v0, vs0, d0, ds0, p0, q0, hargs, rfl, rfl, h0, r0⟩ := trodAll_cons hA
  obtain ⟨v1, vs1, d1, ds1, p1, q1, rfl, rfl, rfl, h1, r1⟩ := trodAll_cons r0
  obtain ⟨rfl, rfl, rfl⟩ := trodAll_nil r1
  obtain rfl : args = #[v0, v1] := by cases args; simp_all
  obtain ⟨fuel, h0⟩ := h0
  obtain ⟨fuel1, h1⟩ := h1
  have hb : Rows.uptoBulkAll ([d0, d1] ++ []) ≤ 1048576 := of_decide_eq_true hk
  simp only [List.append_nil, Rows.uptoBulkAll, Nat.add_zero] at hb
  obtain ⟨l, ws, k0, k1, k2, k3, k4, k5⟩ := rd_H h0 (by omega)
  obtain ⟨cs, rfl, hcs⟩ := okWide_struct (P := Try.prog) Try.underlying37 (hval 0 37 v0 rfl rfl)
  obtain ⟨n, rfl⟩ := okWide_int (P := Try.prog) Try.underlying3 (hval 1 3 v1 rfl rfl)
  have hv : FRel (Kall W) W (.agg [.fsl 7 (encn l), .fsl 5 (encw ws)]) (.agg cs) := by
    obtain ⟨e1, e2⟩ := k0
    have e3 : (Value.agg cs).cells.toList = cs.toList := rfl
    rw [e3] at e1 e2
    refine .agg _ _ (by simpa using e1) fun i hi => ?_
    have := (e2 i hi).1
    rw [List.getD_eq_getElem?_getD (l := cs.toList)] at this
    rw [Array.getD_eq_getD_getElem?]
    simpa using this
  refine post_of_pcall (law2_ok l ws n k1 k2 k3 k4 (by omega)) rfl (fun i hi => ?_) row2_laid row2_read (by kernel_rfl) (tb := 4) (by kernel_rfl) rfl rfl hW'
  match i, hi with
  | 0, _ => exact hv
  | 1, _ => exact .int _ _

theorem row2_lifted (os : Os) (started : os.Started) (H : Type) (enc : TypeId × Value → H) (F : Stop.Interp) :
    ReturnsInHanded {} Try.checked os 4 .any ((Rows.OpenSpec.upto Rows.fnExactHubDropSpec).pre6 enc Try.prog Try.f4 Rows.fnExactHubDropUptoRow.domain false) (((Rows.OpenSpec.upto Rows.fnExactHubDropSpec).at F).post enc Try.prog Try.f4 false true false false) := by
  refine returnsInHanded_of_cond (C := Try.checked) (s := Rows.OpenSpec.upto Rows.fnExactHubDropSpec) (k := Rows.uptoSmall) rfl row2_own started (by kernel_rfl) Try.func4
    (OpenSpec.witness (enc := enc) (C := Try.checked) (s := Rows.OpenSpec.upto Rows.fnExactHubDropSpec) (k := Rows.uptoSmall) rfl false ⟨#[], #[.agg #[.slice none 0 0, .slice none 0 0], .int .i64 0], []⟩ 8 (by kernel_rfl) (by kernel_rfl) (by kernel_rfl)
      (x := ([.agg [.nil, .nil], .lit (.int .i64 0)], [], [])) (by kernel_rfl) rfl (by kernel_rfl)) ?_
  intro W base args ds gs before hval hW _ hk _
  exact row2_contract H enc W args base ds gs before hval hW hk

theorem fnExactHubDrop_holds : Rows.FnExactHubDropUptoSaid :=
  OpenClaim.holds_of_cond 4 Try.f4 rfl rfl rfl rfl rfl rfl rfl ⟨rfl, rfl, rfl, rfl, rfl⟩ rfl rfl rfl rfl rfl (by kernel_rfl) Try.func4 (by kernel_rfl)
    (of_decide_eq_true (by kernel_rfl)) (by unfold Func.isWrapper; first | (rw [if_pos (by decide +kernel)]; kernel_rfl) | (rw [if_neg (by decide +kernel)]; exact ⟨rfl, rfl⟩))
    (fun os started H enc _ F => row2_lifted os started H enc F)
#print axioms fnExactHubDrop_holds
end Go.Proofs.Ytfdafamjgnbecaa
