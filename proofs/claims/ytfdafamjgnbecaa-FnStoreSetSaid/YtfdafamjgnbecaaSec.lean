/- The reference's stores: get and set; values that are the same; within bounds of their sizes. -/
import Derived.Test.YtfdafamjgnbecaaSea
import Derived.Test.YtfdafamjgnbecaaSeb
import Derived.Test.YtfdafamjgnbecaaAvd
set_option linter.unusedVariables false
set_option linter.unusedSimpArgs false
set_option linter.unusedVariables false
set_option linter.unusedSimpArgs false
namespace Go.Av
open Go
set_option maxRecDepth 10000

theorem l1Copy_ok (v : GV) (hf : v.fits) (ih : ∀ u : GV, u.size < v.size → u.fits → PCall P 67 [.agg u.enc] (.agg u.enc)) : PCall P 67 [.agg v.enc] (.agg v.enc) := by
  obtain ⟨k, n, t, l, ns⟩ := v
  obtain ⟨f1, f2, f3, f4, f5, f6, f7⟩ := hf
  refine pcall_of_fcall (fcall_walk T_ok ok_67 rfl ?_)
  unfold Go.Proofs.Try.f67
  simp only [Option.getD_some, envOf, Nat.zero_add, Nat.reduceAdd, GV.enc]
  refine aw_seq ?_
  (all_goals (have X1 := @encs_get; have X2 := @encs_len; have X3 := @enc_len; have X4 := @enc_take; have X5 := @enc_frz; have X6 := @enc_all; have X7 := @strs_get; have X8 := @strs_len; (repeat' (first | refine gr ?_ | fail)); all_goals try clear X1 X2 X3 X4 X5 X6 X7 X8))
  refine aw_seq ?_
  (all_goals (have X1 := @encs_get; have X2 := @encs_len; have X3 := @enc_len; have X4 := @enc_take; have X5 := @enc_frz; have X6 := @enc_all; have X7 := @strs_get; have X8 := @strs_len; (repeat' (first | refine gr ?_ | fail)); all_goals try clear X1 X2 X3 X4 X5 X6 X7 X8))
  refine aw_seq_mid (fun env H => env = [(1, .ptr 0 0 0), (2, .ptr 1 0 0), (3, .ptr 2 0 0)] ∧ H = [.row 5 [[.int .i64 k, .int .i64 n, .str t, .fsl 5 (encs l), .fsl 1 (strs ns)]], .row 5 [[.int .i64 0, .int .i64 0, .str [], .nsl 5, .nsl 1]], .row 5 [[.int .i64 k, .int .i64 n, .str t, .fsl 5 (encs l), .nsl 1]]]) ?_ ?_
  · (all_goals (have X1 := @encs_get; have X2 := @encs_len; have X3 := @enc_len; have X4 := @enc_take; have X5 := @enc_frz; have X6 := @enc_all; have X7 := @strs_get; have X8 := @strs_len; (repeat' (first | refine gx ?_ | (refine gd ?_ ?_ <;> (intro hcond; try (exfalso; omega))) | fail)); all_goals try clear X1 X2 X3 X4 X5 X6 X7 X8))
    refine aw_loopc (fun kk env H => ∃ i : Nat, i ≤ l.length ∧ kk = l.length - i ∧ env = [(1, .ptr 0 0 0), (2, .ptr 1 0 0), (3, .ptr 2 0 0), (4, .int .i64 i)] ∧
        ((i = 0 ∧ H = [.row 5 [[.int .i64 k, .int .i64 n, .str t, .fsl 5 (encs l), .fsl 1 (strs ns)]], .row 5 [[.int .i64 0, .int .i64 0, .str [], .nsl 5, .nsl 1]], .row 5 [[.int .i64 k, .int .i64 n, .str t, .nsl 5, .nsl 1]]]) ∨
         (0 < i ∧ H = [.row 5 [[.int .i64 k, .int .i64 n, .str t, .fsl 5 (encs l), .fsl 1 (strs ns)]], .row 5 [[.int .i64 0, .int .i64 0, .str [], .nsl 5, .nsl 1]], .row 5 [[.int .i64 k, .int .i64 n, .str t, .asl 4 i 5 (encs (l.take i)), .nsl 1]], .dead, .tok i]))) l.length
      [(1, .ptr 0 0 0), (2, .ptr 1 0 0), (3, .ptr 2 0 0), (4, .int .i64 0)] _ sb rfl (heapW_refl _) rfl rfl ⟨0, Nat.zero_le _, rfl, rfl, .inl ⟨rfl, rfl⟩⟩ ?_
    rintro kk env H ⟨i, hi, hk, rfl, hH⟩
    by_cases hlt : i < l.length
    · have hmem := mem_getD (d := default) hlt
      have hff := fitss_mem f5 _ hmem
      have hsz := sizes_mem hmem
      have htake := encs_take hlt
      rcases hH with ⟨rfl, rfl⟩ | ⟨hpos, rfl⟩
      · (all_goals (have X1 := @encs_get; have X2 := @encs_len; have X3 := @enc_len; have X4 := @enc_take; have X5 := @enc_frz; have X6 := @enc_all; have X7 := @strs_get; have X8 := @strs_len; (repeat' (first | refine gx ?_ | (refine gd ?_ ?_ <;> (intro hcond; try (exfalso; omega))) | fail)); all_goals try clear X1 X2 X3 X4 X5 X6 X7 X8))
        (have X1 := @encs_get; have X2 := @encs_len; have X3 := @enc_len; have X4 := @enc_take; have X5 := @enc_frz; have X6 := @enc_all; have X7 := @strs_get; have X8 := @strs_len; ((apply ard_call rfl ok_67); (focus exact eva); (focus exact ih _ (by simp only [GV.size]; omega) hff); (focus rfl); (focus rfl)); all_goals try clear X1 X2 X3 X4 X5 X6 X7 X8)
        (all_goals (have X1 := @encs_get; have X2 := @encs_len; have X3 := @enc_len; have X4 := @enc_take; have X5 := @enc_frz; have X6 := @enc_all; have X7 := @strs_get; have X8 := @strs_len; (repeat' (first | refine gx ?_ | (refine gd ?_ ?_ <;> (intro hcond; try (exfalso; omega))) | fail)); all_goals try clear X1 X2 X3 X4 X5 X6 X7 X8))
        refine anextm 5 _ _ (k' := l.length - 1) (by omega) (by simp) ?_ ?_ ?_ ?_ ?_ ⟨1, by omega, rfl, rfl, .inr ⟨by omega, rfl⟩⟩
        · simp [subP, Env.get, Weak.refl]
        · rfl
        · rw [show encs (l.take 1) = [(l.getD 0 default).enc] from by simpa [encs] using htake]
          exact ⟨.refl _, .refl _, .refl _, .dead _, .refl _, trivial⟩
        · rfl
        · rfl
      · (all_goals (have X1 := @encs_get; have X2 := @encs_len; have X3 := @enc_len; have X4 := @enc_take; have X5 := @enc_frz; have X6 := @enc_all; have X7 := @strs_get; have X8 := @strs_len; (repeat' (first | refine gx ?_ | (refine gd ?_ ?_ <;> (intro hcond; try (exfalso; omega))) | fail)); all_goals try clear X1 X2 X3 X4 X5 X6 X7 X8))
        (have X1 := @encs_get; have X2 := @encs_len; have X3 := @enc_len; have X4 := @enc_take; have X5 := @enc_frz; have X6 := @enc_all; have X7 := @strs_get; have X8 := @strs_len; ((apply ard_call rfl ok_67); (focus exact eva); (focus exact ih _ (by simp only [GV.size]; omega) hff); (focus rfl); (focus rfl)); all_goals try clear X1 X2 X3 X4 X5 X6 X7 X8)
        (all_goals (have X1 := @encs_get; have X2 := @encs_len; have X3 := @enc_len; have X4 := @enc_take; have X5 := @enc_frz; have X6 := @enc_all; have X7 := @strs_get; have X8 := @strs_len; (repeat' (first | refine gx ?_ | (refine gd ?_ ?_ <;> (intro hcond; try (exfalso; omega))) | fail)); all_goals try clear X1 X2 X3 X4 X5 X6 X7 X8))
        refine anextm 5 _ _ (k' := l.length - (i + 1)) (by omega) (by simp) ?_ ?_ ?_ ?_ ?_ ⟨i + 1, by omega, rfl, rfl, .inr ⟨by omega, rfl⟩⟩
        · simp [subP, Env.get, Weak.refl]
        · rfl
        · rw [htake]
          exact ⟨.refl _, .refl _, .refl _, .dead _, .refl _, trivial⟩
        · rfl
        · rfl
    · have : i = l.length := by omega
      subst this
      rcases hH with ⟨h0, rfl⟩ | ⟨hpos, rfl⟩
      · (all_goals (have X1 := @encs_get; have X2 := @encs_len; have X3 := @enc_len; have X4 := @enc_take; have X5 := @enc_frz; have X6 := @enc_all; have X7 := @strs_get; have X8 := @strs_len; (repeat' (first | refine gx ?_ | (refine gd ?_ ?_ <;> (intro hcond; try (exfalso; omega))) | fail)); all_goals try clear X1 X2 X3 X4 X5 X6 X7 X8))
        have hl : l = [] := List.eq_nil_of_length_eq_zero h0
        subst hl
        refine amid 3 _ _ (by simp) ?_ ?_ ?_ ?_ ?_ ⟨rfl, rfl⟩
        · simp [subP, Env.get, Weak.refl]
        · rfl
        · exact ⟨.refl _, .refl _, .one rfl ⟨.refl _, .refl _, .refl _, .frz _ _ rfl, .refl _, trivial⟩, trivial⟩
        · rfl
        · rfl
      · (all_goals (have X1 := @encs_get; have X2 := @encs_len; have X3 := @enc_len; have X4 := @enc_take; have X5 := @enc_frz; have X6 := @enc_all; have X7 := @strs_get; have X8 := @strs_len; (repeat' (first | refine gx ?_ | (refine gd ?_ ?_ <;> (intro hcond; try (exfalso; omega))) | fail)); all_goals try clear X1 X2 X3 X4 X5 X6 X7 X8))
        simp only [List.take_length]
        refine amid 3 _ _ (by simp) ?_ ?_ ?_ ?_ ?_ ⟨rfl, rfl⟩
        · simp [subP, Env.get, Weak.refl]
        · rfl
        · exact ⟨.refl _, .refl _, .one rfl ⟨.refl _, .refl _, .refl _, .frz _ _ rfl, .refl _, trivial⟩, trivial⟩
        · rfl
        · rfl
  · rintro _ _ ⟨rfl, rfl⟩
    refine aw_seq_mid (fun env H => env = [(1, .ptr 0 0 0), (2, .ptr 1 0 0), (3, .ptr 2 0 0)] ∧ H = [.row 5 [[.int .i64 k, .int .i64 n, .str t, .fsl 5 (encs l), .fsl 1 (strs ns)]], .row 5 [[.int .i64 0, .int .i64 0, .str [], .nsl 5, .nsl 1]], .row 5 [[.int .i64 k, .int .i64 n, .str t, .fsl 5 (encs l), .fsl 1 (strs ns)]]]) ?_ ?_
    · (all_goals (have X1 := @encs_get; have X2 := @encs_len; have X3 := @enc_len; have X4 := @enc_take; have X5 := @enc_frz; have X6 := @enc_all; have X7 := @strs_get; have X8 := @strs_len; (repeat' (first | refine gx ?_ | (refine gd ?_ ?_ <;> (intro hcond; try (exfalso; omega))) | fail)); all_goals try clear X1 X2 X3 X4 X5 X6 X7 X8))
      refine aw_loopc (fun kk env H => ∃ i : Nat, i ≤ ns.length ∧ kk = ns.length - i ∧ env = [(1, .ptr 0 0 0), (2, .ptr 1 0 0), (3, .ptr 2 0 0), (5, .int .i64 i)] ∧
        ((i = 0 ∧ H = [.row 5 [[.int .i64 k, .int .i64 n, .str t, .fsl 5 (encs l), .fsl 1 (strs ns)]], .row 5 [[.int .i64 0, .int .i64 0, .str [], .nsl 5, .nsl 1]], .row 5 [[.int .i64 k, .int .i64 n, .str t, .fsl 5 (encs l), .nsl 1]]]) ∨
         (0 < i ∧ H = [.row 5 [[.int .i64 k, .int .i64 n, .str t, .fsl 5 (encs l), .fsl 1 (strs ns)]], .row 5 [[.int .i64 0, .int .i64 0, .str [], .nsl 5, .nsl 1]], .row 5 [[.int .i64 k, .int .i64 n, .str t, .fsl 5 (encs l), .asl 4 i 1 (strs (ns.take i))]], .dead, .tok i]))) ns.length
        [(1, .ptr 0 0 0), (2, .ptr 1 0 0), (3, .ptr 2 0 0), (5, .int .i64 0)] _ sb rfl (heapW_refl _) rfl rfl ⟨0, Nat.zero_le _, rfl, rfl, .inl ⟨rfl, rfl⟩⟩ ?_
      rintro kk env H ⟨i, hi, hk, rfl, hH⟩
      by_cases hlt : i < ns.length
      · have htake := strs_take hlt
        rcases hH with ⟨rfl, rfl⟩ | ⟨hpos, rfl⟩
        · (all_goals (have X1 := @encs_get; have X2 := @encs_len; have X3 := @enc_len; have X4 := @enc_take; have X5 := @enc_frz; have X6 := @enc_all; have X7 := @strs_get; have X8 := @strs_len; (repeat' (first | refine gx ?_ | (refine gd ?_ ?_ <;> (intro hcond; try (exfalso; omega))) | fail)); all_goals try clear X1 X2 X3 X4 X5 X6 X7 X8))
          refine anextm 5 _ _ (k' := ns.length - 1) (by omega) (by simp) ?_ ?_ ?_ ?_ ?_ ⟨1, by omega, rfl, rfl, .inr ⟨by omega, rfl⟩⟩
          · simp [subP, Env.get, Weak.refl]
          · rfl
          · rw [show strs (ns.take 1) = [[.str (ns.getD 0 [])]] from by simpa [strs] using htake]
            exact ⟨.refl _, .refl _, .refl _, .dead _, .refl _, trivial⟩
          · rfl
          · rfl
        · (all_goals (have X1 := @encs_get; have X2 := @encs_len; have X3 := @enc_len; have X4 := @enc_take; have X5 := @enc_frz; have X6 := @enc_all; have X7 := @strs_get; have X8 := @strs_len; (repeat' (first | refine gx ?_ | (refine gd ?_ ?_ <;> (intro hcond; try (exfalso; omega))) | fail)); all_goals try clear X1 X2 X3 X4 X5 X6 X7 X8))
          refine anextm 5 _ _ (k' := ns.length - (i + 1)) (by omega) (by simp) ?_ ?_ ?_ ?_ ?_ ⟨i + 1, by omega, rfl, rfl, .inr ⟨by omega, rfl⟩⟩
          · simp [subP, Env.get, Weak.refl]
          · rfl
          · rw [htake]
            exact ⟨.refl _, .refl _, .refl _, .dead _, .refl _, trivial⟩
          · rfl
          · rfl
      · have : i = ns.length := by omega
        subst this
        rcases hH with ⟨h0, rfl⟩ | ⟨hpos, rfl⟩
        · (all_goals (have X1 := @encs_get; have X2 := @encs_len; have X3 := @enc_len; have X4 := @enc_take; have X5 := @enc_frz; have X6 := @enc_all; have X7 := @strs_get; have X8 := @strs_len; (repeat' (first | refine gx ?_ | (refine gd ?_ ?_ <;> (intro hcond; try (exfalso; omega))) | fail)); all_goals try clear X1 X2 X3 X4 X5 X6 X7 X8))
          have hl : ns = [] := List.eq_nil_of_length_eq_zero h0
          subst hl
          refine amid 3 _ _ (by simp) ?_ ?_ ?_ ?_ ?_ ⟨rfl, rfl⟩
          · simp [subP, Env.get, Weak.refl]
          · rfl
          · exact ⟨.refl _, .refl _, .one rfl ⟨.refl _, .refl _, .refl _, .refl _, .frz _ _ rfl, trivial⟩, trivial⟩
          · rfl
          · rfl
        · (all_goals (have X1 := @encs_get; have X2 := @encs_len; have X3 := @enc_len; have X4 := @enc_take; have X5 := @enc_frz; have X6 := @enc_all; have X7 := @strs_get; have X8 := @strs_len; (repeat' (first | refine gx ?_ | (refine gd ?_ ?_ <;> (intro hcond; try (exfalso; omega))) | fail)); all_goals try clear X1 X2 X3 X4 X5 X6 X7 X8))
          simp only [List.take_length]
          refine amid 3 _ _ (by simp) ?_ ?_ ?_ ?_ ?_ ⟨rfl, rfl⟩
          · simp [subP, Env.get, Weak.refl]
          · rfl
          · exact ⟨.refl _, .refl _, .one rfl ⟨.refl _, .refl _, .refl _, .refl _, .frz _ _ rfl, trivial⟩, trivial⟩
          · rfl
          · rfl
    · rintro _ _ ⟨rfl, rfl⟩
      (all_goals (have X1 := @encs_get; have X2 := @encs_len; have X3 := @enc_len; have X4 := @enc_take; have X5 := @enc_frz; have X6 := @enc_all; have X7 := @strs_get; have X8 := @strs_len; (repeat' (first | refine gx ?_ | (refine gd ?_ ?_ <;> (intro hcond; try (exfalso; omega))) | fail)); all_goals try clear X1 X2 X3 X4 X5 X6 X7 X8))
      rfl

theorem l1Copy_all : ∀ (N : Nat) (v : GV), v.size < N → v.fits → PCall P 67 [.agg v.enc] (.agg v.enc)
  | 0, v, h, _ => by omega
  | N + 1, v, h, hf => l1Copy_ok v hf fun u hu hf' => l1Copy_all N u (by omega) hf'
end Go.Av
set_option linter.unusedVariables false
set_option linter.unusedSimpArgs false
namespace Go.Av
open Go
set_option maxRecDepth 10000
set_option maxHeartbeats 1000000
theorem LiveH.toL {H N : Heap} {sz : Nat} {es : List (List AV)} {a : AV} {n : Nat} (h : LiveH n (H ++ N) sz es a) (hn : H.length ≤ n) : LiveL H.length N sz es a := by
  rcases h with h | ⟨h1, i, cap, h2, h3, h4⟩
  · exact .inl h
  · have hi : i = H.length + (i - H.length) := by omega
    rw [hi, Heap.at_app] at h3
    refine .inr ⟨h1, i - H.length, cap, at_lt (by rw [h3]; simp), ?_, h3⟩
    rw [← hi]; exact h2
theorem LiveH.mono2 {n : Nat} {H H' : Heap} {sz : Nat} {es : List (List AV)} {a : AV} (h : LiveH n H sz es a) (hh : ∀ c, n ≤ c → H.at c = .row sz es → H'.at c = .row sz es) : LiveH n H' sz es a := by
  rcases h with h | ⟨h1, i, cap, h2, h3, h4⟩
  · exact .inl h
  · exact .inr ⟨h1, i, cap, h2, hh i h4 h3, h4⟩
abbrev D5 : TyD := ⟨5, 80, true, [.int .i64 0, .int .i64 0, .str [], .nsl 5, .nsl 1], .struct [(0, 3), (1, 3), (2, 9), (3, 44), (4, 45)]⟩
abbrev D44 : TyD := ⟨1, 24, false, [.nsl 5], .slice 47⟩
abbrev D45 : TyD := ⟨1, 24, false, [.nsl 1], .slice 9⟩
abbrev D9 : TyD := ⟨1, 16, false, [.str []], .str⟩
theorem l1CopyL_ok (v : GV) (hf : v.fits) (H : Heap) : FCall P 67 [.agg v.enc] H fun r H' => ∃ Bs, H' = H ++ Bs ∧ LTB H.length v Bs r := by
  refine FCall.kill (R := fun r H' => ∃ N aL aN, H' = H ++ N ∧ r = .agg [.int .i64 v.k, .int .i64 v.n, .str v.t, aL, aN] ∧ LiveL H.length N 5 (encs v.l) aL ∧ LiveL H.length N 1 (strs v.ns) aN) ?_ ?_
  rotate_left
  · rintro r _ ⟨N, aL, aN, rfl, rfl, h1, h2⟩
    obtain ⟨Bs, h3, h4, h5⟩ := ltb_of h1 h2
    exact ⟨H ++ Bs, by simp [h3], h4, Bs, rfl, h5⟩
  obtain ⟨k, x, t, l, ns⟩ := v
  obtain ⟨f1, f2, f3, f4, f5, f6, f7⟩ := hf
  refine fcall_walk T_ok ok_67 rfl ?_
  unfold Go.Proofs.Try.f67
  simp only [Option.getD_some, envOf, Nat.zero_add, Nat.reduceAdd, GV.enc]
  (all_goals (have X1 := @encs_len; (repeat' (first | refine gx ?_ | (refine gd ?_ ?_ <;> (intro hcond; try (exfalso; omega))) | fail)); all_goals try clear X1))
  refine aw_loopn (fun kk env H1 => ∃ (i : Nat) (aL : AV), i ≤ l.length ∧ kk = l.length - i ∧ env = [(1, .ptr H.length 0 0), (2, .ptr (H.length + 1) 0 0), (3, .ptr (H.length + 2) 0 0), (4, .int .i64 i)] ∧ H.length + 3 ≤ H1.length ∧
      H1.at H.length = .row 5 [[.int .i64 k, .int .i64 x, .str t, .fsl 5 (encs l), .fsl 1 (strs ns)]] ∧ H1.at (H.length + 1) = .row 5 [zvAV] ∧ H1.at (H.length + 2) = .row 5 [[.int .i64 k, .int .i64 x, .str t, aL, .nsl 1]] ∧ LiveH (H.length + 3) H1 5 (encs (l.take i)) aL ∧ ∃ N, H1 = H ++ N) l.length
    [(1, .ptr H.length 0 0), (2, .ptr (H.length + 1) 0 0), (3, .ptr (H.length + 2) 0 0), (4, .int .i64 0)] _ sb (heapW_refl _) rfl ⟨0, .nsl 5, Nat.zero_le _, rfl, rfl, by simp, Heap.at_app _ _ 0, Heap.at_app _ _ 1, Heap.at_app _ _ 2, .inl ⟨rfl, rfl⟩, _, rfl⟩ ?_
  rintro kk env H1 ⟨i, aL, hi, rfl, rfl, hle, g0, g1, g2, hL, N, hN⟩
  have hcL : aL.isCell = true := by rcases hL with ⟨_, rfl⟩ | ⟨_, c, cap, rfl, _, _⟩ <;> rfl
  have hsL := solid_of_cell hcL
  have hclL := cells_of_cell hcL
  by_cases hlt : i < l.length
  · obtain ⟨u, hu⟩ : ∃ u, l.getD i default = u := ⟨_, rfl⟩
    have huf := fitss_mem f5 u (hu ▸ mem_getD hlt)
    have hge : (encs l).getD i [] = u.enc := by rw [encs_get hlt, hu]
    have htk : encs (l.take (i + 1)) = encs (l.take i) ++ [u.enc] := by rw [encs_take hlt, hu]
    have htl : (encs (l.take i)).length = i := by rw [encs_len]; simp; omega
    obtain ⟨uk, un, ut, ul, uns⟩ := u
    (all_goals (have X1 := @encs_len; have X2 := @g0; have X3 := @g2; have X4 := @hge; have X5 := @GV.enc.eq_1; have X6 := @hcL; have X7 := @hsL; have X8 := @hclL; (repeat' (first | refine gx ?_ | (refine gd ?_ ?_ <;> (intro hcond; try (exfalso; omega))) | fail)); all_goals try clear X1 X2 X3 X4 X5 X6 X7 X8))
    (have X1 := @encs_len; have X2 := @g0; have X3 := @g2; have X4 := @hge; have X5 := @GV.enc.eq_1; have X6 := @hcL; have X7 := @hsL; have X8 := @hclL; ((apply ard_call rfl ok_67); (focus exact eva); (focus exact l1Copy_all _ ⟨uk, un, ut, ul, uns⟩ (Nat.lt_succ_self _) huf); (focus rfl); (focus rfl)); all_goals try clear X1 X2 X3 X4 X5 X6 X7 X8)
    (have X1 := @encs_len; have X2 := @g0; have X3 := @g2; have X4 := @hge; have X5 := @GV.enc.eq_1; have X6 := @hcL; have X7 := @hsL; have X8 := @hclL; (refine ga ?_); all_goals try clear X1 X2 X3 X4 X5 X6 X7 X8)
    have henv : ∀ (M : Heap) (aL' : AV), H1.length ≤ M.length → (∀ q, q < H.length + 2 → M.at q = H1.at q) → M.at (H.length + 2) = .row 5 [[.int .i64 k, .int .i64 x, .str t, aL', .nsl 1]] → LiveH (H.length + 3) M 5 (encs (l.take (i + 1))) aL' → (∃ N, M = H ++ N) →
        ∃ (i' : Nat) (aL : AV), i' ≤ l.length ∧ l.length - (i + 1) = l.length - i' ∧ [(1, AV.ptr H.length 0 0), (2, .ptr (H.length + 1) 0 0), (3, .ptr (H.length + 2) 0 0), (4, .int .i64 ((i + 1 : Nat) : Int))] = [(1, .ptr H.length 0 0), (2, .ptr (H.length + 1) 0 0), (3, .ptr (H.length + 2) 0 0), (4, .int .i64 (i' : Int))] ∧ H.length + 3 ≤ M.length ∧
      M.at H.length = .row 5 [[.int .i64 k, .int .i64 x, .str t, .fsl 5 (encs l), .fsl 1 (strs ns)]] ∧ M.at (H.length + 1) = .row 5 [zvAV] ∧ M.at (H.length + 2) = .row 5 [[.int .i64 k, .int .i64 x, .str t, aL, .nsl 1]] ∧ LiveH (H.length + 3) M 5 (encs (l.take i')) aL ∧ ∃ N, M = H ++ N := fun M aL' h1 h2 h3 h4 h5 =>
      ⟨i + 1, aL', by omega, rfl, rfl, by omega, (h2 _ (by omega)).trans g0, (h2 _ (by omega)).trans g1, h3, h4, h5⟩
    rcases hL with ⟨hn, rfl⟩ | ⟨hne, c, cap, rfl, hc, hcn⟩
    · have hi0 : i = 0 := by rw [← htl, hn]; rfl
      rw [hn] at htk
      refine ard_sem (v := .row (H1.length + 1) 0 1 none 5) (wr := [(H1.length + 1, .row 5 [[.int .i64 uk, .int .i64 un, .str ut, .fsl 5 (encs ul), .fsl 1 (strs uns)]])]) (log := []) (H' := H1 ++ [.tok 1, .row 5 [[.int .i64 uk, .int .i64 un, .str ut, .fsl 5 (encs ul), .fsl 1 (strs uns)]]]) (sem_app_new T_ok (n := H1.length + 1) (d := D44) (de := D5) (s1 := 0) (s2 := 0) rfl rfl rfl rfl rfl rfl rfl rfl rfl rfl rfl (by simp) (by simp) (by simp) (by simp)) (by simp [okIdsB, Nat.ble_eq]) rfl (puts_new _ _) ?_
      have w1 := fun q (hq : q < H1.length) => Heap.at_old H1 [Blk.tok 1, Blk.row 5 [[.int .i64 uk, .int .i64 un, .str ut, .fsl 5 (encs ul), .fsl 1 (strs uns)]]] hq
      have w2 : Heap.at (H1 ++ [Blk.tok 1, Blk.row 5 [[.int .i64 uk, .int .i64 un, .str ut, .fsl 5 (encs ul), .fsl 1 (strs uns)]]]) (H1.length + 1) = .row 5 [[.int .i64 uk, .int .i64 un, .str ut, .fsl 5 (encs ul), .fsl 1 (strs uns)]] := Heap.at_app _ _ 1
      have w3 : (H1 ++ [Blk.tok 1, Blk.row 5 [[.int .i64 uk, .int .i64 un, .str ut, .fsl 5 (encs ul), .fsl 1 (strs uns)]]]).length = H1.length + 2 := by simp
      have w4 : ∃ N', (H1 ++ [Blk.tok 1, Blk.row 5 [[.int .i64 uk, .int .i64 un, .str ut, .fsl 5 (encs ul), .fsl 1 (strs uns)]]]) = H ++ N' := ⟨_, by rw [hN, List.append_assoc]⟩
      generalize (H1 ++ [Blk.tok 1, Blk.row 5 [[.int .i64 uk, .int .i64 un, .str ut, .fsl 5 (encs ul), .fsl 1 (strs uns)]]]) = M at *
      obtain ⟨N', hN'⟩ := w4
      have y2 := (w1 (H.length + 2) (by omega)).trans g2
      (all_goals (have X1 := @encs_len; have X2 := @y2; (repeat' (first | refine gx ?_ | (refine gd ?_ ?_ <;> (intro hcond; try (exfalso; omega))) | fail)); all_goals try clear X1 X2))
      refine ard_done_of [(0, 2), (0, 3), (0, 4), (0, 5), (0, 6), (0, 7), (0, 8), (1, 2), (1, 3), (1, 4), (1, 5), (1, 6), (1, 7), (1, 8), (2, 4), (3, 4)] rfl rfl rfl rfl ?_ ?_
      · refine ep ?_; try exact trivial
        repeat' apply And.intro
        all_goals first | (simp; done) | (simp; omega) | skip
      (all_goals (have X1 := @encs_len; have X2 := @y2; (repeat' (first | refine gx ?_ | (refine gd ?_ ?_ <;> (intro hcond; try (exfalso; omega))) | fail)); all_goals try clear X1 X2))
      have z1 := fun x => Heap.put_length M (H.length + 2) x (by omega)
      refine anextn [(1, .ptr H.length 0 0), (2, .ptr (H.length + 1) 0 0), (3, .ptr (H.length + 2) 0 0), (4, .int .i64 ((i + 1 : Nat) : Int))] _ (k' := l.length - (i + 1)) (by omega) (by rw [z1]; omega) sb (heapW_refl _) rfl
        (henv _ (.row (H1.length + 1) 0 1 none 5) (by rw [z1]; omega) (fun q hq => (Heap.at_put_ne _ _ _ _ (by omega)).trans (w1 q (by omega))) (Heap.at_put_same _ _ _) (.inr ⟨?_, H1.length + 1, none, ?_, ?_, by omega⟩) ⟨_, by rw [hN', Heap.put_app]⟩)
      · rw [htk]; simp
      · rw [htk]; simp [htl]
      · rw [htk, Heap.at_put_ne _ _ _ _ (by omega), w2]; rfl
    · have hcl : c < H1.length := at_lt (by rw [hc]; simp)
      rw [htl]
      refine ard_sem (v := .row (H1.length + 1) 0 (i + 1) none 5) (wr := [(c, .dead), (H1.length + 1, .row 5 (encs (l.take i) ++ [[.int .i64 uk, .int .i64 un, .str ut, .fsl 5 (encs ul), .fsl 1 (strs uns)]]))]) (log := [c]) (H' := H1.put c .dead ++ [Blk.tok 1, Blk.row 5 (encs (l.take i) ++ [[.int .i64 uk, .int .i64 un, .str ut, .fsl 5 (encs ul), .fsl 1 (strs uns)]])]) (sem_app_move T_ok (n := H1.length + 1) (d := D44) (de := D5) (s1 := 0) (s2 := 0) (b := c) (len := i) (es := encs (l.take i)) rfl rfl rfl rfl rfl rfl rfl rfl ((Heap.at_old _ _ hcl).trans hc) htl rfl rfl rfl (by simp) (by simp) (by simp [Len] at f4 ⊢; omega) (by omega) (by simp)) (by simp [okIdsB, Nat.ble_eq]) rfl (puts_move hcl _ _) ?_
      have w1 := fun q (hq : q < H1.length) (hqc : q ≠ c) => (Heap.at_old (H1.put c .dead) [Blk.tok 1, Blk.row 5 (encs (l.take i) ++ [[.int .i64 uk, .int .i64 un, .str ut, .fsl 5 (encs ul), .fsl 1 (strs uns)]])] (by rw [Heap.put_length _ _ _ hcl]; exact hq)).trans (Heap.at_put_ne H1 c q .dead hqc)
      have w2 : Heap.at (H1.put c .dead ++ [Blk.tok 1, Blk.row 5 (encs (l.take i) ++ [[.int .i64 uk, .int .i64 un, .str ut, .fsl 5 (encs ul), .fsl 1 (strs uns)]])]) (H1.length + 1) = .row 5 (encs (l.take i) ++ [[.int .i64 uk, .int .i64 un, .str ut, .fsl 5 (encs ul), .fsl 1 (strs uns)]]) := Heap.at_putB hcl _ _ 1
      have w3 : (H1.put c .dead ++ [Blk.tok 1, Blk.row 5 (encs (l.take i) ++ [[.int .i64 uk, .int .i64 un, .str ut, .fsl 5 (encs ul), .fsl 1 (strs uns)]])]).length = H1.length + 2 := by rw [List.length_append, Heap.put_length _ _ _ hcl]; rfl
      have w4 : ∃ N', (H1.put c .dead ++ [Blk.tok 1, Blk.row 5 (encs (l.take i) ++ [[.int .i64 uk, .int .i64 un, .str ut, .fsl 5 (encs ul), .fsl 1 (strs uns)]])]) = H ++ N' := by
        have hcH : c = H.length + (c - H.length) := by omega
        rw [hN]
        conv => enter [1, N', 1, 1, 2]; rw [hcH]
        rw [Heap.put_app, List.append_assoc]
        exact ⟨_, rfl⟩
      generalize (H1.put c .dead ++ [Blk.tok 1, Blk.row 5 (encs (l.take i) ++ [[.int .i64 uk, .int .i64 un, .str ut, .fsl 5 (encs ul), .fsl 1 (strs uns)]])]) = M at *
      obtain ⟨N', hN'⟩ := w4
      have y2 := (w1 (H.length + 2) (by omega) (by omega)).trans g2
      (all_goals (have X1 := @encs_len; have X2 := @y2; (repeat' (first | refine gx ?_ | (refine gd ?_ ?_ <;> (intro hcond; try (exfalso; omega))) | fail)); all_goals try clear X1 X2))
      refine ard_done_of [(0, 2), (0, 3), (0, 4), (0, 5), (0, 6), (0, 7), (0, 8), (1, 2), (1, 3), (1, 4), (1, 5), (1, 6), (1, 7), (1, 8), (2, 4), (3, 4)] rfl rfl rfl rfl ?_ ?_
      · refine ep ?_; try exact trivial
        repeat' apply And.intro
        all_goals first | (simp; done) | (simp; omega) | skip
      (all_goals (have X1 := @encs_len; have X2 := @y2; (repeat' (first | refine gx ?_ | (refine gd ?_ ?_ <;> (intro hcond; try (exfalso; omega))) | fail)); all_goals try clear X1 X2))
      have z1 := fun x => Heap.put_length M (H.length + 2) x (by omega)
      refine anextn [(1, .ptr H.length 0 0), (2, .ptr (H.length + 1) 0 0), (3, .ptr (H.length + 2) 0 0), (4, .int .i64 ((i + 1 : Nat) : Int))] _ (k' := l.length - (i + 1)) (by omega) (by rw [z1]; omega) sb (heapW_refl _) rfl
        (henv _ (.row (H1.length + 1) 0 (i + 1) none 5) (by rw [z1]; omega) (fun q hq => (Heap.at_put_ne _ _ _ _ (by omega)).trans (w1 q (by omega) (by omega))) (Heap.at_put_same _ _ _) (.inr ⟨?_, H1.length + 1, none, ?_, ?_, by omega⟩) ⟨_, by rw [hN', Heap.put_app]⟩)
      · rw [htk]; simp
      · rw [htk]; simp [htl]
      · rw [htk, Heap.at_put_ne _ _ _ _ (by omega), w2]; rfl
  · have : i = l.length := by omega
    subst this
    (all_goals (have X1 := @encs_len; have X2 := @g0; have X3 := @g2; have X4 := @hcL; have X5 := @hsL; have X6 := @hclL; (repeat' (first | refine gx ?_ | (refine gd ?_ ?_ <;> (intro hcond; try (exfalso; omega))) | fail)); all_goals try clear X1 X2 X3 X4 X5 X6))
    rw [List.take_length] at hL
    refine aw_loopn (fun kk env H1 => ∃ (i : Nat) (aN : AV), i ≤ ns.length ∧ kk = ns.length - i ∧ env = [(1, .ptr H.length 0 0), (2, .ptr (H.length + 1) 0 0), (3, .ptr (H.length + 2) 0 0), (5, .int .i64 i)] ∧ H.length + 3 ≤ H1.length ∧
      H1.at H.length = .row 5 [[.int .i64 k, .int .i64 x, .str t, .fsl 5 (encs l), .fsl 1 (strs ns)]] ∧ H1.at (H.length + 1) = .row 5 [zvAV] ∧ H1.at (H.length + 2) = .row 5 [[.int .i64 k, .int .i64 x, .str t, aL, aN]] ∧ LiveH (H.length + 3) H1 1 (strs (ns.take i)) aN ∧ LiveH (H.length + 3) H1 5 (encs l) aL ∧ ∃ N, H1 = H ++ N) ns.length
      [(1, .ptr H.length 0 0), (2, .ptr (H.length + 1) 0 0), (3, .ptr (H.length + 2) 0 0), (5, .int .i64 0)] _ sb (heapW_refl _) rfl ⟨0, .nsl 1, Nat.zero_le _, rfl, rfl, hle, g0, g1, g2, .inl ⟨rfl, rfl⟩, hL, N, hN⟩ ?_
    clear g0 g1 g2 hL hle N hN H1
    rintro kk env H1 ⟨i, aN, hi, rfl, rfl, hle, g0, g1, g2, hN0, hL, N, hN⟩
    have hcN : aN.isCell = true := by rcases hN0 with ⟨_, rfl⟩ | ⟨_, c, cap, rfl, _, _⟩ <;> rfl
    have hsN := solid_of_cell hcN
    have hclN := cells_of_cell hcN
    by_cases hlt : i < ns.length
    · obtain ⟨s, hu⟩ : ∃ s, ns.getD i [] = s := ⟨_, rfl⟩
      have hge : (strs ns).getD i [] = [.str s] := by rw [strs_get hlt, hu]
      have htk : strs (ns.take (i + 1)) = strs (ns.take i) ++ [[.str s]] := by rw [strs_take hlt, hu]
      have htl : (strs (ns.take i)).length = i := by rw [strs_len]; simp; omega
      have henv : ∀ (M : Heap) (aN' : AV), H1.length ≤ M.length → (∀ q, q < H.length + 2 → M.at q = H1.at q) → M.at (H.length + 2) = .row 5 [[.int .i64 k, .int .i64 x, .str t, aL, aN']] → LiveH (H.length + 3) M 1 (strs (ns.take (i + 1))) aN' → LiveH (H.length + 3) M 5 (encs l) aL → (∃ N, M = H ++ N) →
        ∃ (i' : Nat) (aN : AV), i' ≤ ns.length ∧ ns.length - (i + 1) = ns.length - i' ∧ [(1, AV.ptr H.length 0 0), (2, .ptr (H.length + 1) 0 0), (3, .ptr (H.length + 2) 0 0), (5, .int .i64 ((i + 1 : Nat) : Int))] = [(1, .ptr H.length 0 0), (2, .ptr (H.length + 1) 0 0), (3, .ptr (H.length + 2) 0 0), (5, .int .i64 (i' : Int))] ∧ H.length + 3 ≤ M.length ∧
      M.at H.length = .row 5 [[.int .i64 k, .int .i64 x, .str t, .fsl 5 (encs l), .fsl 1 (strs ns)]] ∧ M.at (H.length + 1) = .row 5 [zvAV] ∧ M.at (H.length + 2) = .row 5 [[.int .i64 k, .int .i64 x, .str t, aL, aN]] ∧ LiveH (H.length + 3) M 1 (strs (ns.take i')) aN ∧ LiveH (H.length + 3) M 5 (encs l) aL ∧ ∃ N, M = H ++ N := fun M aL' h1 h2 h3 h4 h5 h6 =>
      ⟨i + 1, aL', by omega, rfl, rfl, by omega, (h2 _ (by omega)).trans g0, (h2 _ (by omega)).trans g1, h3, h4, h5, h6⟩
      refine aw_seq ?_
      refine aw_seq ?_
      (all_goals (have X1 := @strs_len; have X2 := @g0; have X3 := @g2; have X4 := @hge; have X5 := @hcL; have X6 := @hsL; have X7 := @hclL; have X8 := @hcN; have X9 := @hsN; have X10 := @hclN; (repeat' (first | refine gr ?_ | fail)); all_goals try clear X1 X2 X3 X4 X5 X6 X7 X8 X9 X10))
      (have X1 := @strs_len; have X2 := @g0; have X3 := @g2; have X4 := @hge; have X5 := @hcL; have X6 := @hsL; have X7 := @hclL; have X8 := @hcN; have X9 := @hsN; have X10 := @hclN; ((refine gd ?_ ?_ <;> (intro hcond; try (exfalso; omega)))); all_goals try clear X1 X2 X3 X4 X5 X6 X7 X8 X9 X10)
      refine aw_skip ?_
      refine at_n ?_
      refine aw_seq ?_
      refine aw_block ?_
      refine aw_reg_d P_mixed ?_
      iterate 8 (have X1 := @strs_len; have X2 := @g0; have X3 := @g2; have X4 := @hge; have X5 := @hcL; have X6 := @hsL; have X7 := @hclL; have X8 := @hcN; have X9 := @hsN; have X10 := @hclN; (refine ga ?_); all_goals try clear X1 X2 X3 X4 X5 X6 X7 X8 X9 X10)
      rcases hN0 with ⟨hn, rfl⟩ | ⟨hne, c, cap, rfl, hc, hcn⟩
      · have hi0 : i = 0 := by rw [← htl, hn]; rfl
        rw [hn] at htk
        refine ard_sem (v := .row (H1.length + 1) 0 1 none 1) (wr := [(H1.length + 1, .row 1 [[.str s]])]) (log := []) (H' := H1 ++ [.tok 1, .row 1 [[.str s]]]) (sem_app_new T_ok (n := H1.length + 1) (d := D45) (de := D9) (s1 := 0) (s2 := 0) rfl rfl rfl rfl rfl rfl rfl rfl rfl rfl rfl (by simp) (by simp) (by simp) (by simp)) (by simp [okIdsB, Nat.ble_eq]) rfl (puts_new _ _) ?_
        have w1 := fun q (hq : q < H1.length) => Heap.at_old H1 [Blk.tok 1, Blk.row 1 [[.str s]]] hq
        have w2 : Heap.at (H1 ++ [Blk.tok 1, Blk.row 1 [[.str s]]]) (H1.length + 1) = .row 1 [[.str s]] := Heap.at_app _ _ 1
        have w3 : (H1 ++ [Blk.tok 1, Blk.row 1 [[.str s]]]).length = H1.length + 2 := by simp
        have w4 : ∃ N', (H1 ++ [Blk.tok 1, Blk.row 1 [[.str s]]]) = H ++ N' := ⟨_, by rw [hN, List.append_assoc]⟩
        generalize (H1 ++ [Blk.tok 1, Blk.row 1 [[.str s]]]) = M at *
        obtain ⟨N', hN'⟩ := w4
        have y2 := (w1 (H.length + 2) (by omega)).trans g2
        (all_goals (have X1 := @strs_len; have X2 := @y2; have X3 := @hcL; have X4 := @hsL; have X5 := @hclL; (repeat' (first | refine gx ?_ | (refine gd ?_ ?_ <;> (intro hcond; try (exfalso; omega))) | fail)); all_goals try clear X1 X2 X3 X4 X5))
        refine ard_done_of [(0, 2), (0, 3), (0, 4), (0, 5), (0, 6), (0, 7), (1, 2), (1, 3), (1, 4), (1, 5), (1, 6), (1, 7), (2, 4), (3, 4)] rfl rfl rfl rfl ?_ ?_
        · refine ep ?_; try exact trivial
          repeat' apply And.intro
          all_goals first | (simp; done) | (simp; omega) | skip
        (all_goals (have X1 := @strs_len; have X2 := @y2; have X3 := @hcL; have X4 := @hsL; have X5 := @hclL; (repeat' (first | refine gx ?_ | (refine gd ?_ ?_ <;> (intro hcond; try (exfalso; omega))) | fail)); all_goals try clear X1 X2 X3 X4 X5))
        have z1 := fun x => Heap.put_length M (H.length + 2) x (by omega)
        refine anextn [(1, .ptr H.length 0 0), (2, .ptr (H.length + 1) 0 0), (3, .ptr (H.length + 2) 0 0), (5, .int .i64 ((i + 1 : Nat) : Int))] _ (k' := ns.length - (i + 1)) (by omega) (by rw [z1]; omega) sb (heapW_refl _) rfl
          (henv _ (.row (H1.length + 1) 0 1 none 1) (by rw [z1]; omega) (fun q hq => (Heap.at_put_ne _ _ _ _ (by omega)).trans (w1 q (by omega))) (Heap.at_put_same _ _ _) (.inr ⟨?_, H1.length + 1, none, ?_, ?_, by omega⟩) (hL.mono2 fun q hqn hq => (Heap.at_put_ne _ _ _ _ (by omega)).trans ((w1 q (at_lt (by rw [hq]; simp))).trans hq)) ⟨_, by rw [hN', Heap.put_app]⟩)
        · rw [htk]; simp
        · rw [htk]; simp [htl]
        · rw [htk, Heap.at_put_ne _ _ _ _ (by omega), w2]; rfl
      · have hcl : c < H1.length := at_lt (by rw [hc]; simp)
        rw [htl]
        refine ard_sem (v := .row (H1.length + 1) 0 (i + 1) none 1) (wr := [(c, .dead), (H1.length + 1, .row 1 (strs (ns.take i) ++ [[.str s]]))]) (log := [c]) (H' := H1.put c .dead ++ [Blk.tok 1, Blk.row 1 (strs (ns.take i) ++ [[.str s]])]) (sem_app_move T_ok (n := H1.length + 1) (d := D45) (de := D9) (s1 := 0) (s2 := 0) (b := c) (len := i) (es := strs (ns.take i)) rfl rfl rfl rfl rfl rfl rfl rfl ((Heap.at_old _ _ hcl).trans hc) htl rfl rfl rfl (by simp) (by simp) (by simp [Len] at f6 ⊢; omega) (by omega) (by simp)) (by simp [okIdsB, Nat.ble_eq]) rfl (puts_move hcl _ _) ?_
        have w1 := fun q (hq : q < H1.length) (hqc : q ≠ c) => (Heap.at_old (H1.put c .dead) [Blk.tok 1, Blk.row 1 (strs (ns.take i) ++ [[.str s]])] (by rw [Heap.put_length _ _ _ hcl]; exact hq)).trans (Heap.at_put_ne H1 c q .dead hqc)
        have w2 : Heap.at (H1.put c .dead ++ [Blk.tok 1, Blk.row 1 (strs (ns.take i) ++ [[.str s]])]) (H1.length + 1) = .row 1 (strs (ns.take i) ++ [[.str s]]) := Heap.at_putB hcl _ _ 1
        have w3 : (H1.put c .dead ++ [Blk.tok 1, Blk.row 1 (strs (ns.take i) ++ [[.str s]])]).length = H1.length + 2 := by rw [List.length_append, Heap.put_length _ _ _ hcl]; rfl
        have w4 : ∃ N', (H1.put c .dead ++ [Blk.tok 1, Blk.row 1 (strs (ns.take i) ++ [[.str s]])]) = H ++ N' := by
          have hcH : c = H.length + (c - H.length) := by omega
          rw [hN]
          conv => enter [1, N', 1, 1, 2]; rw [hcH]
          rw [Heap.put_app, List.append_assoc]
          exact ⟨_, rfl⟩
        generalize (H1.put c .dead ++ [Blk.tok 1, Blk.row 1 (strs (ns.take i) ++ [[.str s]])]) = M at *
        obtain ⟨N', hN'⟩ := w4
        have y2 := (w1 (H.length + 2) (by omega) (by omega)).trans g2
        (all_goals (have X1 := @strs_len; have X2 := @y2; have X3 := @hcL; have X4 := @hsL; have X5 := @hclL; (repeat' (first | refine gx ?_ | (refine gd ?_ ?_ <;> (intro hcond; try (exfalso; omega))) | fail)); all_goals try clear X1 X2 X3 X4 X5))
        refine ard_done_of [(0, 2), (0, 3), (0, 4), (0, 5), (0, 6), (0, 7), (1, 2), (1, 3), (1, 4), (1, 5), (1, 6), (1, 7), (2, 4), (3, 4)] rfl rfl rfl rfl ?_ ?_
        · refine ep ?_; try exact trivial
          repeat' apply And.intro
          all_goals first | (simp; done) | (simp; omega) | skip
        (all_goals (have X1 := @strs_len; have X2 := @y2; have X3 := @hcL; have X4 := @hsL; have X5 := @hclL; (repeat' (first | refine gx ?_ | (refine gd ?_ ?_ <;> (intro hcond; try (exfalso; omega))) | fail)); all_goals try clear X1 X2 X3 X4 X5))
        have z1 := fun x => Heap.put_length M (H.length + 2) x (by omega)
        refine anextn [(1, .ptr H.length 0 0), (2, .ptr (H.length + 1) 0 0), (3, .ptr (H.length + 2) 0 0), (5, .int .i64 ((i + 1 : Nat) : Int))] _ (k' := ns.length - (i + 1)) (by omega) (by rw [z1]; omega) sb (heapW_refl _) rfl
          (henv _ (.row (H1.length + 1) 0 (i + 1) none 1) (by rw [z1]; omega) (fun q hq => (Heap.at_put_ne _ _ _ _ (by omega)).trans (w1 q (by omega) (by omega))) (Heap.at_put_same _ _ _) (.inr ⟨?_, H1.length + 1, none, ?_, ?_, by omega⟩) (hL.mono2 fun q hqn hq => (Heap.at_put_ne _ _ _ _ (by omega)).trans ((w1 q (at_lt (by rw [hq]; simp)) (fun e => by rw [e, hc] at hq; cases hq)).trans hq)) ⟨_, by rw [hN', Heap.put_app]⟩)
        · rw [htk]; simp
        · rw [htk]; simp [htl]
        · rw [htk, Heap.at_put_ne _ _ _ _ (by omega), w2]
    · have : i = ns.length := by omega
      subst this
      rw [List.take_length] at hN0
      have e1 := fun x => Heap.at_put_same H1 (H.length + 1) x
      (all_goals (have X1 := @strs_len; have X2 := @g0; have X3 := @g1; have X4 := @g2; have X5 := @hcL; have X6 := @hsL; have X7 := @hclL; have X8 := @hcN; have X9 := @hsN; have X10 := @hclN; have X11 := @e1; (repeat' (first | refine gx ?_ | (refine gd ?_ ?_ <;> (intro hcond; try (exfalso; omega))) | fail)); all_goals try clear X1 X2 X3 X4 X5 X6 X7 X8 X9 X10 X11))
      have hX : ∀ x, H1.put (H.length + 1) x = H ++ Heap.put N 1 x := fun x => by rw [hN, Heap.put_app]
      exact ⟨_, aL, aN, hX _, rfl, LiveH.toL (n := H.length + 3) (by rw [← hX]; exact hL.mono2 fun q h1 h2 => (Heap.at_put_ne _ _ _ _ (by omega)).trans h2) (by omega), LiveH.toL (n := H.length + 3) (by rw [← hX]; exact hN0.mono2 fun q h1 h2 => (Heap.at_put_ne _ _ _ _ (by omega)).trans h2) (by omega)⟩
end Go.Av
set_option linter.unusedVariables false
set_option linter.unusedSimpArgs false
namespace Go.Av
open Go
set_option maxRecDepth 10000
set_option maxHeartbeats 1000000
abbrev D24 : TyD := ⟨1, 24, false, [.nsl 7], .slice 54⟩
abbrev D54 : TyD := ⟨7, 104, true, [.int .i64 0, .str [], .int .i64 0, .int .i64 0, .str [], .nsl 5, .nsl 1], .struct [(0, 3), (1, 9), (2, 47)]⟩
example : T 24 = some D24 := rfl
example : T 54 = some D54 := rfl
theorem l5CopyL_ok (l : List GN) (hl : Len l) (hf : ∀ v ∈ l, v.fits) (at' : Nat) (H : Heap) : FCall P 28 [.fsl 7 (encn l)] H fun r H' => ∃ b cap live, r = .row b 0 l.length cap 7 ∧ H.length ≤ b ∧ b < H'.length ∧ (∀ c, c < H.length → H'.at c = H.at c) ∧ H'.at b = .row 7 ((encn l).set at' live) ∧ (at' < l.length → LiveNd H.length H' (l.getD at' default) live) := by
  refine fcall_walk T_ok ok_28 rfl ?_
  unfold Go.Proofs.Try.f28
  simp only [Option.getD_some, envOf, Nat.zero_add, Nat.reduceAdd]
  refine aw_seq ?_
  (all_goals (have X1 := @encn_len; (repeat' (first | refine gr ?_ | fail)); all_goals try clear X1))
  refine aw_seq ?_
  refine aw_reg ?_
  refine ar_sem (v := .row H.length 0 0 (some 0) 7) (wr := [(H.length, .row 7 [])]) (log := []) (H' := H ++ [.row 7 []]) (sem_build0 T_ok (d := D24) (de := D54) H.length rfl rfl rfl rfl) (by simp [okIdsB]) rfl (by simp [Heap.puts, Heap.put_len]) ?_
  (all_goals (have X1 := @encn_len; (repeat' (first | refine gx ?_ | (refine gd ?_ ?_ <;> (intro hcond; try (exfalso; omega))) | fail)); all_goals try clear X1))
  refine aw_loopn (fun kk env H1 => ∃ (i b : Nat) (cap : Option Nat) (live : List AV), i ≤ l.length ∧ kk = l.length - i ∧ env = [(0, .fsl 7 (encn l)), (3, .row b 0 i cap 7), (4, .int .i64 i)] ∧ H.length ≤ b ∧ b < H1.length ∧ (∀ c, c < H.length → H1.at c = H.at c) ∧
      H1.at b = .row 7 ((encn (l.take i)).set at' live) ∧ (at' < i → LiveNd H.length H1 (l.getD at' default) live)) l.length
    [(0, .fsl 7 (encn l)), (3, .row H.length 0 0 (some 0) 7), (4, .int .i64 0)] _ sb (heapW_refl _) rfl ⟨0, H.length, some 0, [], Nat.zero_le _, rfl, rfl, Nat.le_refl _, by simp, fun c hc => Heap.at_old _ _ hc, Heap.at_app _ _ 0, fun h => by omega⟩ ?_
  rintro kk env H1 ⟨i, b, cap, live, hi, rfl, rfl, hb0, hbl, hold, hat, hlive⟩
  by_cases hlt : i < l.length
  · obtain ⟨u, hu⟩ : ∃ u, l.getD i default = u := ⟨_, rfl⟩
    have huf : u.fits := hu ▸ hf _ (mem_getD hlt)
    have hge : (encn l).getD i [] = u.enc := by rw [encn_get hlt, hu]
    obtain ⟨uid, uty, ⟨uk, un, ut, ul, uns⟩⟩ := u
    have hXl : ((encn (l.take i)).set at' live).length = i := by rw [List.length_set, encn_len]; simp; omega
    have htk : encn (l.take (i + 1)) = encn (l.take i) ++ [GN.enc ⟨uid, uty, ⟨uk, un, ut, ul, uns⟩⟩] := by
      rw [List.take_succ_eq_append_getElem hlt]; unfold encn; rw [List.map_append, List.map_cons, List.map_nil, ← hu, List.getD_eq_getElem?_getD, List.getElem?_eq_getElem hlt]; rfl
    have hhb : ∀ {sz : Nat} {es : List (List AV)} {q : Nat}, sz ≠ 7 → H1.at q = .row sz es → q ≠ b := fun h7 hq e => by rw [e, hat] at hq; cases hq; exact h7 rfl
    by_cases hia : i = at'
    · subst hia
      (all_goals (have X1 := @encn_len; have X2 := @hge; have X3 := @GN.enc.eq_1; have X4 := @GV.enc.eq_1; (repeat' (first | refine gx ?_ | (refine gd ?_ ?_ <;> (intro hcond; try (exfalso; omega))) | fail)); all_goals try clear X1 X2 X3 X4))
      (have X1 := @encn_len; have X2 := @hge; have X3 := @GN.enc.eq_1; have X4 := @GV.enc.eq_1; ((apply ard_ocall (log := []) (F := fun r ws Bs => ws = [] ∧ LTB H1.length ⟨uk, un, ut, ul, uns⟩ Bs r) rfl ok_67); (focus exact eva); (focus exact fun H2 e1 e2 => FCall.mono (l1CopyL_ok ⟨uk, un, ut, ul, uns⟩ huf.2.2 H2) (by rintro r _ ⟨Bs, rfl, h⟩; rw [e1] at h; exact ⟨[], Bs, ⟨rfl, by simpa using h⟩, rfl⟩)); (focus rfl); (focus rfl); (focus (simp only [List.length_cons, List.length_nil, Nat.zero_add, Nat.reduceAdd]; kernel_rfl))); all_goals try clear X1 X2 X3 X4)
      · (refine orderOK_pre 17 [(0, 1), (0, 2), (0, 3), (0, 4), (0, 5), (0, 6), (0, 7), (0, 8), (0, 9), (0, 10), (0, 11), (0, 12), (0, 13), (0, 14), (0, 15), (0, 16), (1, 2), (1, 6), (1, 7), (1, 8), (1, 9), (1, 10), (1, 11), (1, 12), (1, 13), (1, 14), (1, 15), (1, 16), (2, 6), (2, 7), (2, 8), (2, 9), (2, 10), (2, 11), (2, 12), (2, 13), (2, 14), (2, 15), (2, 16), (3, 6), (3, 7), (3, 8), (3, 9), (3, 10), (3, 11), (3, 12), (3, 13), (3, 14), (3, 15), (3, 16), (4, 6), (4, 7), (4, 8), (4, 9), (4, 10), (4, 11), (4, 12), (4, 13), (4, 14), (4, 15), (4, 16), (5, 6), (5, 7), (5, 8), (5, 9), (5, 10), (5, 11), (5, 12), (5, 13), (5, 14), (5, 15), (5, 16), (6, 7), (6, 11), (6, 12), (6, 13), (6, 14), (6, 15), (6, 16), (7, 11), (7, 12), (7, 13), (7, 14), (7, 15), (7, 16), (8, 11), (8, 12), (8, 13), (8, 14), (8, 15), (8, 16), (9, 11), (9, 12), (9, 13), (9, 14), (9, 15), (9, 16), (10, 11), (10, 12), (10, 13), (10, 14), (10, 15), (10, 16), (11, 12)] rfl rfl rfl rfl rfl ?_)
        refine ep ?_; try exact trivial
        all_goals first | (simp; done) | skip
      · simp [blwL, AV.blw]
      · intro b hb; cases hb
      · intro b hb; cases hb
      · rintro r ws Bs ⟨rfl, h⟩
        exact ⟨h.idin.1, (by simp), h.idin.2⟩
      rintro r ws Bs ⟨rfl, aL, aN, rfl, hL, hN, hBs⟩
      have hcL := hL.get.1
      have hcN := hN.get.1
      have hsL := solid_of_cell hcL
      have hsN := solid_of_cell hcN
      have hclL := cells_of_cell hcL
      have hclN := cells_of_cell hcN
      simp only [Heap.puts, GV.k, GV.n, GV.t]
      have hLH := hL.heap (n := H.length) (by omega)
      have hNH := hN.heap (n := H.length) (by omega)
      obtain ⟨G, hG⟩ : ∃ G, H1 ++ Bs = G := ⟨_, rfl⟩
      have hGo : ∀ c, c < H1.length → G.at c = H1.at c := fun c hc => by rw [← hG]; exact Heap.at_old _ _ hc
      have hGl : H1.length ≤ G.length := by rw [← hG]; simp
      have gat := (hGo _ hbl).trans hat
      have hnl : newWr H1.length Bs = newWr H1.length Bs := rfl
      rw [hG] at hLH hNH ⊢
      have gb : b < G.length := by omega
      have hgl : G.length = H1.length + Bs.length := by rw [← hG]; simp
      (have X1 := @encn_len; have X2 := @hcL; have X3 := @hcN; have X4 := @hsL; have X5 := @hsN; have X6 := @hclL; have X7 := @hclN; (refine ga ?_); all_goals try clear X1 X2 X3 X4 X5 X6 X7)
      refine ard_sem (v := .row G.length 0 1 (some 1) 7) (wr := [(G.length, .row 7 [[.int .i64 uid, .str uty, .int .i64 uk, .int .i64 un, .str ut, aL, aN]])]) (log := []) (H' := G ++ [.row 7 [[.int .i64 uid, .str uty, .int .i64 uk, .int .i64 un, .str ut, aL, aN]]])
        (sem_buildSliceR T_ok (d := D24) (de := D54) (es := [[.int .i64 uid, .str uty, .int .i64 uk, .int .i64 un, .str ut, aL, aN]]) G.length (fun x => Env.ev _ 0 x) (fun C a henv x hx => ev_rel henv 0 x hx) rfl rfl rfl rfl ?_ (by simp) rfl (by decide)) (by simp [okIdsB]) rfl (by simp [Heap.puts, Heap.put_len]) ?_
      · have hs7 : AV.solid (.agg [.int .i64 uid, .str uty, .int .i64 uk, .int .i64 un, .str ut, aL, aN]) = true := by
          show List.all [AV.int .i64 uid, .str uty, .int .i64 uk, .int .i64 un, .str ut, aL, aN] AV.isCell = true
          simp only [List.all_cons, List.all_nil, hcL, hcN]; rfl
        show aelems 7 1 [D54.zero] [(0, .agg [.int .i64 uid, .str uty, .int .i64 uk, .int .i64 un, .str ut, aL, aN])] = _
        unfold aelems
        rw [hs7]; rfl
      have gat1 := fun L => (Heap.at_old G L gb).trans gat
      refine ard_sem (v := .row (G.length + 1) 0 (i + 1) none 7) (wr := [(b, .dead), (G.length + 1, .row 7 ((encn (l.take i)).set i live ++ [[.int .i64 uid, .str uty, .int .i64 uk, .int .i64 un, .str ut, aL, aN]]))]) (log := [b, G.length]) (H' := G.put b .dead ++ [.row 7 [[.int .i64 uid, .str uty, .int .i64 uk, .int .i64 un, .str ut, aL, aN]], .row 7 ((encn (l.take i)).set i live ++ [[.int .i64 uid, .str uty, .int .i64 uk, .int .i64 un, .str ut, aL, aN]])])
        (sem_app_moveL T_ok (n := G.length + 1) (d := D24) (de := D54) (dx := D24) (ys := [[.int .i64 uid, .str uty, .int .i64 uk, .int .i64 un, .str ut, aL, aN]]) (s1 := 0) (s2 := 0) (b := b) (b2 := G.length) (len := i) (es := (encn (l.take i)).set i live) rfl rfl rfl rfl rfl rfl rfl rfl (gat1 _) hXl rfl rfl rfl (Heap.at_app _ _ 0) (by simp) (by simp) (by simp [Len] at hl ⊢; omega) (by omega) (by omega)) (by simp [okIdsB, Nat.ble_eq]) rfl (puts_move gb _ _) ?_
      have w1 := fun q (hq : q < H1.length) (hqc : q ≠ b) => ((Heap.at_old (G.put b .dead) [Blk.row 7 [[.int .i64 uid, .str uty, .int .i64 uk, .int .i64 un, .str ut, aL, aN]], Blk.row 7 ((encn (l.take i)).set i live ++ [[.int .i64 uid, .str uty, .int .i64 uk, .int .i64 un, .str ut, aL, aN]])] (by rw [Heap.put_length _ _ _ gb]; omega)).trans (Heap.at_put_ne G b q .dead hqc)).trans (hGo q hq)
      have w0 := fun q (hq : q < G.length) (hqc : q ≠ b) => ((Heap.at_old (G.put b .dead) [Blk.row 7 [[.int .i64 uid, .str uty, .int .i64 uk, .int .i64 un, .str ut, aL, aN]], Blk.row 7 ((encn (l.take i)).set i live ++ [[.int .i64 uid, .str uty, .int .i64 uk, .int .i64 un, .str ut, aL, aN]])] (by rw [Heap.put_length _ _ _ gb]; omega)).trans (Heap.at_put_ne G b q .dead hqc))
      have w2 : Heap.at (G.put b .dead ++ [Blk.row 7 [[.int .i64 uid, .str uty, .int .i64 uk, .int .i64 un, .str ut, aL, aN]], Blk.row 7 ((encn (l.take i)).set i live ++ [[.int .i64 uid, .str uty, .int .i64 uk, .int .i64 un, .str ut, aL, aN]])]) (G.length + 1) = .row 7 ((encn (l.take i)).set i live ++ [[.int .i64 uid, .str uty, .int .i64 uk, .int .i64 un, .str ut, aL, aN]]) := Heap.at_putB gb _ _ 1
      have w3 : (G.put b .dead ++ [Blk.row 7 [[.int .i64 uid, .str uty, .int .i64 uk, .int .i64 un, .str ut, aL, aN]], Blk.row 7 ((encn (l.take i)).set i live ++ [[.int .i64 uid, .str uty, .int .i64 uk, .int .i64 un, .str ut, aL, aN]])]).length = G.length + 2 := by rw [List.length_append, Heap.put_length _ _ _ gb]; rfl
      generalize (G.put b .dead ++ [Blk.row 7 [[.int .i64 uid, .str uty, .int .i64 uk, .int .i64 un, .str ut, aL, aN]], Blk.row 7 ((encn (l.take i)).set i live ++ [[.int .i64 uid, .str uty, .int .i64 uk, .int .i64 un, .str ut, aL, aN]])]) = M at *
      (all_goals (have X1 := @encn_len; have X2 := @hcL; have X3 := @hcN; have X4 := @hsL; have X5 := @hsN; have X6 := @hclL; have X7 := @hclN; (repeat' (first | refine gx ?_ | (refine gd ?_ ?_ <;> (intro hcond; try (exfalso; omega))) | fail)); all_goals try clear X1 X2 X3 X4 X5 X6 X7))
      refine ard_done_of [(0, 1), (0, 2), (0, 3), (0, 4), (0, 5), (0, 6), (0, 7), (0, 8), (0, 9), (0, 10), (0, 11), (0, 12), (0, 13), (0, 14), (0, 15), (0, 16), (0, 17), (0, 18), (1, 2), (1, 6), (1, 7), (1, 8), (1, 9), (1, 10), (1, 11), (1, 12), (1, 13), (1, 14), (1, 15), (1, 16), (2, 6), (2, 7), (2, 8), (2, 9), (2, 10), (2, 11), (2, 12), (2, 13), (2, 14), (2, 15), (2, 16), (3, 6), (3, 7), (3, 8), (3, 9), (3, 10), (3, 11), (3, 12), (3, 13), (3, 14), (3, 15), (3, 16), (4, 6), (4, 7), (4, 8), (4, 9), (4, 10), (4, 11), (4, 12), (4, 13), (4, 14), (4, 15), (4, 16), (5, 6), (5, 7), (5, 8), (5, 9), (5, 10), (5, 11), (5, 12), (5, 13), (5, 14), (5, 15), (5, 16), (6, 7), (6, 11), (6, 12), (6, 13), (6, 14), (6, 15), (6, 16), (7, 11), (7, 12), (7, 13), (7, 14), (7, 15), (7, 16), (8, 11), (8, 12), (8, 13), (8, 14), (8, 15), (8, 16), (9, 11), (9, 12), (9, 13), (9, 14), (9, 15), (9, 16), (10, 11), (10, 12), (10, 13), (10, 14), (10, 15), (10, 16), (11, 12)] rfl rfl rfl rfl ?_ ?_
      · refine ep ?_; try exact trivial
        repeat' apply And.intro
        all_goals first | (apply all_newWr'; intro k x h1 h2; simp at h1 h2 ⊢; done) | (apply all_newWr'; intro k x h1 h2; simp at h1 h2 ⊢; omega) | (simp; done) | (simp; omega) | skip
      (all_goals (have X1 := @encn_len; have X2 := @hcL; have X3 := @hcN; have X4 := @hsL; have X5 := @hsN; have X6 := @hclL; have X7 := @hclN; (repeat' (first | refine gx ?_ | (refine gd ?_ ?_ <;> (intro hcond; try (exfalso; omega))) | fail)); all_goals try clear X1 X2 X3 X4 X5 X6 X7))
      refine anextn [(0, .fsl 7 (encn l)), (3, .row (G.length + 1) 0 (i + 1) none 7), (4, .int .i64 ((i + 1 : Nat) : Int))] _ (k' := l.length - (i + 1)) (by omega) (by omega) sb (heapW_refl _) rfl
        ⟨i + 1, G.length + 1, none, [.int .i64 uid, .str uty, .int .i64 uk, .int .i64 un, .str ut, aL, aN], by omega, rfl, rfl, by omega, by omega, fun c hc => (w1 c (by omega) (by omega)).trans (hold c hc), ?_, fun hlt' => ?_⟩
      · rw [w2, htk, List.set_append_right _ _ (by rw [encn_len]; simp; omega)]
        rw [List.set_eq_of_length_le (by rw [encn_len]; simp; omega), show i - (encn (l.take i)).length = 0 by rw [encn_len]; simp; omega]
        rfl
      · rw [hu]
        refine ⟨aL, aN, rfl, hLH.mono fun c hc => ?_, hNH.mono fun c hc => ?_⟩
        · exact (w0 c (at_lt (by rw [hc]; simp)) (fun e => by rw [e, gat] at hc; cases hc)).trans hc
        · exact (w0 c (at_lt (by rw [hc]; simp)) (fun e => by rw [e, gat] at hc; cases hc)).trans hc
    · --
      (all_goals (have X1 := @encn_len; have X2 := @hge; have X3 := @GN.enc.eq_1; have X4 := @GV.enc.eq_1; (repeat' (first | refine gx ?_ | (refine gd ?_ ?_ <;> (intro hcond; try (exfalso; omega))) | fail)); all_goals try clear X1 X2 X3 X4))
      (have X1 := @encn_len; have X2 := @hge; have X3 := @GN.enc.eq_1; have X4 := @GV.enc.eq_1; ((apply ard_call rfl ok_67); (focus exact eva); (focus exact l1Copy_all _ ⟨uk, un, ut, ul, uns⟩ (Nat.lt_succ_self _) huf.2.2); (focus rfl); (focus rfl)); all_goals try clear X1 X2 X3 X4)
      iterate 2 (have X1 := @encn_len; have X2 := @hge; have X3 := @GN.enc.eq_1; have X4 := @GV.enc.eq_1; (refine ga ?_); all_goals try clear X1 X2 X3 X4)
      refine ard_sem (v := .row (H1.length + 1) 0 (i + 1) none 7) (wr := [(b, .dead), (H1.length + 1, .row 7 ((encn (l.take i)).set at' live ++ [[.int .i64 uid, .str uty, .int .i64 uk, .int .i64 un, .str ut, .fsl 5 (encs ul), .fsl 1 (strs uns)]]))]) (log := [b]) (H' := H1.put b .dead ++ [.tok 1, .row 7 ((encn (l.take i)).set at' live ++ [[.int .i64 uid, .str uty, .int .i64 uk, .int .i64 un, .str ut, .fsl 5 (encs ul), .fsl 1 (strs uns)]])])
        (sem_app_move T_ok (n := H1.length + 1) (d := D24) (de := D54) (ys := [[.int .i64 uid, .str uty, .int .i64 uk, .int .i64 un, .str ut, .fsl 5 (encs ul), .fsl 1 (strs uns)]]) (s1 := 0) (s2 := 0) (b := b) (len := i) (es := (encn (l.take i)).set at' live) rfl rfl rfl rfl rfl rfl rfl rfl ((Heap.at_old _ _ hbl).trans hat) hXl rfl rfl rfl (by simp) (by simp) (by simp [Len] at hl ⊢; omega) (by omega) (by simp)) (by simp [okIdsB, Nat.ble_eq]) rfl (puts_move hbl _ _) ?_
      have w1 := fun q (hq : q < H1.length) (hqc : q ≠ b) => ((Heap.at_old (H1.put b .dead) [Blk.tok 1, Blk.row 7 ((encn (l.take i)).set at' live ++ [[.int .i64 uid, .str uty, .int .i64 uk, .int .i64 un, .str ut, .fsl 5 (encs ul), .fsl 1 (strs uns)]])] (by rw [Heap.put_length _ _ _ hbl]; omega)).trans (Heap.at_put_ne H1 b q .dead hqc))
      have w2 : Heap.at (H1.put b .dead ++ [Blk.tok 1, Blk.row 7 ((encn (l.take i)).set at' live ++ [[.int .i64 uid, .str uty, .int .i64 uk, .int .i64 un, .str ut, .fsl 5 (encs ul), .fsl 1 (strs uns)]])]) (H1.length + 1) = .row 7 ((encn (l.take i)).set at' live ++ [[.int .i64 uid, .str uty, .int .i64 uk, .int .i64 un, .str ut, .fsl 5 (encs ul), .fsl 1 (strs uns)]]) := Heap.at_putB hbl _ _ 1
      have w3 : (H1.put b .dead ++ [Blk.tok 1, Blk.row 7 ((encn (l.take i)).set at' live ++ [[.int .i64 uid, .str uty, .int .i64 uk, .int .i64 un, .str ut, .fsl 5 (encs ul), .fsl 1 (strs uns)]])]).length = H1.length + 2 := by rw [List.length_append, Heap.put_length _ _ _ hbl]; rfl
      generalize (H1.put b .dead ++ [Blk.tok 1, Blk.row 7 ((encn (l.take i)).set at' live ++ [[.int .i64 uid, .str uty, .int .i64 uk, .int .i64 un, .str ut, .fsl 5 (encs ul), .fsl 1 (strs uns)]])]) = M at *
      (all_goals (have X1 := @encn_len; have X2 := @hge; have X3 := @GN.enc.eq_1; have X4 := @GV.enc.eq_1; (repeat' (first | refine gx ?_ | (refine gd ?_ ?_ <;> (intro hcond; try (exfalso; omega))) | fail)); all_goals try clear X1 X2 X3 X4))
      refine anextn [(0, .fsl 7 (encn l)), (3, .row (H1.length + 1) 0 (i + 1) none 7), (4, .int .i64 ((i + 1 : Nat) : Int))] _ (k' := l.length - (i + 1)) (by omega) (by omega) sb (heapW_refl _) rfl
        ⟨i + 1, H1.length + 1, none, live, by omega, rfl, rfl, by omega, by omega, fun c hc => (w1 c (by omega) (by omega)).trans (hold c hc), ?_, fun hlt' => ?_⟩
      · rw [w2, htk, ← set_snoc _ _ _ _ (by rw [encn_len]; simp; omega)]
        rfl
      · obtain ⟨aL, aN, e, hL, hN⟩ := hlive (by omega)
        exact ⟨aL, aN, e, hL.mono fun c hc => (w1 c (at_lt (by rw [hc]; simp)) (hhb (by decide) hc)).trans hc, hN.mono fun c hc => (w1 c (at_lt (by rw [hc]; simp)) (hhb (by decide) hc)).trans hc⟩
  · have : i = l.length := by omega
    subst this
    (all_goals (have X1 := @encn_len; (repeat' (first | refine gx ?_ | (refine gd ?_ ?_ <;> (intro hcond; try (exfalso; omega))) | fail)); all_goals try clear X1))
    rw [List.take_length] at hat
    exact ⟨b, cap, live, rfl, hb0, hbl, hold, hat, hlive⟩
end Go.Av
set_option linter.unusedVariables false
set_option linter.unusedSimpArgs false
namespace Go.Av
open Go
set_option maxRecDepth 10000
set_option maxHeartbeats 1000000
theorem beqL_comm (a b : List UInt8) : (a == b) = (b == a) := Bool.eq_iff_iff.2 ⟨fun h => by rw [eq_of_beq h]; exact beq_self_eq_true _, fun h => by rw [eq_of_beq h]; exact beq_self_eq_true _⟩
theorem l5At_ok (l : List GN) (id : Int) (hl : Len l) (hf : ∀ v ∈ l, v.fits) : PCall P 86 [.fsl 7 (encn l), .int .i64 id] (.int .i64 (idxI l (fun n => n.id == id))) := by
  refine pcall_of_fcall (fcall_walk T_ok ok_86 rfl ?_)
  unfold Go.Proofs.Try.f86
  simp only [Option.getD_some, envOf, Nat.zero_add, Nat.reduceAdd]
  (all_goals (have X1 := @encn_len; have X2 := @encn_get; (repeat' (first | refine gg ?_ | (refine gd ?_ ?_ <;> (intro hcond; try (exfalso; omega))) | (refine gc ?_ ?_ <;> intro hcs) | fail)); all_goals try clear X1 X2))
  refine aw_loopc (fun k env H => ∃ (i : Nat), i ≤ l.length ∧ k = l.length - i ∧ H = [] ∧ (∀ j, j < i → ((l.getD j default).id == id) = false) ∧ env = [(0, .fsl 7 (encn l)), (1, .int .i64 id), (5, .int .i64 i)]) (l.length) [(0, .fsl 7 (encn l)), (1, .int .i64 id), (5, .int .i64 0)] [] sb rfl trivial rfl rfl ⟨0, Nat.zero_le _, rfl, rfl, fun j hj => by omega, rfl⟩ ?_
  rintro k env H ⟨i, hi, hk, rfl, hinv, rfl⟩
  by_cases hlt : i < l.length
  · obtain ⟨u, hu⟩ : ∃ u, l.getD i default = u := ⟨_, rfl⟩
    have hge : (encn l).getD i [] = u.enc := by rw [encn_get hlt, hu]
    obtain ⟨uid, uty, ⟨uk, un, ut, ul, uns⟩⟩ := u
    (all_goals (have X1 := @encn_len; have X2 := @hge; have X3 := @GN.enc.eq_1; have X4 := @GV.enc.eq_1; (repeat' (first | refine gg ?_ | (refine gd ?_ ?_ <;> (intro hcond; try (exfalso; omega))) | (refine gc ?_ ?_ <;> intro hcs) | fail)); all_goals try clear X1 X2 X3 X4))
    · rw [idxI_found (p := fun n : GN => n.id == id) hlt (by rw [hu]; simpa using hcond) hinv]; rfl
    · exact anext0 [(0, .fsl 7 (encn l)), (1, .int .i64 id), (5, .int .i64 (i + 1 : Nat))] [] (k' := l.length - (i + 1)) (by omega) sb rfl trivial rfl rfl ⟨i + 1, by omega, rfl, rfl, snoc_all hinv (by rw [hu]; simpa using hcond), rfl⟩
  · have : i = l.length := by omega
    subst this
    (all_goals (have X1 := @encn_len; (repeat' (first | refine gg ?_ | (refine gd ?_ ?_ <;> (intro hcond; try (exfalso; omega))) | (refine gc ?_ ?_ <;> intro hcs) | fail)); all_goals try clear X1))
    rw [idxI_none hinv]; rfl
theorem liveH_borS {n : Nat} {S : List Nat} {H : Heap} {sz : Nat} {es : List (List AV)} {a : AV} (h : LiveH n H sz es a) (hS : ∀ i sz es, H.at i = .row sz es → sz ≠ 7 → i ∈ S) (h7 : sz ≠ 7) (hs : ∀ x ∈ es, x.length = sz) (hf : ∀ x ∈ es, frzL x = some x) : Bor H S a (.fsl sz es) := by
  rcases h with ⟨rfl, rfl⟩ | ⟨_, i, cap, rfl, hi, _⟩
  · exact bor_frz rfl
  · exact bor_rowf (hS i _ _ hi h7) hi hs hf
theorem liveNd_borS {n : Nat} {S : List Nat} {H : Heap} {u : GN} {r : List AV} (h : LiveNd n H u r) (hS : ∀ i sz es, H.at i = .row sz es → sz ≠ 7 → i ∈ S) : BorL H S r u.enc := by
  obtain ⟨aL, aN, rfl, hL, hN⟩ := h
  obtain ⟨id, ty, ⟨k, m, t, l, ns⟩⟩ := u
  exact ⟨bor_frz rfl, bor_frz rfl, bor_frz rfl, bor_frz rfl, bor_frz rfl, liveH_borS hL hS (by decide) (encs_all5 l) (encs_frzm l), liveH_borS hN hS (by decide) (strs_all ns) (strs_frzm ns), trivial⟩
def set5 (l : List GN) (id : Int) (s : List UInt8) (v : GV) : List GN × Bool :=
  if idxI l (fun n => n.id == id) < 0 ∨ nameOK s = false ∨ okV false 3 v = false then (l, false)
  else if 0 ≤ idxI (l.getD (idxI l (fun n => n.id == id)).toNat default).cells.ns (fun x => s == x) then
    (l.set (idxI l (fun n => n.id == id)).toNat (setCell (l.getD (idxI l (fun n => n.id == id)).toNat default) (idxI (l.getD (idxI l (fun n => n.id == id)).toNat default).cells.ns (fun x => s == x)).toNat v), true)
  else if 12 ≤ (l.getD (idxI l (fun n => n.id == id)).toNat default).cells.ns.length then (l, false)
  else (l.set (idxI l (fun n => n.id == id)).toNat (addCell (l.getD (idxI l (fun n => n.id == id)).toNat default) s v), true)
theorem setN_eq {l : List GN} (h : storeOK l = true) (id : Int) (s : List UInt8) (v : GV) : setN l id s v = set5 l id s v := by
  unfold setN set5; rw [if_pos h]
/-- nodes in memory of the call's own, one of them with its lists -/
def NLv (H' : Heap) (r' : AV) (p : List GN × Bool) : Prop := ∃ (b : Nat) (cap : Option Nat) (at' : Nat) (live : List AV) (u' : GN) (ok : Bool) (l0 : List GN), r' = .tup [.row b 0 l0.length cap 7, .bool ok] ∧ p = (l0.set at' u', ok) ∧ H'.at b = .row 7 ((encn l0).set at' live) ∧
  (at' < l0.length → ∀ S : List Nat, (∀ i sz es, H'.at i = .row sz es → sz ≠ 7 → i ∈ S) → BorL H' S live u'.enc)
theorem l5Set_core (l : List GN) (id : Int) (s : List UInt8) (v : GV) (hl : Len l) (hf : ∀ v ∈ l, v.fits) (hs : Len s) (hv : v.fits) (hlens : ∀ u ∈ l, u.cells.ns.length ≤ u.cells.l.length) : FCall P 58 [.fsl 7 (encn l), .int .i64 id, .str s, .agg v.enc] [] fun r' H' => NLv H' r' (set5 l id s v) := by
  refine fcall_walk T_ok ok_58 rfl ?_
  unfold Go.Proofs.Try.f58
  simp only [Option.getD_some, envOf, Nat.zero_add, Nat.reduceAdd]
  obtain ⟨vk, vn, vt, vl, vns⟩ := v
  (all_goals (have X1 := @encn_len; have X2 := @GV.enc.eq_1; (repeat' (first | refine gg ?_ | (refine gd ?_ ?_ <;> (intro hcond; try (exfalso; omega))) | (refine gc ?_ ?_ <;> intro hcs) | fail)); all_goals try clear X1 X2))
  (have X1 := @encn_len; have X2 := @GV.enc.eq_1; ((apply ar_fcall rfl ok_28); (focus exact eva); (focus exact l5CopyL_ok l hl hf (idxI l (fun n => n.id == id)).toNat _); (focus rfl); (focus rfl)); all_goals try clear X1 X2)
  rintro _ H2 ⟨b, cap, live, rfl, k1, k2, k3, k4, k5⟩
  have k1' : 1 ≤ b := k1
  have q2 : H2.at 0 = Blk.row 5 [[.int .i64 vk, .int .i64 vn, .str vt, .fsl 5 (encs vl), .fsl 1 (strs vns)]] := k3 0 (by simp)
  have hsame : set5 l id s ⟨vk, vn, vt, vl, vns⟩ = (l, false) → ∀ H3 : Heap, H3.at b = H2.at b → ((idxI l (fun n => n.id == id)).toNat < l.length → LiveNd 1 H3 (l.getD (idxI l (fun n => n.id == id)).toNat default) live) → NLv H3 (aresV [.row b 0 l.length cap 7, .bool false]) (set5 l id s ⟨vk, vn, vt, vl, vns⟩) := fun hset H3 h31 h32 =>
    ⟨b, cap, (idxI l (fun n => n.id == id)).toNat, live, l.getD (idxI l (fun n => n.id == id)).toNat default, false, l, rfl, by rw [hset, set_self], h31.trans k4, fun h S hS => liveNd_borS (h32 h) hS⟩
  obtain ⟨K, hK⟩ : ∃ K, idxI l (fun n => n.id == id) = K := ⟨_, rfl⟩
  (all_goals (have X1 := @encn_len; have X2 := @q2; (repeat' (first | refine gg ?_ | (refine gd ?_ ?_ <;> (intro hcond; try (exfalso; omega))) | (refine gc ?_ ?_ <;> intro hcs) | fail)); all_goals try clear X1 X2))
  (have X1 := @encn_len; have X2 := @q2; ((apply ar_call rfl ok_86); (focus exact eva); (focus exact l5At_ok l id hl hf); (focus rfl); (focus rfl)); all_goals try clear X1 X2)
  rw [hK] at k4 k5 hsame ⊢
  (all_goals (have X1 := @encn_len; have X2 := @q2; (repeat' (first | refine gg ?_ | (refine gd ?_ ?_ <;> (intro hcond; try (exfalso; omega))) | (refine gc ?_ ?_ <;> intro hcs) | fail)); all_goals try clear X1 X2))
  · refine hsame ?_ H2 rfl k5
    unfold set5; rw [if_pos (.inl (by rw [hK]; exact hcs))]
  (have X1 := @encn_len; have X2 := @q2; ((apply ar_call rfl ok_60); (focus exact eva); (focus exact l1Name_ok s hs); (focus rfl); (focus rfl)); all_goals try clear X1 X2)
  (all_goals (have X1 := @encn_len; have X2 := @q2; (repeat' (first | refine gg ?_ | (refine gd ?_ ?_ <;> (intro hcond; try (exfalso; omega))) | (refine gc ?_ ?_ <;> intro hcs) | fail)); all_goals try clear X1 X2))
  · refine hsame ?_ H2 rfl k5
    unfold set5; rw [if_pos (.inr (.inl (by simpa using hcs)))]
  have hnm : nameOK s = true := by simpa using hcs
  (have X1 := @encn_len; have X2 := @q2; ((apply ar_call rfl ok_61); (focus exact eva); (focus exact l1Ok_ok false 3 ⟨vk, vn, vt, vl, vns⟩ (by omega) hv); (focus rfl); (focus rfl)); all_goals try clear X1 X2)
  (all_goals (have X1 := @encn_len; have X2 := @q2; (repeat' (first | refine gg ?_ | (refine gd ?_ ?_ <;> (intro hcond; try (exfalso; omega))) | (refine gc ?_ ?_ <;> intro hcs) | fail)); all_goals try clear X1 X2))
  · refine hsame ?_ H2 rfl k5
    unfold set5; rw [if_pos (.inr (.inr (by simpa using hcs)))]
  have hov : okV false 3 ⟨vk, vn, vt, vl, vns⟩ = true := by simpa using hcs
  rcases idxI_cases l (fun n => n.id == id) default with ⟨e1, _⟩ | ⟨i, e1, e2, _⟩
  · rw [hK] at e1; omega
  rw [hK] at e1
  subst e1
  rw [Int.toNat_natCast] at k4 k5 hsame
  obtain ⟨u, hu⟩ : ∃ u, l.getD i default = u := ⟨_, rfl⟩
  have huf : u.fits := hu ▸ hf _ (mem_getD e2)
  have hlen := hlens _ (mem_getD (d := default) e2)
  rw [hu] at hlen k5 hsame
  have hset0 : set5 l id s ⟨vk, vn, vt, vl, vns⟩ = if 0 ≤ idxI u.cells.ns (fun x => s == x) then (l.set i (setCell u (idxI u.cells.ns (fun x => s == x)).toNat ⟨vk, vn, vt, vl, vns⟩), true)
      else if 12 ≤ u.cells.ns.length then (l, false) else (l.set i (addCell u s ⟨vk, vn, vt, vl, vns⟩), true) := by
    unfold set5
    rw [if_neg, hK, Int.toNat_natCast, hu]
    rintro (h | h | h)
    · rw [hK] at h; omega
    · rw [hnm] at h; cases h
    · rw [hov] at h; cases h
  obtain ⟨uid, uty, ⟨uk, un, ut, ul, uns⟩⟩ := u
  have hlen : uns.length ≤ ul.length := hlen
  obtain ⟨g1, g2, f1, f2, f3, f4, f5, f6, f7⟩ := huf
  obtain ⟨aL, aN, rfl, hL, hN⟩ := k5 e2
  have hL : LiveH 1 H2 5 (encs ul) aL := hL
  have hN : LiveH 1 H2 1 (strs uns) aN := hN
  have k4 : H2.at b = .row 7 ((encn l).set i [.int .i64 uid, .str uty, .int .i64 uk, .int .i64 un, .str ut, aL, aN]) := k4
  have hgv : ((encn l).set i [.int .i64 uid, .str uty, .int .i64 uk, .int .i64 un, .str ut, aL, aN]).getD i [] = [.int .i64 uid, .str uty, .int .i64 uk, .int .i64 un, .str ut, aL, aN] := by
    simp [List.getD_eq_getElem?_getD, encn_len, e2]
  have hcL : aL.isCell = true := by rcases hL with ⟨_, rfl⟩ | ⟨_, c, cap, rfl, _, _⟩ <;> rfl
  have hcN : aN.isCell = true := by rcases hN with ⟨_, rfl⟩ | ⟨_, c, cap, rfl, _, _⟩ <;> rfl
  have hsL := solid_of_cell hcL
  have hsN := solid_of_cell hcN
  have hclL := cells_of_cell hcL
  have hclN := cells_of_cell hcN
  (all_goals (have X1 := @encn_len; have X2 := @q2; have X3 := @k4; have X4 := @hgv; have X5 := @hcL; have X6 := @hcN; have X7 := @hsL; have X8 := @hsN; have X9 := @hclL; have X10 := @hclN; have X11 := @Int.toNat_natCast; (repeat' (first | refine gg ?_ | (refine gd ?_ ?_ <;> (intro hcond; try (exfalso; omega))) | (refine gc ?_ ?_ <;> intro hcs) | fail)); all_goals try clear X1 X2 X3 X4 X5 X6 X7 X8 X9 X10 X11))
  obtain ⟨G, hG⟩ : ∃ G, H2 ++ [Blk.row 5 [[.int .i64 uk, .int .i64 un, .str ut, aL, aN]]] = G := ⟨_, rfl⟩
  have hGo : ∀ q, q < H2.length → G.at q = H2.at q := fun q hq => by rw [← hG]; exact Heap.at_old _ _ hq
  have hGl : G.length = H2.length + 1 := by rw [← hG]; simp
  have x0 := (hGo 0 (by omega)).trans q2
  have xb := (hGo b k2).trans k4
  have x12 : G.at H2.length = .row 5 [[.int .i64 uk, .int .i64 un, .str ut, aL, aN]] := by rw [← hG]; exact Heap.at_app _ _ 0
  have hLg : (encs ul = [] ∧ aL = .nsl 5) ∨ (encs ul ≠ [] ∧ ∃ i cap, aL = .row i 0 (encs ul).length cap 5 ∧ G.at i = .row 5 (encs ul) ∧ (1 ≤ i ∧ i < H2.length)) := by
    rcases hL with h | ⟨h1, q, cq, h2, h3, h4⟩
    · exact .inl h
    · exact .inr ⟨h1, q, cq, h2, (hGo q (at_lt (by rw [h3]; simp))).trans h3, h4, at_lt (by rw [h3]; simp)⟩
  have hNg : LiveH 1 G 1 (strs uns) aN := hN.mono fun q hq => (hGo q (at_lt (by rw [hq]; simp))).trans hq
  rw [hG]
  refine aw_loopn (fun kk env H1 => ∃ i' : Nat, i' ≤ uns.length ∧ kk = uns.length - i' ∧ (∀ j, j < i' → (s == uns.getD j []) = false) ∧ env = [(2, .str s), (7, .ptr 0 0 0), (10, .row b 0 l.length cap 7), (11, .int .i64 i), (12, .ptr H2.length 0 0), (13, .int .i64 i')] ∧ H1 = G) uns.length
    [(2, .str s), (7, .ptr 0 0 0), (10, .row b 0 l.length cap 7), (11, .int .i64 i), (12, .ptr H2.length 0 0), (13, .int .i64 0)] _ sb (heapW_refl _) rfl ⟨0, Nat.zero_le _, rfl, fun j hj => by omega, rfl, rfl⟩ ?_
  rintro kk env H1 ⟨p, hp, rfl, hinv, rfl, hH1⟩
  rw [hH1]
  by_cases hlt : p < uns.length
  · have hpl2 : p < ul.length := by omega
    rcases hNg with ⟨hn, _⟩ | ⟨hne', d, capN, rfl, hd, hdn⟩
    · have := congrArg List.length hn; rw [strs_len, List.length_nil] at this; omega
    rcases hLg with ⟨hn, _⟩ | ⟨hne, c, capL, rfl, hc, hcn⟩
    · have := congrArg List.length hn; rw [encs_len, List.length_nil] at this; omega
    rw [encs_len, strs_len] at x12 xb
    have hgs : (strs uns).getD p [] = [.str (uns.getD p [])] := strs_get hlt
    obtain ⟨⟨pk, pn, pt, pl, pns⟩, hpv⟩ : ∃ x, ul.getD p default = x := ⟨_, rfl⟩
    have hgp : (encs ul).getD p [] = [.int .i64 pk, .int .i64 pn, .str pt, .fsl 5 (encs pl), .fsl 1 (strs pns)] := by rw [encs_get hpl2, hpv]; rfl
    (all_goals (have X1 := @GV.enc.eq_1; have X2 := @encn_len; have X3 := @encs_len; have X4 := @strs_len; have X5 := @x0; have X6 := @x12; have X7 := @hd; have X8 := @hgs; have X9 := @Int.toNat_natCast; (repeat' (first | refine gg ?_ | (refine gd ?_ ?_ <;> (intro hcond; try (exfalso; omega))) | (refine gc ?_ ?_ <;> intro hcs) | fail)); all_goals try clear X1 X2 X3 X4 X5 X6 X7 X8 X9))
    · have e1 : idxI uns (fun x => s == x) = p := idxI_found (d := []) hlt (by rw [beqL_comm]; exact hcs) hinv
      have hset : set5 l id s ⟨vk, vn, vt, vl, vns⟩ = (l.set i (setCell ⟨uid, uty, ⟨uk, un, ut, ul, uns⟩⟩ p ⟨vk, vn, vt, vl, vns⟩), true) := by
        rw [hset0]
        have e1' : idxI (GN.mk uid uty ⟨uk, un, ut, ul, uns⟩).cells.ns (fun x => s == x) = p := e1
        rw [e1', if_pos (Int.natCast_nonneg p)]; rfl
      rw [hset]
      (have X1 := @GV.enc.eq_1; have X2 := @encn_len; have X3 := @encs_len; have X4 := @x0; have X5 := @hc; have X6 := @hgp; have X7 := @Int.toNat_natCast; ((apply ard_call rfl ok_67); (focus exact eva); (focus exact l1Copy_all _ ⟨vk, vn, vt, vl, vns⟩ (Nat.lt_succ_self _) hv); (focus rfl); (focus rfl)); all_goals try clear X1 X2 X3 X4 X5 X6 X7)
      (all_goals (have X1 := @GV.enc.eq_1; have X2 := @encn_len; have X3 := @encs_len; have X4 := @x0; have X5 := @hc; have X6 := @hgp; have X7 := @Int.toNat_natCast; (repeat' (first | refine gg ?_ | (refine gd ?_ ?_ <;> (intro hcond; try (exfalso; omega))) | (refine gc ?_ ?_ <;> intro hcs) | fail)); all_goals try clear X1 X2 X3 X4 X5 X6 X7))
      have hcb : c ≠ b := fun e => by rw [e, xb] at hc; cases hc
      have hne2 : ∀ x q, q ≠ c → (G.put c x).at q = G.at q := fun x q h => Heap.at_put_ne _ _ _ _ h
      refine ⟨b, cap, i, _, setCell ⟨uid, uty, ⟨uk, un, ut, ul, uns⟩⟩ p ⟨vk, vn, vt, vl, vns⟩, true, l, rfl, rfl, (hne2 _ _ (fun e => hcb e.symm)).trans xb, fun _ S hS => liveNd_borS (n := 0) (hS := hS) (u := setCell ⟨uid, uty, ⟨uk, un, ut, ul, uns⟩⟩ p ⟨vk, vn, vt, vl, vns⟩) ⟨.row c 0 ul.length capL 5, .row d 0 uns.length capN 1, rfl, .inr ⟨?_, c, capL, ?_, ?_, by omega⟩, .inr ⟨hne', d, capN, ?_, ?_, by omega⟩⟩⟩
      · intro h8
        have h8 := congrArg List.length h8
        rw [encs_len, List.length_nil] at h8
        have h8 : (ul.set p ⟨vk, vn, vt, vl, vns⟩).length = 0 := h8
        rw [List.length_set] at h8; omega
      · show AV.row c 0 ul.length capL 5 = AV.row c 0 (encs (ul.set p ⟨vk, vn, vt, vl, vns⟩)).length capL 5; rw [encs_len, List.length_set]
      · rw [Heap.at_put_same]; show _ = Blk.row 5 (encs (ul.set p ⟨vk, vn, vt, vl, vns⟩)); rw [encs_eq (ul.set _ _), List.map_set, ← encs_eq]; rfl
      · show AV.row d 0 uns.length capN 1 = AV.row d 0 (strs uns).length capN 1; rw [strs_len]
      · exact (hne2 _ _ (fun e => by rw [e, hc] at hd; cases hd)).trans hd
    · exact anextn [(2, .str s), (7, .ptr 0 0 0), (10, .row b 0 l.length cap 7), (11, .int .i64 i), (12, .ptr H2.length 0 0), (13, .int .i64 ((p + 1 : Nat) : Int))] _ (k' := uns.length - (p + 1)) (by omega) (Nat.le_refl _) sb (heapW_refl _) rfl ⟨p + 1, by omega, rfl, snoc_all hinv (by rw [beqL_comm]; exact hcs), rfl, rfl⟩
  · have : p = uns.length := by omega
    subst this
    have hix : idxI uns (fun x => s == x) = -1 := idxI_none (d := []) hinv
    rcases hLg with ⟨hn, rfl⟩ | ⟨hne, c, capL, rfl, hc, hcn⟩ <;> rcases hNg with ⟨hn', rfl⟩ | ⟨hne', d, capN, rfl, hd, hdn⟩
    · have hul : ul = [] := List.eq_nil_of_length_eq_zero (by rw [← encs_len, hn]; rfl)
      have hun : uns = [] := List.eq_nil_of_length_eq_zero (by rw [hul] at hlen; simpa using hlen)
      subst hul; subst hun
      have k2' : b < G.length := by omega
      have xb : G.at b = .row 7 ((encn l).set i [.int .i64 uid, .str uty, .int .i64 uk, .int .i64 un, .str ut, .nsl 5, .nsl 1]) := xb
      have x12 : G.at H2.length = .row 5 [[.int .i64 uk, .int .i64 un, .str ut, .nsl 5, .nsl 1]] := x12
      have hbn : H2.length ≠ b := by omega
      have p1 := fun L => (Heap.at_old G L k2').trans xb
      have p2 := fun L x => Heap.put_old G L b x k2'
      have p3 := fun x L => Heap.at_putA k2' x L
      have p4 : ∀ x L, Heap.at (G.put b x ++ L) 0 = _ := fun x L => ((Heap.at_old _ _ (by rw [Heap.put_length _ _ _ k2']; omega)).trans (Heap.at_put_ne _ _ _ _ (by omega))).trans x0
      have p5 := fun x y L => Heap.put_putA k2' x y L
      have p6 := fun (y : List AV) => getD_set_eq (l := encn l) (i := i) (y := y) (d := []) (by rw [encn_len]; exact e2)
      have p7 := fun x L i => Heap.at_putB k2' x L i
      have p8 := fun x L => Heap.at_putB0 k2' x L
      have p9 := fun x y L i => Heap.put_putB k2' x y L i
      have p10 := fun x => Heap.put_length G b x k2'
      have p11 : ∀ x L, Heap.at (G.put b x ++ L) H2.length = _ := fun x L => ((Heap.at_old _ _ (by rw [Heap.put_length _ _ _ k2']; omega)).trans (Heap.at_put_ne _ _ _ _ hbn)).trans x12
      have hgs : ∀ y, ((encn l).set i [.int .i64 uid, .str uty, .int .i64 uk, .int .i64 un, .str ut, .nsl 5, .nsl 1]).set i y = (encn l).set i y := fun y => List.set_set ..
      (all_goals (have X1 := @GV.enc.eq_1; have X2 := @encn_len; have X3 := @x0; have X4 := @x12; have X5 := @hgv; have X6 := @hgs; have X7 := @p1; have X8 := @p2; have X9 := @p3; have X10 := @p4; have X11 := @p5; have X12 := @p6; have X13 := @p7; have X14 := @p8; have X15 := @p9; have X16 := @p10; have X17 := @p11; (repeat' (first | refine gg ?_ | (refine gd ?_ ?_ <;> (intro hcond; try (exfalso; omega))) | (refine gc ?_ ?_ <;> intro hcs) | fail)); all_goals try clear X1 X2 X3 X4 X5 X6 X7 X8 X9 X10 X11 X12 X13 X14 X15 X16 X17))
      (have X1 := @GV.enc.eq_1; have X2 := @encn_len; have X3 := @x0; have X4 := @x12; have X5 := @hgv; have X6 := @hgs; have X7 := @p1; have X8 := @p2; have X9 := @p3; have X10 := @p4; have X11 := @p5; have X12 := @p6; have X13 := @p7; have X14 := @p8; have X15 := @p9; have X16 := @p10; have X17 := @p11; ((apply ard_call rfl ok_67); (focus exact eva); (focus exact l1Copy_all _ ⟨vk, vn, vt, vl, vns⟩ (Nat.lt_succ_self _) hv); (focus rfl); (focus rfl)); all_goals try clear X1 X2 X3 X4 X5 X6 X7 X8 X9 X10 X11 X12 X13 X14 X15 X16 X17)
      (all_goals (have X1 := @GV.enc.eq_1; have X2 := @encn_len; have X3 := @x0; have X4 := @x12; have X5 := @hgv; have X6 := @hgs; have X7 := @p1; have X8 := @p2; have X9 := @p3; have X10 := @p4; have X11 := @p5; have X12 := @p6; have X13 := @p7; have X14 := @p8; have X15 := @p9; have X16 := @p10; have X17 := @p11; (repeat' (first | refine gg ?_ | (refine gd ?_ ?_ <;> (intro hcond; try (exfalso; omega))) | (refine gc ?_ ?_ <;> intro hcs) | fail)); all_goals try clear X1 X2 X3 X4 X5 X6 X7 X8 X9 X10 X11 X12 X13 X14 X15 X16 X17))
      refine ard_done_of [(0, 1), (0, 2), (0, 3), (0, 4), (0, 5), (0, 6), (0, 7), (1, 2), (1, 3), (1, 4), (1, 5), (1, 6), (1, 7), (2, 4), (2, 5), (2, 6), (3, 4), (3, 5), (3, 6)] rfl rfl rfl rfl ?_ ?_
      · refine ep ?_; try exact trivial
        have o2 : b ≠ G.length := by omega
        have o3 : b ≠ G.length + 1 := by omega
        have o4 : b ≠ G.length + 2 := by omega
        have o5 : b ≠ G.length + 3 := by omega
        have o6 : G.length ≠ 0 := by omega
        repeat' apply And.intro
        all_goals first | (simp; done) | (simp; omega) | (simp [o2, o3, o4, o5, o6, o2.symm, o3.symm, o4.symm, o5.symm]; done) | (simp [o2, o3, o4, o5, o6, o2.symm, o3.symm, o4.symm, o5.symm]; omega) | skip
      (all_goals (have X1 := @GV.enc.eq_1; have X2 := @encn_len; have X3 := @x0; have X4 := @x12; have X5 := @hgv; have X6 := @hgs; have X7 := @p1; have X8 := @p2; have X9 := @p3; have X10 := @p4; have X11 := @p5; have X12 := @p6; have X13 := @p7; have X14 := @p8; have X15 := @p9; have X16 := @p10; have X17 := @p11; (repeat' (first | refine gg ?_ | (refine gd ?_ ?_ <;> (intro hcond; try (exfalso; omega))) | (refine gc ?_ ?_ <;> intro hcs) | fail)); all_goals try clear X1 X2 X3 X4 X5 X6 X7 X8 X9 X10 X11 X12 X13 X14 X15 X16 X17))
      have hset : set5 l id s ⟨vk, vn, vt, vl, vns⟩ = (l.set i (addCell ⟨uid, uty, ⟨uk, un, ut, [], []⟩⟩ s ⟨vk, vn, vt, vl, vns⟩), true) := by
        rw [hset0]
        rw [if_neg (by show ¬ 0 ≤ idxI ([] : List (List UInt8)) (fun x => s == x); simp [idxI]), if_neg (by show ¬ 12 ≤ 0; omega)]
      rw [hset, List.set_set]
      exact ⟨b, cap, i, _, addCell ⟨uid, uty, ⟨uk, un, ut, [], []⟩⟩ s ⟨vk, vn, vt, vl, vns⟩, true, l, rfl, rfl, p3 _ _, fun _ S hS => ⟨bor_frz rfl, bor_frz rfl, bor_frz rfl, bor_frz rfl, bor_frz rfl, bor_frz rfl, bor_frz rfl, trivial⟩⟩
    · exfalso
      have h8 := congrArg List.length hn
      rw [encs_len, List.length_nil] at h8
      exact hne' (List.eq_nil_of_length_eq_zero (by rw [strs_len]; omega))
    · have hun : uns = [] := List.eq_nil_of_length_eq_zero (by rw [← strs_len, hn']; rfl)
      subst hun
      rw [encs_len] at x12 xb
      have k2' : b < G.length := by omega
      have hcl : c < G.length := at_lt (by rw [hc]; simp)
      have hcb : c ≠ b := fun e => by rw [e, xb] at hc; cases hc
      have hbn : H2.length ≠ b := by omega
      have xb : G.at b = .row 7 ((encn l).set i [.int .i64 uid, .str uty, .int .i64 uk, .int .i64 un, .str ut, .row c 0 ul.length capL 5, .nsl 1]) := xb
      have x12 : G.at H2.length = .row 5 [[.int .i64 uk, .int .i64 un, .str ut, .row c 0 ul.length capL 5, .nsl 1]] := x12
      have p1 := fun L => (Heap.at_old G L k2').trans xb
      have p2 := fun L x => Heap.put_old G L b x k2'
      have p3 := fun x L => Heap.at_putA k2' x L
      have p4 : ∀ x L, Heap.at (G.put b x ++ L) 0 = _ := fun x L => ((Heap.at_old _ _ (by rw [Heap.put_length _ _ _ k2']; omega)).trans (Heap.at_put_ne _ _ _ _ (by omega))).trans x0
      have p5 := fun x y L => Heap.put_putA k2' x y L
      have p6 := fun (y : List AV) => getD_set_eq (l := encn l) (i := i) (y := y) (d := []) (by rw [encn_len]; exact e2)
      have p7 := fun x L i => Heap.at_putB k2' x L i
      have p8 := fun x L => Heap.at_putB0 k2' x L
      have p9 := fun x y L i => Heap.put_putB k2' x y L i
      have p10 := fun x => Heap.put_length G b x k2'
      have p11 : ∀ x L, Heap.at (G.put b x ++ L) H2.length = _ := fun x L => ((Heap.at_old _ _ (by rw [Heap.put_length _ _ _ k2']; omega)).trans (Heap.at_put_ne _ _ _ _ hbn)).trans x12
      have hgs : ∀ y, ((encn l).set i [.int .i64 uid, .str uty, .int .i64 uk, .int .i64 un, .str ut, .row c 0 ul.length capL 5, .nsl 1]).set i y = (encn l).set i y := fun y => List.set_set ..
      (all_goals (have X1 := @GV.enc.eq_1; have X2 := @encn_len; have X3 := @encs_len; have X4 := @x0; have X5 := @x12; have X6 := @hgv; have X7 := @hgs; have X8 := @p1; have X9 := @p2; have X10 := @p3; have X11 := @p4; have X12 := @p5; have X13 := @p6; have X14 := @p7; have X15 := @p8; have X16 := @p9; have X17 := @p10; have X18 := @p11; (repeat' (first | refine gg ?_ | (refine gd ?_ ?_ <;> (intro hcond; try (exfalso; omega))) | (refine gc ?_ ?_ <;> intro hcs) | fail)); all_goals try clear X1 X2 X3 X4 X5 X6 X7 X8 X9 X10 X11 X12 X13 X14 X15 X16 X17 X18))
      (have X1 := @GV.enc.eq_1; have X2 := @encn_len; have X3 := @encs_len; have X4 := @x0; have X5 := @x12; have X6 := @hgv; have X7 := @hgs; have X8 := @p1; have X9 := @p2; have X10 := @p3; have X11 := @p4; have X12 := @p5; have X13 := @p6; have X14 := @p7; have X15 := @p8; have X16 := @p9; have X17 := @p10; have X18 := @p11; ((apply ard_call rfl ok_67); (focus exact eva); (focus exact l1Copy_all _ ⟨vk, vn, vt, vl, vns⟩ (Nat.lt_succ_self _) hv); (focus rfl); (focus rfl)); all_goals try clear X1 X2 X3 X4 X5 X6 X7 X8 X9 X10 X11 X12 X13 X14 X15 X16 X17 X18)
      have x1 : Heap.at (G.put b (Blk.row 7 ((encn l).set i [.int .i64 uid, .str uty, .int .i64 uk, .int .i64 un, .str ut, .row c 0 ul.length capL 5, .asl (G.length + 1) 1 1 [[.str s]]])) ++ [Blk.tok 1, Blk.tok 1]) c = _ := ((Heap.at_old _ _ (by rw [p10]; exact hcl)).trans (Heap.at_put_ne _ _ _ _ hcb)).trans hc
      have x2 := p3 (Blk.row 7 ((encn l).set i [.int .i64 uid, .str uty, .int .i64 uk, .int .i64 un, .str ut, .row c 0 ul.length capL 5, .asl (G.length + 1) 1 1 [[.str s]]])) [Blk.tok 1, Blk.tok 1]
      have x4 : (G.put b (Blk.row 7 ((encn l).set i [.int .i64 uid, .str uty, .int .i64 uk, .int .i64 un, .str ut, .row c 0 ul.length capL 5, .asl (G.length + 1) 1 1 [[.str s]]])) ++ [Blk.tok 1, Blk.tok 1]).length = G.length + 2 := by rw [List.length_append, p10]; rfl
      generalize (G.put b (Blk.row 7 ((encn l).set i [.int .i64 uid, .str uty, .int .i64 uk, .int .i64 un, .str ut, .row c 0 ul.length capL 5, .asl (G.length + 1) 1 1 [[.str s]]])) ++ [Blk.tok 1, Blk.tok 1]) = M2 at *
      have hcl2 : c < M2.length := by omega
      (have X1 := @GV.enc.eq_1; (refine ga ?_); all_goals try clear X1)
      refine ard_sem (v := .row (M2.length + 1) 0 (ul.length + 1) none 5) (wr := [(c, .dead), (M2.length + 1, .row 5 (encs ul ++ [[.int .i64 vk, .int .i64 vn, .str vt, .fsl 5 (encs vl), .fsl 1 (strs vns)]]))]) (log := [c]) (H' := M2.put c .dead ++ [.tok 1, .row 5 (encs ul ++ [[.int .i64 vk, .int .i64 vn, .str vt, .fsl 5 (encs vl), .fsl 1 (strs vns)]])]) (sem_app_move T_ok (n := M2.length + 1) (d := D44) (de := D5) (s1 := 0) (s2 := 0) (b := c) (len := ul.length) (es := encs ul) rfl rfl rfl rfl rfl rfl rfl rfl ((Heap.at_old _ _ hcl2).trans x1) (encs_len _) rfl rfl rfl (by simp) (by simp) (by simp [Len] at f4 ⊢; omega) (by omega) (by simp)) (by simp [okIdsB, Nat.ble_eq]) rfl (puts_move hcl2 _ _) ?_
      have w1 := fun q (hq : q < M2.length) (hqd : q ≠ c) => (Heap.at_old (M2.put c .dead) [Blk.tok 1, Blk.row 5 (encs ul ++ [[.int .i64 vk, .int .i64 vn, .str vt, .fsl 5 (encs vl), .fsl 1 (strs vns)]])] (by rw [Heap.put_length _ _ _ hcl2]; exact hq)).trans (Heap.at_put_ne M2 c q .dead hqd)
      have w2 : Heap.at (M2.put c .dead ++ [Blk.tok 1, Blk.row 5 (encs ul ++ [[.int .i64 vk, .int .i64 vn, .str vt, .fsl 5 (encs vl), .fsl 1 (strs vns)]])]) (M2.length + 1) = .row 5 (encs ul ++ [[.int .i64 vk, .int .i64 vn, .str vt, .fsl 5 (encs vl), .fsl 1 (strs vns)]]) := Heap.at_putB hcl2 _ _ 1
      have w3 : (M2.put c .dead ++ [Blk.tok 1, Blk.row 5 (encs ul ++ [[.int .i64 vk, .int .i64 vn, .str vt, .fsl 5 (encs vl), .fsl 1 (strs vns)]])]).length = M2.length + 2 := by rw [List.length_append, Heap.put_length _ _ _ hcl2]; rfl
      generalize (M2.put c .dead ++ [Blk.tok 1, Blk.row 5 (encs ul ++ [[.int .i64 vk, .int .i64 vn, .str vt, .fsl 5 (encs vl), .fsl 1 (strs vns)]])]) = M3 at *
      have v1 := (w1 b (by omega) hcb.symm).trans x2
      (all_goals (have X1 := @GV.enc.eq_1; have X2 := @encn_len; have X3 := @encs_len; have X4 := @v1; have X5 := @hgv; have X6 := @p6; have X7 := @Int.toNat_natCast; (repeat' (first | refine gg ?_ | (refine gd ?_ ?_ <;> (intro hcond; try (exfalso; omega))) | (refine gc ?_ ?_ <;> intro hcs) | fail)); all_goals try clear X1 X2 X3 X4 X5 X6 X7))
      refine ard_done_of [(0, 1), (0, 2), (0, 3), (0, 4), (0, 5), (0, 6), (0, 7), (1, 2), (1, 3), (1, 4), (1, 5), (1, 6), (1, 7), (2, 4), (2, 5), (2, 6), (3, 4), (3, 5), (3, 6)] rfl rfl rfl rfl ?_ ?_
      · refine ep ?_; try exact trivial
        have o1 : c ≠ M2.length + 1 := by omega
        have o2 : b ≠ M2.length + 1 := by omega
        have o3 : b ≠ M2.length := by omega
        have o4 : c ≠ M2.length := by omega
        have o5 : M2.length ≠ 0 := by omega
        have o6 : H2.length ≠ M2.length := by omega
        have o7 : H2.length ≠ M2.length + 1 := by omega
        have o8 : H2.length ≠ c := by omega
        have o9 : H2.length ≠ b := by omega
        have o10 : c ≠ 0 := by omega
        repeat' apply And.intro
        all_goals first | (simp; done) | (simp; omega) | (simp [o1, o2, o3, o4, o5, o6, o7, o8, o9, o10, o1.symm, o2.symm, o3.symm, o4.symm, o5.symm, o6.symm, o7.symm, o8.symm, o9.symm, hcb, hcb.symm]; done) | (simp [o1, o2, o3, o4, o5, o6, o7, o8, o9, o10, hcb, hcb.symm]; omega) | skip
      (all_goals (have X1 := @GV.enc.eq_1; have X2 := @encn_len; have X3 := @encs_len; have X4 := @v1; have X5 := @hgv; have X6 := @p6; have X7 := @Int.toNat_natCast; (repeat' (first | refine gg ?_ | (refine gd ?_ ?_ <;> (intro hcond; try (exfalso; omega))) | (refine gc ?_ ?_ <;> intro hcs) | fail)); all_goals try clear X1 X2 X3 X4 X5 X6 X7))
      have hset : set5 l id s ⟨vk, vn, vt, vl, vns⟩ = (l.set i (addCell ⟨uid, uty, ⟨uk, un, ut, ul, []⟩⟩ s ⟨vk, vn, vt, vl, vns⟩), true) := by
        rw [hset0]
        rw [if_neg (by show ¬ 0 ≤ idxI ([] : List (List UInt8)) (fun x => s == x); simp [idxI]), if_neg (by show ¬ 12 ≤ 0; omega)]
      rw [hset, List.set_set]
      have h5w := Heap.at_put_ne M3 b (M2.length + 1) (Blk.row 7 ((encn l).set i [.int .i64 uid, .str uty, .int .i64 uk, .int .i64 un, .str ut, .row (M2.length + 1) 0 (ul.length + 1) none 5, .asl (G.length + 1) 1 1 [[.str s]]])) (by omega)
      refine ⟨b, cap, i, _, addCell ⟨uid, uty, ⟨uk, un, ut, ul, []⟩⟩ s ⟨vk, vn, vt, vl, vns⟩, true, l, rfl, rfl, Heap.at_put_same _ _ _, fun _ S hS => ⟨bor_frz rfl, bor_frz rfl, bor_frz rfl, bor_frz rfl, bor_frz rfl, ?_, bor_frz rfl, trivial⟩⟩
      show Bor _ S (.row (M2.length + 1) 0 (ul.length + 1) none 5) (.fsl 5 (encs (ul ++ [⟨vk, vn, vt, vl, vns⟩])))
      have hea : encs (ul ++ [⟨vk, vn, vt, vl, vns⟩]) = encs ul ++ [[.int .i64 vk, .int .i64 vn, .str vt, .fsl 5 (encs vl), .fsl 1 (strs vns)]] := by rw [encs_eq (ul ++ _), List.map_append, ← encs_eq]; rfl
      have := bor_rowf (S := S) (cap := none) (hS (M2.length + 1) 5 _ (h5w.trans w2) (by decide)) (h5w.trans w2) (by rw [← hea]; exact encs_all5 _) (by rw [← hea]; exact encs_frzm _)
      rw [← hea, encs_len, List.length_append] at this
      exact this
    · rw [encs_len, strs_len] at x12 xb
      have k2' : b < G.length := by omega
      have hdl : d < G.length := at_lt (by rw [hd]; simp)
      have hcl : c < G.length := at_lt (by rw [hc]; simp)
      have hcb : c ≠ b := fun e => by rw [e, xb] at hc; cases hc
      have hdb : d ≠ b := fun e => by rw [e, xb] at hd; cases hd
      have hcd : c ≠ d := fun e => by rw [e, hd] at hc; cases hc
      (all_goals (have X1 := @GV.enc.eq_1; have X2 := @encn_len; have X3 := @encs_len; have X4 := @strs_len; have X5 := @x0; have X6 := @x12; have X7 := @hd; have X8 := @Int.toNat_natCast; (repeat' (first | refine gg ?_ | (refine gd ?_ ?_ <;> (intro hcond; try (exfalso; omega))) | (refine gc ?_ ?_ <;> intro hcs) | fail)); all_goals try clear X1 X2 X3 X4 X5 X6 X7 X8))
      · refine hsame ?_ G (hGo b k2) fun _ => ⟨_, _, rfl, .inr ⟨hne, c, capL, ?_, hc, hcn.1⟩, .inr ⟨hne', d, capN, ?_, hd, hdn⟩⟩
        · rw [hset0]
          have e1' : idxI (GN.mk uid uty ⟨uk, un, ut, ul, uns⟩).cells.ns (fun x => s == x) = idxI uns (fun x => s == x) := rfl
          rw [e1', hix, if_neg (by decide), if_pos (by show 12 ≤ uns.length; omega)]
        · rfl
        · rfl
      refine ar_sem (v := .row (G.length + 1) 0 (uns.length + 1) none 1) (wr := [(d, .dead), (G.length + 1, .row 1 (strs uns ++ [[.str s]]))]) (log := [d]) (H' := G.put d .dead ++ [.tok 1, .row 1 (strs uns ++ [[.str s]])]) (sem_app_move T_ok (n := G.length + 1) (d := D45) (de := D9) (s1 := 0) (s2 := 0) (b := d) (len := uns.length) (es := strs uns) rfl rfl rfl rfl rfl rfl rfl rfl ((Heap.at_old _ _ hdl).trans hd) (strs_len _) rfl rfl rfl (by simp) (by simp) (by simp [Len] at f6 ⊢; omega) (by omega) (by simp)) (by simp [okIdsB, Nat.ble_eq]) rfl (puts_move hdl _ _) ?_
      have m1 := fun q (hq : q < G.length) (hqd : q ≠ d) => (Heap.at_old (G.put d .dead) [Blk.tok 1, Blk.row 1 (strs uns ++ [[.str s]])] (by rw [Heap.put_length _ _ _ hdl]; exact hq)).trans (Heap.at_put_ne G d q .dead hqd)
      have m2 : Heap.at (G.put d .dead ++ [Blk.tok 1, Blk.row 1 (strs uns ++ [[.str s]])]) (G.length + 1) = .row 1 (strs uns ++ [[.str s]]) := Heap.at_putB hdl _ _ 1
      have m3 : (G.put d .dead ++ [Blk.tok 1, Blk.row 1 (strs uns ++ [[.str s]])]).length = G.length + 2 := by rw [List.length_append, Heap.put_length _ _ _ hdl]; rfl
      generalize (G.put d .dead ++ [Blk.tok 1, Blk.row 1 (strs uns ++ [[.str s]])]) = M at *
      have mb := (m1 b k2' hdb.symm).trans xb
      have z0 : M.at 0 = _ := (m1 0 (by omega) (by omega)).trans x0
      have z12 : M.at H2.length = _ := (m1 H2.length (by omega) (fun e => by rw [← e, x12] at hd; cases hd)).trans x12
      have mc : M.at c = _ := (m1 c hcl hcd).trans hc
      have m5 : b < M.length := by omega
      have y1 := fun x => Heap.put_length M b x m5
      have y2 := fun x => (Heap.at_put_ne M b 0 x (by omega)).trans z0
      have y12 := fun x => (Heap.at_put_ne M b H2.length x (by omega)).trans z12
      have y3 := fun x => Heap.at_put_same M b x
      have p6 := fun (y : List AV) => getD_set_eq (l := encn l) (i := i) (y := y) (d := []) (by rw [encn_len]; exact e2)
      (all_goals (have X1 := @GV.enc.eq_1; have X2 := @encn_len; have X3 := @encs_len; have X4 := @strs_len; have X5 := @mb; have X6 := @y1; have X7 := @y2; have X8 := @y3; have X9 := @y12; have X10 := @hgv; have X11 := @p6; have X12 := @Int.toNat_natCast; have X13 := @List.set_set (List AV); (repeat' (first | refine gg ?_ | (refine gd ?_ ?_ <;> (intro hcond; try (exfalso; omega))) | (refine gc ?_ ?_ <;> intro hcs) | fail)); all_goals try clear X1 X2 X3 X4 X5 X6 X7 X8 X9 X10 X11 X12 X13))
      (have X1 := @GV.enc.eq_1; have X2 := @encn_len; have X3 := @encs_len; have X4 := @strs_len; have X5 := @mb; have X6 := @y1; have X7 := @y2; have X8 := @y3; have X9 := @y12; have X10 := @hgv; have X11 := @p6; have X12 := @Int.toNat_natCast; have X13 := @List.set_set (List AV); ((apply ard_call rfl ok_67); (focus exact eva); (focus exact l1Copy_all _ ⟨vk, vn, vt, vl, vns⟩ (Nat.lt_succ_self _) hv); (focus rfl); (focus rfl)); all_goals try clear X1 X2 X3 X4 X5 X6 X7 X8 X9 X10 X11 X12 X13)
      have x1 := (Heap.at_put_ne M b c (Blk.row 7 ((encn l).set i [.int .i64 uid, .str uty, .int .i64 uk, .int .i64 un, .str ut, .row c 0 ul.length capL 5, .row (G.length + 1) 0 (uns.length + 1) none 1])) hcb).trans mc
      have x2 := y3 (Blk.row 7 ((encn l).set i [.int .i64 uid, .str uty, .int .i64 uk, .int .i64 un, .str ut, .row c 0 ul.length capL 5, .row (G.length + 1) 0 (uns.length + 1) none 1]))
      have x3 := (Heap.at_put_ne M b (G.length + 1) (Blk.row 7 ((encn l).set i [.int .i64 uid, .str uty, .int .i64 uk, .int .i64 un, .str ut, .row c 0 ul.length capL 5, .row (G.length + 1) 0 (uns.length + 1) none 1])) (by omega)).trans m2
      have x4 := y1 (Blk.row 7 ((encn l).set i [.int .i64 uid, .str uty, .int .i64 uk, .int .i64 un, .str ut, .row c 0 ul.length capL 5, .row (G.length + 1) 0 (uns.length + 1) none 1]))
      generalize (M.put b (Blk.row 7 ((encn l).set i [.int .i64 uid, .str uty, .int .i64 uk, .int .i64 un, .str ut, .row c 0 ul.length capL 5, .row (G.length + 1) 0 (uns.length + 1) none 1]))) = M2 at *
      have hcl2 : c < M2.length := by omega
      (have X1 := @GV.enc.eq_1; (refine ga ?_); all_goals try clear X1)
      refine ard_sem (v := .row (M2.length + 1) 0 (ul.length + 1) none 5) (wr := [(c, .dead), (M2.length + 1, .row 5 (encs ul ++ [[.int .i64 vk, .int .i64 vn, .str vt, .fsl 5 (encs vl), .fsl 1 (strs vns)]]))]) (log := [c]) (H' := M2.put c .dead ++ [.tok 1, .row 5 (encs ul ++ [[.int .i64 vk, .int .i64 vn, .str vt, .fsl 5 (encs vl), .fsl 1 (strs vns)]])]) (sem_app_move T_ok (n := M2.length + 1) (d := D44) (de := D5) (s1 := 0) (s2 := 0) (b := c) (len := ul.length) (es := encs ul) rfl rfl rfl rfl rfl rfl rfl rfl ((Heap.at_old _ _ hcl2).trans x1) (encs_len _) rfl rfl rfl (by simp) (by simp) (by simp [Len] at f4 ⊢; omega) (by omega) (by simp)) (by simp [okIdsB, Nat.ble_eq]) rfl (puts_move hcl2 _ _) ?_
      have w1 := fun q (hq : q < M2.length) (hqd : q ≠ c) => (Heap.at_old (M2.put c .dead) [Blk.tok 1, Blk.row 5 (encs ul ++ [[.int .i64 vk, .int .i64 vn, .str vt, .fsl 5 (encs vl), .fsl 1 (strs vns)]])] (by rw [Heap.put_length _ _ _ hcl2]; exact hq)).trans (Heap.at_put_ne M2 c q .dead hqd)
      have w2 : Heap.at (M2.put c .dead ++ [Blk.tok 1, Blk.row 5 (encs ul ++ [[.int .i64 vk, .int .i64 vn, .str vt, .fsl 5 (encs vl), .fsl 1 (strs vns)]])]) (M2.length + 1) = .row 5 (encs ul ++ [[.int .i64 vk, .int .i64 vn, .str vt, .fsl 5 (encs vl), .fsl 1 (strs vns)]]) := Heap.at_putB hcl2 _ _ 1
      have w3 : (M2.put c .dead ++ [Blk.tok 1, Blk.row 5 (encs ul ++ [[.int .i64 vk, .int .i64 vn, .str vt, .fsl 5 (encs vl), .fsl 1 (strs vns)]])]).length = M2.length + 2 := by rw [List.length_append, Heap.put_length _ _ _ hcl2]; rfl
      generalize (M2.put c .dead ++ [Blk.tok 1, Blk.row 5 (encs ul ++ [[.int .i64 vk, .int .i64 vn, .str vt, .fsl 5 (encs vl), .fsl 1 (strs vns)]])]) = M3 at *
      have v1 := (w1 b (by omega) hcb.symm).trans x2
      have v2 := (w1 (G.length + 1) (by omega) (by omega)).trans x3
      (all_goals (have X1 := @GV.enc.eq_1; have X2 := @encn_len; have X3 := @encs_len; have X4 := @v1; have X5 := @hgv; have X6 := @p6; have X7 := @Int.toNat_natCast; (repeat' (first | refine gg ?_ | (refine gd ?_ ?_ <;> (intro hcond; try (exfalso; omega))) | (refine gc ?_ ?_ <;> intro hcs) | fail)); all_goals try clear X1 X2 X3 X4 X5 X6 X7))
      refine ard_done_of [(0, 1), (0, 2), (0, 3), (0, 4), (0, 5), (0, 6), (0, 7), (1, 2), (1, 3), (1, 4), (1, 5), (1, 6), (1, 7), (2, 4), (2, 5), (2, 6), (3, 4), (3, 5), (3, 6)] rfl rfl rfl rfl ?_ ?_
      · refine ep ?_; try exact trivial
        have o1 : c ≠ M2.length + 1 := by omega
        have o2 : b ≠ M2.length + 1 := by omega
        have o3 : b ≠ M2.length := by omega
        have o4 : c ≠ M2.length := by omega
        have o5 : M2.length ≠ 0 := by omega
        have o6 : H2.length ≠ M2.length := by omega
        have o7 : H2.length ≠ M2.length + 1 := by omega
        have o8 : H2.length ≠ c := by omega
        have o9 : H2.length ≠ b := by omega
        have o10 : c ≠ 0 := by omega
        repeat' apply And.intro
        all_goals first | (simp; done) | (simp; omega) | (simp [o1, o2, o3, o4, o5, o6, o7, o8, o9, o10, o1.symm, o2.symm, o3.symm, o4.symm, o5.symm, o6.symm, o7.symm, o8.symm, o9.symm, hcb, hcb.symm]; done) | (simp [o1, o2, o3, o4, o5, o6, o7, o8, o9, o10, hcb, hcb.symm]; omega) | skip
      (all_goals (have X1 := @GV.enc.eq_1; have X2 := @encn_len; have X3 := @encs_len; have X4 := @v1; have X5 := @hgv; have X6 := @p6; have X7 := @Int.toNat_natCast; (repeat' (first | refine gg ?_ | (refine gd ?_ ?_ <;> (intro hcond; try (exfalso; omega))) | (refine gc ?_ ?_ <;> intro hcs) | fail)); all_goals try clear X1 X2 X3 X4 X5 X6 X7))
      have hset : set5 l id s ⟨vk, vn, vt, vl, vns⟩ = (l.set i (addCell ⟨uid, uty, ⟨uk, un, ut, ul, uns⟩⟩ s ⟨vk, vn, vt, vl, vns⟩), true) := by
        rw [hset0]
        have e1' : idxI (GN.mk uid uty ⟨uk, un, ut, ul, uns⟩).cells.ns (fun x => s == x) = idxI uns (fun x => s == x) := rfl
        rw [e1', hix, if_neg (by decide), if_neg (by show ¬ 12 ≤ uns.length; omega)]
      rw [hset, List.set_set]
      refine ⟨b, cap, i, _, addCell ⟨uid, uty, ⟨uk, un, ut, ul, uns⟩⟩ s ⟨vk, vn, vt, vl, vns⟩, true, l, rfl, rfl, Heap.at_put_same _ _ _, fun _ S hS => liveNd_borS (n := 0) (hS := hS) (u := addCell ⟨uid, uty, ⟨uk, un, ut, ul, uns⟩⟩ s ⟨vk, vn, vt, vl, vns⟩) ⟨.row (M2.length + 1) 0 (ul.length + 1) none 5, .row (G.length + 1) 0 (uns.length + 1) none 1, rfl, .inr ⟨?_, M2.length + 1, none, ?_, ?_, by omega⟩, .inr ⟨?_, G.length + 1, none, ?_, ?_, by omega⟩⟩⟩
      · exact fun h => by have := congrArg List.length h; rw [encs_len] at this; have h9 : (ul ++ [GV.mk vk vn vt vl vns]).length = 0 := this; simp at h9
      · show AV.row _ 0 (ul.length + 1) none 5 = AV.row _ 0 (encs (ul ++ [⟨vk, vn, vt, vl, vns⟩])).length none 5
        rw [encs_len, List.length_append]; rfl
      · rw [Heap.at_put_ne _ _ _ _ (by omega), w2]
        show _ = Blk.row 5 (encs (ul ++ [⟨vk, vn, vt, vl, vns⟩]))
        rw [encs_eq (ul ++ _), List.map_append, ← encs_eq]; rfl
      · exact fun h => by have := congrArg List.length h; rw [strs_len] at this; have h9 : (uns ++ [s]).length = 0 := this; simp at h9
      · show AV.row _ 0 (uns.length + 1) none 1 = AV.row _ 0 (strs (uns ++ [s])).length none 1
        rw [strs_len, List.length_append]; rfl
      · rw [Heap.at_put_ne _ _ _ _ (by omega), v2]
        show _ = Blk.row 1 (strs (uns ++ [s]))
        simp [strs]
theorem l5Set_ok (l : List GN) (id : Int) (s : List UInt8) (v : GV) (hl : Len l) (hf : ∀ v ∈ l, v.fits) (hs : Len s) (hv : v.fits) (hok : storeOK l = true) : PCall P 58 [.fsl 7 (encn l), .int .i64 id, .str s, .agg v.enc] (.tup [.fsl 7 (encn (setN l id s v).1), .bool (setN l id s v).2]) := by
  refine pcall_of_bor (FCall.mono (l5Set_core l id s v hl hf hs hv fun u hu => ?_) ?_)
  · obtain ⟨i, hi, rfl⟩ := List.getElem_of_mem hu
    have := okNd_len (storeOK_at hok hi)
    rw [List.getD_eq_getElem?_getD, List.getElem?_eq_getElem hi] at this
    exact Nat.le_of_eq this
  · rintro r' H' ⟨b, cap, at', live, u', ok, l0, rfl, he, hat, hb⟩
    rw [setN_eq hok, he]
    exact ⟨List.range H'.length, bor_tup2 (bor_nodes hat fun h => hb h _ fun i sz es h1 h2 => by simpa using at_lt (by rw [h1]; simp))⟩
theorem l5Set_n (l : List GN) (id : Int) (s : List UInt8) (v : GV) (hl : Len l) (hf : ∀ v ∈ l, v.fits) (hs : Len s) (hv : v.fits) (hlens : ∀ u ∈ l, u.cells.ns.length ≤ u.cells.l.length) : NCall P 58 [.fsl 7 (encn l), .int .i64 id, .str s, .agg v.enc] 7 fun x xs => x = some (.bool (set5 l id s v).2) ∧ xs = encn (set5 l id s v).1 := by
  refine ncall_of_fcall (FCall.mono (l5Set_core l id s v hl hf hs hv hlens) ?_)
  rintro r' H' ⟨b, cap, at', live, u', ok, l0, rfl, he, hat, hb⟩
  rw [he]
  refine ⟨b, cap, (encn l0).set at' live, encn (l0.set at' u'), some (.bool ok), (List.range H'.length).filter (· ≠ b), by rw [encn_len, List.length_set]; rfl, fun y hy => by cases hy; rfl, hat, by rw [List.length_set, encn_len, encn_len, List.length_set], by simp, encn_all7 _, fun i j hi hj => ?_, rfl, rfl⟩
  have hb' := fun h => hb h ((List.range H'.length).filter (· ≠ b)) fun i sz es h1 h2 => by
    simp only [List.mem_filter, List.mem_range, decide_eq_true_eq]
    exact ⟨at_lt (by rw [h1]; simp), fun e => by rw [e, hat] at h1; cases h1; exact h2 rfl⟩
  rw [encn_len, List.length_set] at hi
  rw [encn_set]
  by_cases h : i = at'
  · subst h
    have e1 : ((encn l0).set i live).getD i [] = live := by simp [List.getD_eq_getElem?_getD, encn_len, hi]
    have e2 : ((encn l0).set i u'.enc).getD i [] = u'.enc := by simp [List.getD_eq_getElem?_getD, encn_len, hi]
    rw [e1, e2]
    refine BorL.get (hb' hi) j ?_
    rw [← (hb' hi).len, encn_all7 [u'] u'.enc (by simp [encn])]
    exact hj
  · have e1 : ((encn l0).set at' live).getD i [] = (encn l0).getD i [] := by simp only [List.getD_eq_getElem?_getD]; rw [List.getElem?_set_ne (by omega)]
    have e2 : ((encn l0).set at' u'.enc).getD i [] = (encn l0).getD i [] := by simp only [List.getD_eq_getElem?_getD]; rw [List.getElem?_set_ne (by omega)]
    rw [e1, e2]
    have hm : (encn l0).getD i [] ∈ encn l0 := mem_getD (by rw [encn_len]; exact hi)
    exact bor_frz (frzL_at (encn_frzm l0 _ hm) j (by rw [encn_all7 _ _ hm]; exact hj))
end Go.Av
set_option linter.unusedVariables false
set_option linter.unusedSimpArgs false
namespace Go.Av
open Go
set_option maxRecDepth 10000
set_option maxHeartbeats 1000000
theorem specStoreSet_ok (l : List GN) (id : Int) (s : List UInt8) (v : GV) (hl : Len l) (hf : ∀ v ∈ l, v.fits) (hs : Len s) (hv : v.fits) : PCall P 21 [.fsl 7 (encn l), .int .i64 id, .str s, .agg v.enc] (.tup [.fsl 7 (encn (setN l id s v).1), .bool (setN l id s v).2]) := by
  refine pcall_of_fcall (fcall_walk T_ok ok_21 rfl ?_)
  unfold Go.Proofs.Try.f21
  simp only [Option.getD_some, envOf, Nat.zero_add, Nat.reduceAdd]
  obtain ⟨vk, vn, vt, vl, vns⟩ := v
  (all_goals (have X1 := @encn_len; have X2 := @GV.enc.eq_1; (repeat' (first | refine gg ?_ | (refine gd ?_ ?_ <;> (intro hcond; try (exfalso; omega))) | (refine gc ?_ ?_ <;> intro hcs) | fail)); all_goals try clear X1 X2))
  (have X1 := @encn_len; have X2 := @GV.enc.eq_1; ((apply ar_call rfl ok_24); (focus exact eva); (focus exact specStoreOk_ok l hl hf); (focus rfl); (focus rfl)); all_goals try clear X1 X2)
  (all_goals (have X1 := @encn_len; have X2 := @GV.enc.eq_1; (repeat' (first | refine gg ?_ | (refine gd ?_ ?_ <;> (intro hcond; try (exfalso; omega))) | (refine gc ?_ ?_ <;> intro hcs) | fail)); all_goals try clear X1 X2))
  · have hok : storeOK l = false := by simpa using hcs
    unfold setN
    rw [hok]
    rfl
  have hok : storeOK l = true := by simpa using hcs
  (have X1 := @encn_len; have X2 := @GV.enc.eq_1; ((apply ar_call rfl ok_58); (focus exact eva); (focus exact l5Set_ok l id s ⟨vk, vn, vt, vl, vns⟩ hl hf hs hv hok); (focus rfl); (focus rfl)); all_goals try clear X1 X2)
  (all_goals (have X1 := @encn_len; have X2 := @GV.enc.eq_1; (repeat' (first | refine gg ?_ | (refine gd ?_ ?_ <;> (intro hcond; try (exfalso; omega))) | (refine gc ?_ ?_ <;> intro hcs) | fail)); all_goals try clear X1 X2))
  rfl
end Go.Av
set_option linter.unusedVariables false
set_option linter.unusedSimpArgs false
namespace Go.Av
open Go
set_option maxRecDepth 10000
set_option maxHeartbeats 1000000
theorem P_span2 : SpanT2 P 105 102 where
  fs := ⟨_, _, rfl, by decide, by decide, rfl, rfl, rfl, rfl⟩
  held := by kernel_rfl
  size := ⟨_, rfl, rfl⟩
def dup (l : List GV) : List (List AV) := l.map fun u => u.enc ++ u.enc
theorem dup_len (l : List GV) : (dup l).length = l.length := by simp [dup]
def sumSz (l : List GV) : Nat := (l.map GV.size).foldr (· + ·) 0
theorem sumSz_app : ∀ (a b : List GV), sumSz (a ++ b) = sumSz a + sumSz b
  | [], b => by simp [sumSz]
  | v :: a, b => by
    have := sumSz_app a b
    simp only [sumSz, List.cons_append, List.map_cons, List.foldr_cons] at this ⊢
    omega
theorem size_pos (v : GV) : 1 ≤ v.size := by cases v; simp [GV.size]
theorem sumSz_len : ∀ l : List GV, l.length ≤ sumSz l
  | [] => by simp
  | v :: l => by
    have := sumSz_len l
    have h2 := size_pos v
    simp only [sumSz, List.map_cons, List.foldr_cons, List.length_cons] at this ⊢
    omega
theorem sizes_sum : ∀ l : List GV, sizes l = sumSz l + 1
  | [] => by simp [sizes, sumSz]
  | v :: l => by
    have := sizes_sum l
    simp only [sizes, sumSz, List.map_cons, List.foldr_cons] at this ⊢
    omega
theorem dup_app (a b : List GV) : dup (a ++ b) = dup a ++ dup b := by simp [dup]
theorem heapW_put : ∀ (H : Heap) (b : Nat) (x : Blk), b < H.length → WeakB (H.at b) x → heapW (H.put b x) H
  | [], b, x, h, _ => by simp at h
  | y :: H, 0, x, h, hw => ⟨hw, heapW_refl H⟩
  | y :: H, b + 1, x, h, hw => ⟨.refl y, heapW_put H b x (by simpa using h) hw⟩
theorem dup_weak (a b : List GV) : WeakB (.row 10 (dup (a ++ b))) (.row 10 (dup a)) := by
  refine .row 10 _ _ (by rw [dup_len, dup_len]; simp) (fun x hx => ?_) fun i j hi hj => ?_
  · simp only [dup, List.mem_map] at hx; obtain ⟨u, _, rfl⟩ := hx; simp [enc_len]
  · have : (dup (a ++ b)).getD i [] = (dup a).getD i [] := by
      rw [dup_app]; simp only [List.getD_eq_getElem?_getD]; rw [List.getElem?_append_left hi]
    rw [this]; exact Weak.refl _
theorem OpSem.weakV {P : Program} {o : Oper} {env : Env} {H : Heap} {p : Option Prop} {v v' : AV} {wr : List (Nat × Blk)} {log : List Nat} (h : OpSem P o env H ⟨p, v, wr, log⟩) (hw : ∀ C x, VRel C v x → VRel C v' x) : OpSem P o env H ⟨p, v', wr, log⟩ := by
  intro C a H2 h1 h2 h3 h4 h5
  obtain ⟨x, C', k1, k2, k3⟩ := h C a H2 h1 h2 h3 h4 h5
  exact ⟨x, C', k1, hw _ _ k2, k3⟩
theorem VRel.nocap {C : Ctx} {b off len sz : Nat} {cap : Option Nat} {v : Value} (h : VRel C (.row b off len cap sz) v) : VRel C (.row b off len none sz) v := by
  cases h with
  | fro _ _ h => cases h
  | row _ _ _ _ cb base ccap _ h hc hcap hsp => exact .row _ _ _ _ cb base ccap none h hc (fun c hc => by cases hc) hsp
theorem ValueSame_ok (v : GV) (hf : v.fits) (hB : v.size ≤ 1000000000) : PCall P 25 [.agg v.enc, .agg v.enc] (.bool true) := by
  refine pcall_of_fcall (fcall_walk T_ok ok_25 rfl ?_)
  unfold Go.Proofs.Try.f25
  simp only [Option.getD_some, envOf, Nat.zero_add, Nat.reduceAdd]
  obtain ⟨k, x, t, l, ns⟩ := v
  refine aw_seq ?_
  (all_goals (have X1 := @GV.enc.eq_1; (repeat' (first | refine gr ?_ | fail)); all_goals try clear X1))
  refine aw_seq ?_
  refine aw_reg ?_
  refine ar_sem (H' := [Blk.row 5 [[.int .i64 k, .int .i64 x, .str t, .fsl 5 (encs l), .fsl 1 (strs ns)]], Blk.row 5 [[.int .i64 k, .int .i64 x, .str t, .fsl 5 (encs l), .fsl 1 (strs ns)]], .mapb []]) (sem_makeMap (n := 2) rfl) rfl rfl rfl ?_
  (all_goals (have X1 := @GV.enc.eq_1; (repeat' (first | refine gr ?_ | fail)); all_goals try clear X1))
  refine aw_seq ?_
  refine aw_reg ?_
  iterate 3 (have X1 := @GV.enc.eq_1; (refine ga ?_); all_goals try clear X1)
  refine ar_sem (v := .row 3 0 1 none 10) (wr := [(3, .row 10 [[.int .i64 k, .int .i64 x, .str t, .fsl 5 (encs l), .fsl 1 (strs ns), .int .i64 k, .int .i64 x, .str t, .fsl 5 (encs l), .fsl 1 (strs ns)]])]) (log := [])
    (H' := [Blk.row 5 [[.int .i64 k, .int .i64 x, .str t, .fsl 5 (encs l), .fsl 1 (strs ns)]], Blk.row 5 [[.int .i64 k, .int .i64 x, .str t, .fsl 5 (encs l), .fsl 1 (strs ns)]], .mapb [], .row 10 [[.int .i64 k, .int .i64 x, .str t, .fsl 5 (encs l), .fsl 1 (strs ns), .int .i64 k, .int .i64 x, .str t, .fsl 5 (encs l), .fsl 1 (strs ns)]]])
    (OpSem.weakV (v := .row 3 0 1 (some 1) 10) (sem_buildSliceR T_ok (d := ⟨1, 24, false, [.nsl 10], .slice 99⟩) (de := ⟨10, 160, true, [.int .i64 0, .int .i64 0, .str [], .nsl 5, .nsl 1, .int .i64 0, .int .i64 0, .str [], .nsl 5, .nsl 1], .struct [(0, 47), (5, 47)]⟩) (es := [[.int .i64 k, .int .i64 x, .str t, .fsl 5 (encs l), .fsl 1 (strs ns), .int .i64 k, .int .i64 x, .str t, .fsl 5 (encs l), .fsl 1 (strs ns)]]) 3 (fun x => Env.ev _ 0 x) (fun C a henv x hx => ev_rel henv 0 x hx) rfl rfl rfl rfl rfl (by simp) rfl (by decide)) fun C x h => h.nocap) rfl rfl rfl ?_
  (all_goals (have X1 := @GV.enc.eq_1; (repeat' (first | refine gx ?_ | (refine gd ?_ ?_ <;> (intro hcond; try (exfalso; omega))) | fail)); all_goals try clear X1))
  refine aw_loopn (fun kk env H1 => ∃ (us : List GV) (b : Nat) (es : List (AV × AV)), kk = sumSz us ∧ sumSz us ≤ 1000000000 ∧ (∀ u ∈ us, u.fits) ∧ env = [(5, .mapr 2), (6, .row b 0 us.length none 10)] ∧ 3 ≤ b ∧ b < H1.length ∧ H1.at b = .row 10 (dup us) ∧ H1.at 2 = .mapb es ∧ MapOK SpanKey2 (.agg []) es) (sumSz [⟨k, x, t, l, ns⟩])
    [(5, .mapr 2), (6, .row 3 0 1 none 10)] _ sb (heapW_refl _) rfl ⟨[⟨k, x, t, l, ns⟩], 3, [], rfl, by simpa [sumSz] using hB, by simpa using hf, rfl, by omega, by simp, rfl, rfl, fun p hp => by cases hp⟩ ?_
  rintro kk env H1 ⟨us, b, es, rfl, hsum, hfu, rfl, hb3, hbl, hb, hm, hmok⟩
  rcases List.eq_nil_or_concat us with rfl | ⟨pre, u, hus⟩
  · (all_goals (have X1 := @GV.enc.eq_1; (repeat' (first | refine gx ?_ | (refine gd ?_ ?_ <;> (intro hcond; try (exfalso; omega))) | fail)); all_goals try clear X1))
    rfl
  · rw [List.concat_eq_append] at hus
    subst hus
    obtain ⟨uk, un, ut, ul, uns⟩ := u
    have huf : GV.fits ⟨uk, un, ut, ul, uns⟩ := hfu _ (by simp)
    have huf0 := huf
    obtain ⟨f1, f2, f3, f4, f5, f6, f7⟩ := huf
    have hul : (pre ++ [GV.mk uk un ut ul uns]).length = pre.length + 1 := by simp
    have hlt0 : (pre.length + 1 : Int) - 1 = (pre.length : Nat) := by omega
    have hge : (dup (pre ++ [GV.mk uk un ut ul uns])).getD pre.length [] = [.int .i64 uk, .int .i64 un, .str ut, .fsl 5 (encs ul), .fsl 1 (strs uns), .int .i64 uk, .int .i64 un, .str ut, .fsl 5 (encs ul), .fsl 1 (strs uns)] := by
      unfold dup; rw [List.map_append]; exact getD_mid (y := []) (by simp)
    rw [hul]
    have hpl := sumSz_len pre
    have hps := sumSz_app pre [GV.mk uk un ut ul uns]
    have hps1 : sumSz [GV.mk uk un ut ul uns] = 2 + sumSz ul := by simp only [sumSz, List.map_cons, List.map_nil, List.foldr_cons, List.foldr_nil, GV.size]; rw [sizes_sum]; simp only [sumSz]; omega
    have hlt1 : ((pre.length + 1 : Nat) : Int) - 1 = (pre.length : Nat) := by omega
    (all_goals (have X1 := @encs_len; have X2 := @hb; have X3 := @hm; have X4 := @hge; have X5 := @hlt1; have X6 := @Int.toNat_natCast; (repeat' (first | refine gx ?_ | (refine gd ?_ ?_ <;> (intro hcond; try (exfalso; omega))) | fail)); all_goals try clear X1 X2 X3 X4 X5 X6))
    simp only [Int.toNat_zero, Nat.sub_zero]
    (have X1 := @encs_len; have X2 := @hb; have X3 := @hm; have X4 := @hge; have X5 := @hlt1; have X6 := @Int.toNat_natCast; ((apply ar_call rfl ok_62); (focus exact eva); (focus exact sameTop_ok ⟨uk, un, ut, ul, uns⟩ huf0); (focus rfl); (focus rfl)); all_goals try clear X1 X2 X3 X4 X5 X6)
    (all_goals (have X1 := @encs_len; have X2 := @hb; have X3 := @hm; have X4 := @hge; have X5 := @hlt1; have X6 := @Int.toNat_natCast; (repeat' (first | refine gg ?_ | (refine gd ?_ ?_ <;> (intro hcond; try (exfalso; omega))) | (refine gc ?_ ?_ <;> intro hcs) | fail)); all_goals try clear X1 X2 X3 X4 X5 X6))
    · refine anextn [(5, .mapr 2), (6, .row b 0 pre.length none 10)] ((H1 ++ [Blk.row 10 [[.int .i64 uk, .int .i64 un, .str ut, .fsl 5 (encs ul), .fsl 1 (strs uns), .int .i64 uk, .int .i64 un, .str ut, .fsl 5 (encs ul), .fsl 1 (strs uns)]]]).put b (.row 10 (dup pre))) (k' := sumSz pre) (by omega) (by simp) sb (heapW_put _ _ _ (by simp; omega) (by rw [Heap.at_old _ _ hbl, hb]; exact dup_weak _ _)) (Heap.put_length _ _ _ (by simp; omega))
        ⟨pre, b, es, rfl, by omega, fun u hu => hfu u (by simp [hu]), rfl, hb3, by rw [Heap.put_length _ _ _ (by simp; omega)]; simp; omega, Heap.at_put_same _ _ _, by rw [Heap.at_put_ne _ _ _ _ (by omega), Heap.at_old _ _ (by omega)]; exact hm, hmok⟩
    have h0 : 0 < ul.length := by omega
    (have X1 := @encs_len; have X2 := @hb; have X3 := @hm; have X4 := @hge; have X5 := @hlt1; have X6 := @Int.toNat_natCast; ((apply ard_call rfl ok_63); (focus exact eva); (focus exact spanOf_ok ul h0 f4); (focus rfl); (focus rfl)); all_goals try clear X1 X2 X3 X4 X5 X6)
    (all_goals (have X1 := @encs_len; have X2 := @hb; have X3 := @hm; have X4 := @hge; have X5 := @hlt1; have X6 := @Int.toNat_natCast; (repeat' (first | refine gg ?_ | (refine gd ?_ ?_ <;> (intro hcond; try (exfalso; omega))) | (refine gc ?_ ?_ <;> intro hcs) | fail)); all_goals try clear X1 X2 X3 X4 X5 X6))
    (have X1 := @encs_len; have X2 := @hb; have X3 := @hm; have X4 := @hge; have X5 := @hlt1; have X6 := @Int.toNat_natCast; ((apply ard_call rfl ok_63); (focus exact eva); (focus exact spanOf_ok ul h0 f4); (focus rfl); (focus rfl)); all_goals try clear X1 X2 X3 X4 X5 X6)
    (all_goals (have X1 := @encs_len; have X2 := @hb; have X3 := @hm; have X4 := @hge; have X5 := @hlt1; have X6 := @Int.toNat_natCast; (repeat' (first | refine gg ?_ | (refine gd ?_ ?_ <;> (intro hcond; try (exfalso; omega))) | (refine gc ?_ ?_ <;> intro hcs) | fail)); all_goals try clear X1 X2 X3 X4 X5 X6))
    refine ard_done_of [(0, 4), (0, 5), (0, 6), (0, 9), (1, 4), (1, 5), (1, 6), (1, 9), (2, 4), (2, 5), (2, 6), (2, 9), (3, 4), (3, 5), (3, 6), (3, 9), (4, 9), (5, 9), (6, 9), (7, 9), (8, 9)] rfl rfl rfl rfl ?_ ?_
    · refine ep ?_; try exact trivial
      repeat' apply And.intro
      all_goals first | (simp; done) | (simp; omega) | skip
    obtain ⟨G, hG⟩ : ∃ G, H1 ++ [Blk.row 10 [[.int .i64 uk, .int .i64 un, .str ut, .fsl 5 (encs ul), .fsl 1 (strs uns), .int .i64 uk, .int .i64 un, .str ut, .fsl 5 (encs ul), .fsl 1 (strs uns)]], Blk.row 4 [[.fptr (encs ul).flatten, .int .i64 ul.length, .fptr (encs ul).flatten, .int .i64 ul.length]]] = G := ⟨_, rfl⟩
    have hGo : ∀ q, q < H1.length → G.at q = H1.at q := fun q hq => by rw [← hG]; exact Heap.at_old _ _ hq
    have hGl : G.length = H1.length + 2 := by rw [← hG]; simp
    have gb := (hGo b hbl).trans hb
    have gm := (hGo 2 (by omega)).trans hm
    have g7 : G.at H1.length = .row 10 [[.int .i64 uk, .int .i64 un, .str ut, .fsl 5 (encs ul), .fsl 1 (strs uns), .int .i64 uk, .int .i64 un, .str ut, .fsl 5 (encs ul), .fsl 1 (strs uns)]] := by rw [← hG]; exact Heap.at_app _ _ 0
    have g8 : G.at (H1.length + 1) = .row 4 [[.fptr (encs ul).flatten, .int .i64 ul.length, .fptr (encs ul).flatten, .int .i64 ul.length]] := by rw [← hG]; exact Heap.at_app _ _ 1
    obtain ⟨kind, hkt⟩ := keyT_span2 P_span2 P_span
    have hkey : SpanKey2 (.agg [.fptr (encs ul).flatten, .int .i64 ul.length, .fptr (encs ul).flatten, .int .i64 ul.length]) := ⟨_, _, _, _, rfl, by rw [flat_len]; omega, by rw [flat_len]; omega⟩
    rw [hG]
    (all_goals (have X1 := @encs_len; have X2 := @g8; (repeat' (first | refine gg ?_ | (refine gd ?_ ?_ <;> (intro hcond; try (exfalso; omega))) | (refine gc ?_ ?_ <;> intro hcs) | fail)); all_goals try clear X1 X2))
    refine ar_rel (or_lookup T_ok (d := ⟨0, 0, true, [], .struct []⟩) (b := 2) (z := .agg []) rfl rfl hkt rfl rfl rfl gm hmok rfl hkey) rfl rfl ?_
    rintro _ H5 ⟨e5, ok, rfl⟩
    rw [e5]
    (all_goals (have X1 := @encs_len; have X2 := @g8; (repeat' (first | refine gg ?_ | (refine gd ?_ ?_ <;> (intro hcond; try (exfalso; omega))) | (refine gc ?_ ?_ <;> intro hcs) | fail)); all_goals try clear X1 X2))
    refine ar_sem0 (v := .junk) (wr := []) (log := []) (H' := _) (sem_store0 T_ok (d := ⟨0, 0, true, [], .struct []⟩) (b := G.length) (i := 0) (j := 0) rfl rfl rfl rfl rfl) rfl rfl rfl ?_
    have g8' := fun L => (Heap.at_old G L (b := H1.length + 1) (by omega)).trans g8
    (all_goals (have X1 := @encs_len; have X2 := @g8'; (repeat' (first | refine gg ?_ | (refine gd ?_ ?_ <;> (intro hcond; try (exfalso; omega))) | (refine gc ?_ ?_ <;> intro hcs) | fail)); all_goals try clear X1 X2))
    · refine anextn [(5, .mapr 2), (6, .row b 0 pre.length none 10)] ((G ++ [Blk.row 0 [[]]]).put b (.row 10 (dup pre))) (k' := sumSz pre) (by omega) (by simp; omega) sb (heapW_put _ _ _ (by simp; omega) (by rw [Heap.at_old _ _ (by omega), gb]; exact dup_weak _ _)) (Heap.put_length _ _ _ (by simp; omega))
        ⟨pre, b, es, rfl, by omega, fun u hu => hfu u (by simp [hu]), rfl, hb3, by rw [Heap.put_length _ _ _ (by simp; omega)]; simp; omega, Heap.at_put_same _ _ _, by rw [Heap.at_put_ne _ _ _ _ (by omega), Heap.at_old _ _ (by omega)]; exact gm, hmok⟩
    refine ar_rel0 (or_mapUpdate (b := 2) (z := .agg []) rfl rfl hkt rfl ((Heap.at_old _ _ (by omega)).trans gm) hmok rfl hkey rfl) rfl ?_
    rintro _ H5 ⟨_, es', e5, hmok'⟩
    obtain ⟨M, hM⟩ : ∃ M, (G ++ [Blk.row 0 [[]]]).put 2 (.mapb es') = M := ⟨_, rfl⟩
    rw [hM] at e5
    rw [e5]
    have Ml : M.length = H1.length + 3 := by rw [← hM, Heap.put_length _ _ _ (by simp; omega)]; simp; omega
    have Mb : M.at b = .row 10 (dup (pre ++ [⟨uk, un, ut, ul, uns⟩])) := by rw [← hM, Heap.at_put_ne _ _ _ _ (by omega), Heap.at_old _ _ (by omega)]; exact gb
    have M7 : M.at H1.length = .row 10 [[.int .i64 uk, .int .i64 un, .str ut, .fsl 5 (encs ul), .fsl 1 (strs uns), .int .i64 uk, .int .i64 un, .str ut, .fsl 5 (encs ul), .fsl 1 (strs uns)]] := by rw [← hM, Heap.at_put_ne _ _ _ _ (by omega), Heap.at_old _ _ (by omega)]; exact g7
    have Mm : M.at 2 = .mapb es' := by rw [← hM]; exact Heap.at_put_same _ _ _
    (all_goals (have X1 := @encs_len; have X2 := @M7; (repeat' (first | refine gg ?_ | (refine gd ?_ ?_ <;> (intro hcond; try (exfalso; omega))) | (refine gc ?_ ?_ <;> intro hcs) | fail)); all_goals try clear X1 X2))
    refine aw_loopn (fun kk env H6 => ∃ (i : Nat) (b' : Nat), i ≤ ul.length ∧ kk = ul.length - i ∧ env = [(5, .mapr 2), (6, .row b' 0 (pre.length + i) none 10), (7, .ptr H1.length 0 0), (64, .int .i64 ul.length), (65, .int .i64 i)] ∧ 3 ≤ b' ∧ b' < H6.length ∧ b' ≠ H1.length ∧ H1.length + 3 ≤ H6.length ∧
        H6.at b' = .row 10 (dup (pre ++ ul.take i)) ∧ H6.at 2 = .mapb es' ∧ H6.at H1.length = .row 10 [[.int .i64 uk, .int .i64 un, .str ut, .fsl 5 (encs ul), .fsl 1 (strs uns), .int .i64 uk, .int .i64 un, .str ut, .fsl 5 (encs ul), .fsl 1 (strs uns)]]) ul.length
      [(5, .mapr 2), (6, .row b 0 pre.length none 10), (7, .ptr H1.length 0 0), (64, .int .i64 ul.length), (65, .int .i64 0)] (M.put b (.row 10 (dup pre))) sb (heapW_put _ _ _ (by omega) (by rw [Mb]; exact dup_weak _ _)) (Heap.put_length _ _ _ (by omega))
      ⟨0, b, Nat.zero_le _, rfl, rfl, hb3, by rw [Heap.put_length _ _ _ (by omega)]; omega, by omega, by rw [Heap.put_length _ _ _ (by omega)]; omega, by rw [Heap.at_put_same]; simp, (Heap.at_put_ne _ _ _ _ (by omega)).trans Mm, (Heap.at_put_ne _ _ _ _ (by omega)).trans M7⟩ ?_
    rintro kk env H6 ⟨i, b', hi, rfl, rfl, hb3', hbl', hbn, hl6, r1, r2, r3⟩
    by_cases hlt : i < ul.length
    · obtain ⟨⟨ck, cn, ct, cl, cns⟩, hc⟩ : ∃ c, ul.getD i default = c := ⟨_, rfl⟩
      have hgc : (encs ul).getD i [] = [.int .i64 ck, .int .i64 cn, .str ct, .fsl 5 (encs cl), .fsl 1 (strs cns)] := by rw [encs_get hlt, hc]; rfl
      have htk : dup (pre ++ ul.take (i + 1)) = dup (pre ++ ul.take i) ++ [[.int .i64 ck, .int .i64 cn, .str ct, .fsl 5 (encs cl), .fsl 1 (strs cns), .int .i64 ck, .int .i64 cn, .str ct, .fsl 5 (encs cl), .fsl 1 (strs cns)]] := by
        rw [List.take_succ_eq_append_getElem hlt, ← List.append_assoc, dup_app]
        have : ul[i] = ⟨ck, cn, ct, cl, cns⟩ := by rw [← hc, List.getD_eq_getElem?_getD, List.getElem?_eq_getElem hlt]; rfl
        rw [this]; rfl
      have hdl : (dup (pre ++ ul.take i)).length = pre.length + i := by rw [dup_len]; simp; omega
      (all_goals (have X1 := @encs_len; have X2 := @r3; have X3 := @hgc; (repeat' (first | refine gx ?_ | (refine gd ?_ ?_ <;> (intro hcond; try (exfalso; omega))) | fail)); all_goals try clear X1 X2 X3))
      refine ard_sem (v := .row (H6.length + 1) 0 (pre.length + (i + 1)) none 10) (wr := [(b', .dead), (H6.length + 1, .row 10 (dup (pre ++ ul.take i) ++ [[.int .i64 ck, .int .i64 cn, .str ct, .fsl 5 (encs cl), .fsl 1 (strs cns), .int .i64 ck, .int .i64 cn, .str ct, .fsl 5 (encs cl), .fsl 1 (strs cns)]]))]) (log := [b']) (H' := H6.put b' .dead ++ [.tok 1, .row 10 (dup (pre ++ ul.take i) ++ [[.int .i64 ck, .int .i64 cn, .str ct, .fsl 5 (encs cl), .fsl 1 (strs cns), .int .i64 ck, .int .i64 cn, .str ct, .fsl 5 (encs cl), .fsl 1 (strs cns)]])])
        (sem_app_move T_ok (n := H6.length + 1) (d := ⟨1, 24, false, [.nsl 10], .slice 99⟩) (de := ⟨10, 160, true, [.int .i64 0, .int .i64 0, .str [], .nsl 5, .nsl 1, .int .i64 0, .int .i64 0, .str [], .nsl 5, .nsl 1], .struct [(0, 47), (5, 47)]⟩) (s1 := 0) (s2 := 0) (b := b') (len := pre.length + i) (es := dup (pre ++ ul.take i)) rfl rfl rfl rfl rfl rfl rfl rfl ((Heap.at_old _ _ hbl').trans r1) hdl rfl rfl rfl (by simp) (by simp) (by simp [Len] at f4 ⊢; omega) (by omega) (by simp)) (by simp [okIdsB, Nat.ble_eq]) rfl (puts_move hbl' _ _) ?_
      have w1 := fun q (hq : q < H6.length) (hqd : q ≠ b') => (Heap.at_old (H6.put b' .dead) [Blk.tok 1, Blk.row 10 (dup (pre ++ ul.take i) ++ [[.int .i64 ck, .int .i64 cn, .str ct, .fsl 5 (encs cl), .fsl 1 (strs cns), .int .i64 ck, .int .i64 cn, .str ct, .fsl 5 (encs cl), .fsl 1 (strs cns)]])] (by rw [Heap.put_length _ _ _ hbl']; exact hq)).trans (Heap.at_put_ne H6 b' q .dead hqd)
      have w2 : Heap.at (H6.put b' .dead ++ [Blk.tok 1, Blk.row 10 (dup (pre ++ ul.take i) ++ [[.int .i64 ck, .int .i64 cn, .str ct, .fsl 5 (encs cl), .fsl 1 (strs cns), .int .i64 ck, .int .i64 cn, .str ct, .fsl 5 (encs cl), .fsl 1 (strs cns)]])]) (H6.length + 1) = .row 10 (dup (pre ++ ul.take i) ++ [[.int .i64 ck, .int .i64 cn, .str ct, .fsl 5 (encs cl), .fsl 1 (strs cns), .int .i64 ck, .int .i64 cn, .str ct, .fsl 5 (encs cl), .fsl 1 (strs cns)]]) := Heap.at_putB hbl' _ _ 1
      have w3 : (H6.put b' .dead ++ [Blk.tok 1, Blk.row 10 (dup (pre ++ ul.take i) ++ [[.int .i64 ck, .int .i64 cn, .str ct, .fsl 5 (encs cl), .fsl 1 (strs cns), .int .i64 ck, .int .i64 cn, .str ct, .fsl 5 (encs cl), .fsl 1 (strs cns)]])]).length = H6.length + 2 := by rw [List.length_append, Heap.put_length _ _ _ hbl']; rfl
      generalize (H6.put b' .dead ++ [Blk.tok 1, Blk.row 10 (dup (pre ++ ul.take i) ++ [[.int .i64 ck, .int .i64 cn, .str ct, .fsl 5 (encs cl), .fsl 1 (strs cns), .int .i64 ck, .int .i64 cn, .str ct, .fsl 5 (encs cl), .fsl 1 (strs cns)]])]) = M3 at *
      (all_goals (have X1 := @encs_len; have X2 := @r3; have X3 := @hgc; (repeat' (first | refine gx ?_ | (refine gd ?_ ?_ <;> (intro hcond; try (exfalso; omega))) | fail)); all_goals try clear X1 X2 X3))
      refine anextn [(5, .mapr 2), (6, .row (H6.length + 1) 0 (pre.length + (i + 1)) none 10), (7, .ptr H1.length 0 0), (64, .int .i64 ul.length), (65, .int .i64 ((i + 1 : Nat) : Int))] _ (k' := ul.length - (i + 1)) (by omega) (by omega) sb (heapW_refl _) rfl
        ⟨i + 1, H6.length + 1, by omega, rfl, rfl, by omega, by omega, by omega, by omega, w2.trans (by rw [htk]), (w1 2 (by omega) (by omega)).trans r2, (w1 H1.length (by omega) hbn.symm).trans r3⟩
    · have : i = ul.length := by omega
      subst this
      rw [List.take_length] at r1
      (all_goals (have X1 := @encs_len; have X2 := @r3; (repeat' (first | refine gx ?_ | (refine gd ?_ ?_ <;> (intro hcond; try (exfalso; omega))) | fail)); all_goals try clear X1 X2))
      refine anextn [(5, .mapr 2), (6, .row b' 0 (pre.length + ul.length) none 10)] _ (k' := sumSz (pre ++ ul)) (by rw [sumSz_app]; omega) (by omega) sb (heapW_refl _) rfl
        ⟨pre ++ ul, b', es', rfl, by rw [sumSz_app]; omega, fun u hu => ?_, by rw [List.length_append], hb3', hbl', r1, r2, hmok'⟩
      rcases List.mem_append.1 hu with hu | hu
      · exact hfu u (by simp [hu])
      · exact fitss_mem f5 u hu
end Go.Av
set_option linter.unusedVariables false
set_option linter.unusedSimpArgs false
namespace Go.Av
open Go
set_option maxRecDepth 10000
set_option maxHeartbeats 1000000
theorem pgNodes_ok (l : List GN) (hl : Len l) (hf : ∀ v ∈ l, v.fits) (hB : ∀ v ∈ l, v.cells.size ≤ 1000000000) : PCall P 22 [.fsl 7 (encn l), .fsl 7 (encn l)] (.bool true) := by
  refine pcall_of_fcall (fcall_walk T_ok ok_22 rfl ?_)
  unfold Go.Proofs.Try.f22
  simp only [Option.getD_some, envOf, Nat.zero_add, Nat.reduceAdd]
  (all_goals (have X1 := @encn_len; (repeat' (first | refine gg ?_ | (refine gd ?_ ?_ <;> (intro hcond; try (exfalso; omega))) | (refine gc ?_ ?_ <;> intro hcs) | fail)); all_goals try clear X1))
  refine aw_loopc (fun k env H => ∃ (i : Nat), i ≤ l.length ∧ k = l.length - i ∧ H = [] ∧ (True) ∧ env = [(0, .fsl 7 (encn l)), (1, .fsl 7 (encn l)), (5, .int .i64 i)]) (l.length) [(0, .fsl 7 (encn l)), (1, .fsl 7 (encn l)), (5, .int .i64 0)] [] sb rfl trivial rfl rfl ⟨0, Nat.zero_le _, rfl, rfl, trivial, rfl⟩ ?_
  rintro k env H ⟨i, hi, hk, rfl, hinv, rfl⟩
  by_cases hlt : i < l.length
  · obtain ⟨u, hu⟩ : ∃ u, l.getD i default = u := ⟨_, rfl⟩
    have hfu : u.fits := hu ▸ hf _ (mem_getD hlt)
    have hBu : u.cells.size ≤ 1000000000 := hu ▸ hB _ (mem_getD hlt)
    have hge : (encn l).getD i [] = u.enc := by rw [encn_get hlt, hu]
    obtain ⟨uid, uty, ⟨uk, un, ut, ul, uns⟩⟩ := u
    (all_goals (have X1 := @encn_len; have X2 := @hge; have X3 := @GN.enc.eq_1; have X4 := @GV.enc.eq_1; have X5 := @bneB; (repeat' (first | refine gg ?_ | (refine gd ?_ ?_ <;> (intro hcond; try (exfalso; omega))) | (refine gc ?_ ?_ <;> intro hcs) | fail)); all_goals try clear X1 X2 X3 X4 X5))
    (have X1 := @encn_len; have X2 := @hge; have X3 := @GN.enc.eq_1; have X4 := @GV.enc.eq_1; have X5 := @bneB; ((apply ard_call rfl ok_25); (focus exact eva); (focus exact ValueSame_ok ⟨uk, un, ut, ul, uns⟩ hfu.2.2 hBu); (focus rfl); (focus rfl)); all_goals try clear X1 X2 X3 X4 X5)
    (all_goals (have X1 := @encn_len; have X2 := @hge; have X3 := @GN.enc.eq_1; have X4 := @GV.enc.eq_1; have X5 := @bneB; (repeat' (first | refine gg ?_ | (refine gd ?_ ?_ <;> (intro hcond; try (exfalso; omega))) | (refine gc ?_ ?_ <;> intro hcs) | fail)); all_goals try clear X1 X2 X3 X4 X5))
    exact anext0 [(0, .fsl 7 (encn l)), (1, .fsl 7 (encn l)), (5, .int .i64 (i + 1 : Nat))] [] (k' := l.length - (i + 1)) (by omega) sb rfl trivial rfl rfl ⟨i + 1, by omega, rfl, rfl, trivial, rfl⟩
  · have : i = l.length := by omega
    subst this
    (all_goals (have X1 := @encn_len; (repeat' (first | refine gg ?_ | (refine gd ?_ ?_ <;> (intro hcond; try (exfalso; omega))) | (refine gc ?_ ?_ <;> intro hcs) | fail)); all_goals try clear X1))
    rfl
end Go.Av
set_option linter.unusedVariables false
set_option linter.unusedSimpArgs false
namespace Go.Av
open Go
set_option maxRecDepth 10000
set_option maxHeartbeats 1000000
def byAV (bs : List UInt8) : List (List AV) := bs.map fun b => [.int .u8 b.toNat]
theorem byAV_len (bs : List UInt8) : (byAV bs).length = bs.length := by simp [byAV]
theorem byAV_get {bs : List UInt8} {i : Nat} (h : i < bs.length) : (byAV bs).getD i [] = [.int .u8 (bs.getD i 0).toNat] := by
  simp [byAV, List.getD_eq_getElem?_getD, h]
def rdB (bs : List UInt8) (p : Nat) : Blk := .row 2 [[.fsl 1 (byAV bs), .int .i64 (p : Int)]]
/-- what stands at a place of the code, and behind it -/
def pickX (bs : List UInt8) (p : Nat) : Nat := (bs.getD (p % bs.length) 0).toNat * 131 + (bs.getD ((p * 7 + 3) % bs.length) 0).toNat * 1117 + p * 29 + p / bs.length * 53
def pickV (bs : List UInt8) (p : Nat) (n : Int) : Int :=
  if n < 1 ∨ bs = [] then 0
  else if p < bs.length then (((bs.getD p 0).toNat : Int)).tmod n
  else (((pickX bs p ^^^ (pickX bs p / 64) : Nat) : Int)).tmod n
theorem pickV_range (bs : List UInt8) (p : Nat) (n : Int) : 0 ≤ pickV bs p n ∧ (1 ≤ n → pickV bs p n < n) := by
  unfold pickV
  split
  · rename_i h
    refine ⟨by omega, fun h1 => by omega⟩
  · rename_i h
    have hn : 0 < n := by omega
    split
    · exact ⟨Int.tmod_nonneg _ (by omega), fun _ => Int.tmod_lt_of_pos _ hn⟩
    · exact ⟨Int.tmod_nonneg _ (by omega), fun _ => Int.tmod_lt_of_pos _ hn⟩
theorem pick_ok (bs : List UInt8) (n : Int) (p b : Nat) (H : Heap) (hb : H.at b = .row 2 [[.fsl 1 (byAV bs), .int .i64 (p : Int)]]) (hbl : b < H.length) (hl : Len bs) (hp : p ≤ 1000000000) (hn : n ≤ 1000000) : FCall P 49 [.ptr b 0 0, .int .i64 n] H fun r H' => r = .int .i64 (pickV bs p n) ∧ H' = H.put b (rdB bs (p + 1)) := by
  refine fcall_walk T_ok ok_49 rfl ?_
  unfold Go.Proofs.Try.f49
  simp only [Option.getD_some, envOf, Nat.zero_add, Nat.reduceAdd]
  have h1 := fun x => Heap.at_put_same H b x
  have h2 : ((bs.length : Int) = 0) = (bs = []) := by simp
  have hpp : (p : Int) + 1 - 1 = p := by omega
  have hz : ((bs.length : Int) == 0) = decide (bs = []) := by rw [Bool.eq_iff_iff]; simp
  (all_goals (have X1 := @byAV_len; have X2 := @hb; have X3 := @h1; have X4 := @hpp; (repeat' (first | refine gg ?_ | (refine gd ?_ ?_ <;> (intro hcond; try (exfalso; omega))) | (refine gc ?_ ?_ <;> intro hcs) | fail)); all_goals try clear X1 X2 X3 X4))
  · refine ⟨?_, by simp [rdB]⟩
    unfold pickV; rw [if_pos (.inl (by assumption))]; rfl
  · refine ⟨?_, by simp [rdB]⟩
    have : bs = [] := by simp_all
    unfold pickV; rw [if_pos (.inr this)]; rfl
  · have hlt : p < bs.length := by omega
    have hg := byAV_get hlt
    have h255 : (bs.getD p 0).toNat < 256 := UInt8.toNat_lt _
    (all_goals (have X1 := @byAV_len; have X2 := @hb; have X3 := @h1; have X4 := @hpp; have X5 := @hg; have X6 := @Int.toNat_natCast; (repeat' (first | refine gg ?_ | (refine gd ?_ ?_ <;> (intro hcond; try (exfalso; omega))) | (refine gc ?_ ?_ <;> intro hcs) | fail)); all_goals try clear X1 X2 X3 X4 X5 X6))
    refine ⟨?_, by simp [rdB]⟩
    unfold pickV; rw [if_neg (by rintro (h | h); omega; rw [h] at hlt; simp at hlt), if_pos hlt]
    rw [Int.tmod_eq_emod_of_nonneg (by omega)]; rfl
  · have hne : bs ≠ [] := by intro h; simp_all
    have hpos : 0 < bs.length := List.length_pos_iff.2 hne
    have hm1 := Nat.mod_lt p hpos
    have hm2 := Nat.mod_lt (p * 7 + 3) hpos
    have hd3 : p / bs.length ≤ p := Nat.div_le_self _ _
    have e1 : (p : Int) % (bs.length : Int) = ((p % bs.length : Nat) : Int) := by push_cast; rfl
    have e2 : ((p : Int) * 7 + 3).tmod (bs.length : Int) = (((p * 7 + 3) % bs.length : Nat) : Int) := by
      rw [show (p : Int) * 7 + 3 = ((p * 7 + 3 : Nat) : Int) by push_cast; rfl, ← Int.ofNat_tmod]
    have e3 : (p : Int).tdiv (bs.length : Int) = ((p / bs.length : Nat) : Int) := by rw [← Int.ofNat_tdiv]
    have hg1 := byAV_get hm1
    have hg2 := byAV_get hm2
    have h255 : (bs.getD (p % bs.length) 0).toNat < 256 := UInt8.toNat_lt _
    have h256 : (bs.getD ((p * 7 + 3) % bs.length) 0).toNat < 256 := UInt8.toNat_lt _
    (all_goals (have X1 := @byAV_len; have X2 := @hb; have X3 := @h1; have X4 := @hpp; have X5 := @hg1; have X6 := @hg2; have X7 := @e1; have X8 := @e2; have X9 := @e3; have X10 := @Int.toNat_natCast; (repeat' (first | refine gg ?_ | (refine gd ?_ ?_ <;> (intro hcond; try (exfalso; omega))) | (refine gc ?_ ?_ <;> intro hcs) | fail)); all_goals try clear X1 X2 X3 X4 X5 X6 X7 X8 X9 X10))
    refine ⟨?_, by simp [rdB]⟩
    unfold pickV; rw [if_neg (by rintro (h | h); omega; exact hne h), if_neg (by omega)]
    have hX : (↑(bs.getD (p % bs.length) 0).toNat * 131 + ↑(bs.getD ((p * 7 + 3) % bs.length) 0).toNat * 1117 + ↑p * 29 + ((p / bs.length : Nat) : Int) * 53) = ((pickX bs p : Nat) : Int) := by unfold pickX; push_cast; rfl
    have hXb : pickX bs p < 1099511627776 := by unfold pickX; omega
    rw [wrap_i64 (x := ((p / bs.length : Nat) : Int)) ⟨by omega, by omega⟩, wrap_i64 (x := ((p / bs.length : Nat) : Int) * 53) ⟨by omega, by omega⟩, hX, wrap_i64 (x := ((pickX bs p : Nat) : Int)) ⟨by omega, by omega⟩]
    generalize pickX bs p = x at *
    have e4 : ((x : Nat) : Int).tdiv 64 = ((x / 64 : Nat) : Int) := by
      rw [show (64 : Int) = ((64 : Nat) : Int) by rfl, ← Int.ofNat_tdiv]
    have hx64 : x / 64 ≤ x := Nat.div_le_self _ _
    rw [e4, wrap_i64 (x := ((x / 64 : Nat) : Int)) ⟨by omega, by omega⟩]
    have e5 : (BitVec.ofInt 64 (x : Int) ^^^ BitVec.ofInt 64 ((x / 64 : Nat) : Int)).toNat = x ^^^ (x / 64) := by
      rw [BitVec.toNat_xor]
      rw [BitVec.ofInt_natCast, BitVec.ofInt_natCast, BitVec.toNat_ofNat, BitVec.toNat_ofNat, Nat.mod_eq_of_lt (by omega), Nat.mod_eq_of_lt (by omega)]
    have e6 : x ^^^ (x / 64) < 2 ^ 40 := Nat.xor_lt_two_pow (by omega) (by omega)
    change aresV [AV.int .i64 ((IntKind.i64.wrap (((BitVec.ofInt 64 (x : Int) ^^^ BitVec.ofInt 64 ((x / 64 : Nat) : Int) : BitVec 64).toNat : Nat) : Int)).tmod n)] = _
    rw [e5, wrap_i64 ⟨by omega, by omega⟩]
    rfl
end Go.Av
set_option linter.unusedVariables false
set_option linter.unusedSimpArgs false
namespace Go.Av
open Go
set_option maxRecDepth 10000
set_option maxHeartbeats 1000000
theorem ar_bs {n : Nat} {ops : Array Oper} {Q : Env → Heap → Prop} {os : List Oper} {env : Env} {H : Heap} {d : Tmp} {op : Op} {ty : TypeId} {pos : String} {after : Array Edge} {guard : Option (Nat × Bool)} {len sz : Nat} (xs : List (List AV))
    (h : aop T ⟨some d, op, ty, pos, after, guard⟩ env H = some ⟨none, .asl H.length len sz xs, [(H.length, .tok len)], []⟩) (hd : Nat.blt d n = true) (hg : aguard ops ⟨some d, op, ty, pos, after, guard⟩ env = some true)
    (hk : ASeq P n ops Q os ((d, .asl H.length len sz xs) :: env) (H ++ [.tok len])) : ASeq P n ops Q (⟨some d, op, ty, pos, after, guard⟩ :: os) env H :=
  ar_w T_ok h (by simp [hd, okIdsB, Nat.ble_eq]) hg trivial (by simp [Heap.puts, Heap.put_len]) hk
theorem ard_bs {n : Nat} {ops : Array Oper} {Q : Env → Heap → Prop} {os : List Oper} {acc : List Itm} {env : Env} {H : Heap} {d : Tmp} {op : Op} {ty : TypeId} {pos : String} {after : Array Edge} {guard : Option (Nat × Bool)} {len sz : Nat} (xs : List (List AV))
    (h : aop T ⟨some d, op, ty, pos, after, guard⟩ env H = some ⟨none, .asl H.length len sz xs, [(H.length, .tok len)], []⟩) (hd : Nat.blt d n = true) (hg : aguard ops ⟨some d, op, ty, pos, after, guard⟩ env = some true)
    (hk : AReg P n ops true Q os (⟨⟨some d, op, ty, pos, after, guard⟩, ⟨.asl H.length len sz xs, [(H.length, .tok len)], []⟩⟩ :: acc) ((d, .asl H.length len sz xs) :: env) (H ++ [.tok len])) : AReg P n ops true Q (⟨some d, op, ty, pos, after, guard⟩ :: os) acc env H :=
  ard_w T_ok h (by simp [hd, okIdsB, Nat.ble_eq]) hg trivial (by simp [Heap.puts, Heap.put_len]) hk
def intsAV (ks : List Int) : List (List AV) := ks.map fun k => [.int .i64 k]
theorem intsAV_len (ks : List Int) : (intsAV ks).length = ks.length := by simp [intsAV]
theorem intsAV_get {ks : List Int} {i : Nat} (h : i < ks.length) : (intsAV ks).getD i [] = [.int .i64 (ks.getD i 0)] := by
  simp [intsAV, List.getD_eq_getElem?_getD, h]
def pickN (bs : List UInt8) (p n : Nat) : Nat := (pickV bs p n).toNat
theorem pickN_eq (bs : List UInt8) (p n : Nat) : pickV bs p n = (pickN bs p n : Int) := by
  have := (pickV_range bs p n).1
  unfold pickN; omega
theorem pickN_lt (bs : List UInt8) (p n : Nat) (h : 0 < n) : pickN bs p n < n := by
  have h1 := (pickV_range bs p n).2 (by omega)
  have := pickN_eq bs p n
  omega
theorem of_ok (bs : List UInt8) (ns : List (List UInt8)) (p b t e : Nat) (H : Heap) (hb : H.at b = rdB bs p) (hbl : b < H.length) (hl : Len bs) (hp : p ≤ 1000000000) (hn0 : 0 < ns.length) (hn1 : ns.length ≤ 1000000) : FCall P 50 [.ptr b 0 0, .asl t e 1 (strs ns)] H fun r H' => r = .str (ns.getD (pickN bs p ns.length) []) ∧ H' = H.put b (rdB bs (p + 1)) := by
  refine fcall_walk T_ok ok_50 rfl ?_
  unfold Go.Proofs.Try.f50
  simp only [Option.getD_some, envOf, Nat.zero_add, Nat.reduceAdd]
  have hlt := pickN_lt bs p ns.length hn0
  have hx := strs_get hlt
  (all_goals (have X1 := @strs_len; (repeat' (first | refine gg ?_ | (refine gd ?_ ?_ <;> (intro hcond; try (exfalso; omega))) | (refine gc ?_ ?_ <;> intro hcs) | fail)); all_goals try clear X1))
  (have X1 := @strs_len; ((apply ar_fcall rfl ok_49); (focus exact eva); (focus exact pick_ok bs ns.length p b H hb hbl hl hp (by omega)); (focus rfl); (focus rfl)); all_goals try clear X1)
  rintro _ _ ⟨rfl, rfl⟩
  rw [pickN_eq]
  (all_goals (have X1 := @strs_len; have X2 := @hx; have X3 := @Int.toNat_natCast; (repeat' (first | refine gg ?_ | (refine gd ?_ ?_ <;> (intro hcond; try (exfalso; omega))) | (refine gc ?_ ?_ <;> intro hcs) | fail)); all_goals try clear X1 X2 X3))
  exact ⟨rfl, rfl⟩
theorem one_ok (bs : List UInt8) (ns : List Int) (p b t e : Nat) (H : Heap) (hb : H.at b = rdB bs p) (hbl : b < H.length) (hl : Len bs) (hp : p ≤ 1000000000) (hn0 : 0 < ns.length) (hn1 : ns.length ≤ 1000000) : FCall P 76 [.ptr b 0 0, .asl t e 1 (intsAV ns)] H fun r H' => r = .int .i64 (ns.getD (pickN bs p ns.length) 0) ∧ H' = H.put b (rdB bs (p + 1)) := by
  refine fcall_walk T_ok ok_76 rfl ?_
  unfold Go.Proofs.Try.f76
  simp only [Option.getD_some, envOf, Nat.zero_add, Nat.reduceAdd]
  have hlt := pickN_lt bs p ns.length hn0
  have hx := intsAV_get hlt
  (all_goals (have X1 := @intsAV_len; (repeat' (first | refine gg ?_ | (refine gd ?_ ?_ <;> (intro hcond; try (exfalso; omega))) | (refine gc ?_ ?_ <;> intro hcs) | fail)); all_goals try clear X1))
  (have X1 := @intsAV_len; ((apply ar_fcall rfl ok_49); (focus exact eva); (focus exact pick_ok bs ns.length p b H hb hbl hl hp (by omega)); (focus rfl); (focus rfl)); all_goals try clear X1)
  rintro _ _ ⟨rfl, rfl⟩
  rw [pickN_eq]
  (all_goals (have X1 := @intsAV_len; have X2 := @hx; have X3 := @Int.toNat_natCast; (repeat' (first | refine gg ?_ | (refine gd ?_ ?_ <;> (intro hcond; try (exfalso; omega))) | (refine gc ?_ ?_ <;> intro hcs) | fail)); all_goals try clear X1 X2 X3))
  exact ⟨rfl, rfl⟩
theorem l1Open_ok (bs : List UInt8) (hl : Len bs) (H : Heap) : FCall P 47 [.fsl 1 (byAV bs)] H fun r H' => r = .ptr H.length 0 0 ∧ ∃ bs', Len bs' ∧ H' = H ++ [rdB bs' 0] := by
  refine fcall_walk T_ok ok_47 rfl ?_
  unfold Go.Proofs.Try.f47
  simp only [Option.getD_some, envOf, Nat.zero_add, Nat.reduceAdd]
  (all_goals (have X1 := @byAV_len; (repeat' (first | refine gg ?_ | (refine gd ?_ ?_ <;> (intro hcond; try (exfalso; omega))) | (refine gc ?_ ?_ <;> intro hcs) | fail)); all_goals try clear X1))
  · refine ⟨rfl, bs.take 2000, by simp only [Len, List.length_take] at hl ⊢; omega, ?_⟩
    simp [rdB, byAV, List.map_take]
  · exact ⟨rfl, bs, hl, rfl⟩
theorem l1Many_ok (s : List UInt8) (n : Nat) (hs : s.length * n ≤ 1000) (hs2 : s.length ≤ 1000) (hnb : n ≤ 1000000) : QCall P 78 [.str s, .int .i64 n] fun r => ∃ out : List UInt8, r = .str out ∧ out.length ≤ 1000 := by
  refine qcall_of_fcall (fcall_walk T_ok ok_78 rfl ?_)
  unfold Go.Proofs.Try.f78
  simp only [Option.getD_some, envOf, Nat.zero_add, Nat.reduceAdd]
  (all_goals (have X1 := @byAV_len; (repeat' (first | refine gg ?_ | (refine gd ?_ ?_ <;> (intro hcond; try (exfalso; omega))) | (refine gc ?_ ?_ <;> intro hcs) | fail)); all_goals try clear X1))
  refine aw_loopn (fun kk env H => ∃ (s' out : List UInt8), out.length + s'.length * kk ≤ 1000 ∧ s'.length ≤ 2000 ∧ kk ≤ 1000000 ∧ env = [(0, .str s'), (1, .int .i64 (kk : Int)), (5, .str out)]) n [(0, .str s), (1, .int .i64 n), (5, .str [])] _ sb (heapW_refl _) rfl ⟨s, [], by simpa using hs, by omega, hnb, rfl⟩ ?_
  rintro kk env H ⟨s', out, h1, h2, hkm, rfl⟩
  rcases Nat.eq_zero_or_pos kk with rfl | hk
  · (all_goals (have X1 := @byAV_len; (repeat' (first | refine gg ?_ | (refine gd ?_ ?_ <;> (intro hcond; try (exfalso; omega))) | (refine gc ?_ ?_ <;> intro hcs) | fail)); all_goals try clear X1))
    exact ⟨_, rfl, out, rfl, by omega⟩
  · have hsk : s'.length ≤ 1000 := by
      have : s'.length * 1 ≤ s'.length * kk := Nat.mul_le_mul_left _ hk
      omega
    have hso : s'.length + out.length ≤ 1000 := by
      have : s'.length * 1 ≤ s'.length * kk := Nat.mul_le_mul_left _ hk
      omega
    have e1 : ((kk : Nat) : Int).tdiv 2 = ((kk / 2 : Nat) : Int) := by
      rw [show (2 : Int) = ((2 : Nat) : Int) by rfl, ← Int.ofNat_tdiv]
    have e2 : s'.length * kk = s'.length * (kk % 2) + (s'.length + s'.length) * (kk / 2) := by
      conv => lhs; rw [← Nat.mod_add_div kk 2]
      rw [Nat.mul_add, ← Nat.mul_assoc, show s'.length * 2 = s'.length + s'.length by omega]
    have hkb : kk ≤ 1000 ∨ s'.length = 0 := by
      rcases Nat.eq_zero_or_pos s'.length with h | h
      · exact .inr h
      · left
        have : 1 * kk ≤ s'.length * kk := Nat.mul_le_mul_right _ h
        omega
    (all_goals (have X1 := @e1; (repeat' (first | refine gg ?_ | (refine gd ?_ ?_ <;> (intro hcond; try (exfalso; omega))) | (refine gc ?_ ?_ <;> intro hcs) | fail)); all_goals try clear X1))
    · have h5 : kk % 2 = 1 := by first | omega | (simp at hcond; omega) | (simp at hcs; omega)
      rw [h5, Nat.mul_one] at e2
      exact anextn [(0, .str (s' ++ s')), (1, .int .i64 ((kk / 2 : Nat) : Int)), (5, .str (out ++ s'))] _ (k' := kk / 2) (by omega) (Nat.le_refl _) sb (heapW_refl _) rfl ⟨s' ++ s', out ++ s', by simp only [List.length_append]; omega, by simp; omega, by omega, rfl⟩
    · have h5 : kk % 2 = 0 := by first | omega | (simp at hcond; omega) | (simp at hcs; omega)
      rw [h5, Nat.mul_zero, Nat.zero_add] at e2
      exact anextn [(0, .str (s' ++ s')), (1, .int .i64 ((kk / 2 : Nat) : Int)), (5, .str out)] _ (k' := kk / 2) (by omega) (Nat.le_refl _) sb (heapW_refl _) rfl ⟨s' ++ s', out, by simp only [List.length_append]; omega, by simp; omega, by omega, rfl⟩
theorem l13Text_ok (bs : List UInt8) (p b : Nat) (H : Heap) (hb : H.at b = rdB bs p) (hbl : b < H.length) (hl : Len bs) (hp : p ≤ 1000000000) : FCall P 100 [.ptr b 0 0] H fun r H' => ∃ s : List UInt8, r = .str s ∧ s.length ≤ 1000 ∧ ∃ N, H' = H.put b (rdB bs (p + 1)) ++ N := by
  refine fcall_walk T_ok ok_100 rfl ?_
  unfold Go.Proofs.Try.f100
  simp only [Option.getD_some, envOf, Nat.zero_add, Nat.reduceAdd]
  (all_goals (have X1 := @hb; (repeat' (first | refine gg ?_ | (refine gd ?_ ?_ <;> (intro hcond; try (exfalso; omega))) | (refine gc ?_ ?_ <;> intro hcs) | fail)); all_goals try clear X1))
  refine ar_qcall rfl ok_78 rfl (l1Many_ok [120] 40 (by decide) (by decide) (by decide)) rfl rfl ?_
  rintro _ ⟨out, rfl, ho⟩
  (all_goals (have X1 := @hb; (repeat' (first | refine gg ?_ | (refine gd ?_ ?_ <;> (intro hcond; try (exfalso; omega))) | (refine gc ?_ ?_ <;> intro hcs) | fail)); all_goals try clear X1))
  refine ar_bs (strs [[], [97], [104, 101, 108, 108, 111], [34, 113, 34], [108, 105, 110, 101, 10], [0, 255], [92], out, [67, 65, 84]]) rfl rfl rfl ?_
  have hb' := (Heap.at_old H [Blk.tok 9] hbl).trans hb
  (have X1 := @hb; ((apply ar_fcall rfl ok_50); (focus exact eva); (focus exact of_ok bs [[], [97], [104, 101, 108, 108, 111], [34, 113, 34], [108, 105, 110, 101, 10], [0, 255], [92], out, [67, 65, 84]] p b _ _ _ hb' (by simp; omega) hl hp (by simp) (by simp)); (focus rfl); (focus rfl)); all_goals try clear X1)
  rintro _ _ ⟨rfl, rfl⟩
  (all_goals (have X1 := @hb; (repeat' (first | refine gg ?_ | (refine gd ?_ ?_ <;> (intro hcond; try (exfalso; omega))) | (refine gc ?_ ?_ <;> intro hcs) | fail)); all_goals try clear X1))
  refine ⟨_, rfl, ?_, [.tok 9], Heap.put_old _ _ _ _ hbl⟩
  have hm := mem_getD (xs := [[], [97], [104, 101, 108, 108, 111], [34, 113, 34], [108, 105, 110, 101, 10], [0, 255], [92], out, [67, 65, 84]]) (d := []) (pickN_lt bs p 9 (by omega))
  generalize List.getD _ _ _ = s at hm ⊢
  simp only [List.mem_cons, List.not_mem_nil, or_false] at hm
  rcases hm with rfl | rfl | rfl | rfl | rfl | rfl | rfl | rfl | rfl <;> first | exact ho | decide
end Go.Av
