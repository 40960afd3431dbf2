/- The program's HubDrop, and hubs laid out with a known outcome, within bounds of their sizes. -/
import Derived.Test.YtfdafamjgnbecaaSed
set_option linter.unusedVariables false
set_option linter.unusedSimpArgs false
namespace Go.Av
open Go
set_option maxRecDepth 10000

/-- what is laid out for a copy of nodes, from a number on -/
def cpNs (n : Nat) : List GN → List (List AV) × List Blk
  | [] => ([], [])
  | v :: r => ((.int .i64 v.id :: .str v.ty :: (cpV (n + 3) v.cells).1) :: (cpNs (n + 3 + (cpV (n + 3) v.cells).2.length) r).1, .dead :: .dead :: .dead :: ((cpV (n + 3) v.cells).2 ++ (cpNs (n + 3 + (cpV (n + 3) v.cells).2.length) r).2))
theorem cpNs_len : ∀ (l : List GN) (n : Nat), (cpNs n l).1.length = l.length
  | [], n => rfl
  | v :: r, n => by simp [cpNs, cpNs_len r]
theorem cpNs_snoc : ∀ (l : List GN) (n : Nat) (v : GN), cpNs n (l ++ [v]) = ((cpNs n l).1 ++ [.int .i64 v.id :: .str v.ty :: (cpV (n + (cpNs n l).2.length + 3) v.cells).1], (cpNs n l).2 ++ .dead :: .dead :: .dead :: (cpV (n + (cpNs n l).2.length + 3) v.cells).2)
  | [], n, v => by simp [cpNs]
  | u :: r, n, v => by
    have := cpNs_snoc r (n + 3 + (cpV (n + 3) u.cells).2.length) v
    simp only [List.cons_append, cpNs, this, List.length_cons, List.length_append, List.append_assoc]
    rw [show n + 3 + (cpV (n + 3) u.cells).2.length + (cpNs (n + 3 + (cpV (n + 3) u.cells).2.length) r).2.length + 3 = n + ((cpV (n + 3) u.cells).2.length + (cpNs (n + 3 + (cpV (n + 3) u.cells).2.length) r).2.length + 1 + 1 + 1) + 3 by omega]
theorem cpNs_abv : ∀ (l : List GN) (n n0 : Nat), n0 ≤ n → (cpNs n l).1.all (abvL n0) = true ∧ ∀ x ∈ (cpNs n l).2, Blk.abv n0 x = true
  | [], n, n0, h0 => ⟨rfl, fun x hx => by cases hx⟩
  | v :: r, n, n0, h0 => by
    have h1 := cpV_abv v.cells (n + 3) n0 (by omega)
    have h2 := cpNs_abv r (n + 3 + (cpV (n + 3) v.cells).2.length) n0 (by omega)
    simp only [cpNs]
    refine ⟨by simp only [List.all_cons, abvL, AV.abv, h1.1, h2.1, Bool.and_self, Bool.true_and], fun y hy => ?_⟩
    simp only [List.mem_cons, List.mem_append] at hy
    rcases hy with rfl | rfl | rfl | hy | hy
    · rfl
    · rfl
    · rfl
    · exact h1.2 y hy
    · exact h2.2 y hy
theorem cpNs_LN : ∀ (l : List GN) (G : Heap), ∃ ids, LNs (G ++ (cpNs G.length l).2) l (cpNs G.length l).1 ids ∧ ids.Nodup ∧ ∀ b ∈ ids, G.length ≤ b ∧ b < G.length + (cpNs G.length l).2.length
  | [], G => ⟨[], ⟨rfl, rfl⟩, .nil, fun b hb => by cases hb⟩
  | v :: r, G => by
    simp only [cpNs]
    obtain ⟨⟨c, B⟩, hcB⟩ : ∃ p, cpV (G.length + 3) v.cells = p := ⟨_, rfl⟩
    simp only [hcB]
    obtain ⟨⟨es, N⟩, hEN⟩ : ∃ p, cpNs (G.length + 3 + B.length) r = p := ⟨_, rfl⟩
    simp only [hEN]
    obtain ⟨i1, h1, h2, h3⟩ := cpV_LV v.cells (G ++ [.dead, .dead, .dead])
    rw [show (G ++ [Blk.dead, .dead, .dead]).length = G.length + 3 by simp, hcB] at h1 h3
    obtain ⟨i2, g1, g2, g3⟩ := cpNs_LN r (G ++ .dead :: .dead :: .dead :: B)
    rw [show (G ++ Blk.dead :: .dead :: .dead :: B).length = G.length + 3 + B.length by simp; omega, hEN] at g1 g3
    simp only [List.append_assoc, List.cons_append, List.nil_append] at h1 g1 h3 g3
    refine ⟨i1 ++ i2, ⟨_, _, i1, i2, rfl, ⟨_, rfl, LV.mono v.cells h1 fun b hb => ?_⟩, g1, rfl⟩, ?_, fun b hb => ?_⟩
    · have := h3 b hb
      exact at_tail3 (by omega) (by omega)
    · rw [List.nodup_append]
      exact ⟨h2, g2, fun p hp q hq => by have := h3 p hp; have := g3 q hq; omega⟩
    · simp only [List.length_cons, List.length_append]
      rcases List.mem_append.1 hb with hb | hb
      · have := h3 b hb; omega
      · have := g3 b hb; omega

/-- the copy of a list of nodes -/
def cpN (n : Nat) (l : List GN) : AV × List Blk := match l with
  | [] => (.nsl 7, [])
  | _ => (.row n 0 l.length (some l.length) 7, .row 7 (cpNs (n + 1) l).1 :: (cpNs (n + 1) l).2)
theorem cpN_pos {n : Nat} {l : List GN} (h : 0 < l.length) : cpN n l = (.row n 0 l.length (some l.length) 7, .row 7 (cpNs (n + 1) l).1 :: (cpNs (n + 1) l).2) := by
  cases l with
  | nil => simp at h
  | cons v r => rfl
theorem cpN_LN (l : List GN) (G Z : Heap) : ∃ ids, LNS (G ++ ((cpN G.length l).2 ++ Z)) l (cpN G.length l).1 ids ∧ ids.Nodup ∧ ∀ b ∈ ids, G.length ≤ b ∧ b < G.length + (cpN G.length l).2.length := by
  cases l with
  | nil => exact ⟨[], .inl ⟨rfl, rfl, rfl⟩, .nil, fun b hb => by cases hb⟩
  | cons v r =>
    rw [cpN_pos (by simp)]
    obtain ⟨ids, h1, h2, h3⟩ := cpNs_LN (v :: r) (G ++ [.row 7 (cpNs (G.length + 1) (v :: r)).1])
    have hl : (G ++ [Blk.row 7 (cpNs (G.length + 1) (v :: r)).1]).length = G.length + 1 := by simp
    rw [hl] at h1 h3
    simp only [List.append_assoc, List.cons_append, List.nil_append] at h1 ⊢
    refine ⟨G.length :: ids, .inr ⟨_, _, _, ids, rfl, by rw [Heap.at_app0]; rfl, LNs.mono _ h1 fun b hb => ?_, rfl⟩, List.nodup_cons.2 ⟨fun h => ?_, h2⟩, fun b hb => ?_⟩
    · have := h3 b hb
      exact at_tail1 this.1 (by omega)
    · have := h3 _ h; omega
    · rcases List.mem_cons.1 hb with rfl | hb
      · simp
      · have := h3 b hb; simp; omega
theorem cpN_abv (l : List GN) (n : Nat) : (cpN n l).1.abv n = true ∧ ∀ x ∈ (cpN n l).2, Blk.abv n x = true := by
  cases l with
  | nil => exact ⟨rfl, fun x hx => by cases hx⟩
  | cons v r =>
    rw [cpN_pos (by simp)]
    have h := cpNs_abv (v :: r) (n + 1) n (by omega)
    refine ⟨by simp [AV.abv], fun x hx => ?_⟩
    rcases List.mem_cons.1 hx with rfl | hx
    · exact h.1
    · exact h.2 x hx

theorem copyNodes_fixrow (l : List GN) (b cap : Nat) (H : Heap) (es : List (List AV)) (ids : List Nat) (hat : H.at b = .row 7 es) (hL : LNs H l es ids) (hb : ∀ c ∈ b :: ids, c < H.length) (hnd : ids.Nodup) (h0 : 0 < l.length) (hll : Len l) (hf : ∀ v ∈ l, v.fits) :
    FCall P 30 [.row b 0 l.length (some cap) 7] H fun r H' => r = .row H.length 0 l.length (some l.length) 7 ∧ H' = H ++ .row 7 (cpNs (H.length + 1) l).1 :: (cpNs (H.length + 1) l).2 := by
  refine fcall_walk T_ok ok_30 rfl ?_
  unfold Go.Proofs.Try.f30
  simp only [Option.getD_some, envOf, Nat.zero_add, Nat.reduceAdd]
  repeat' (first | ((with_reducible first | apply ar_w T_ok | apply ar_w0 T_ok | apply ard_w T_ok | apply ard_w0 T_ok); (focus (simp (disch := omega) only [go_sem, Nat.reduceLT, Nat.reduceAdd, Nat.reduceLeDiff, Nat.reduceMul, Nat.reduceEqDiff, Nat.reduceBEq, reduceIte, List.length_nil] <;> rfl)); (focus (first | rfl | (simp [okIdsB, Nat.ble_eq]; done))); (focus rfl); (focus (first | trivial | (simp only [preOK]; omega) | exact ⟨by first | trivial | rfl | omega, by assumption, by omega⟩ | (simp [preOK, AllBytes, List.length_nil]; first | done | omega))); (focus (simp only [List.length_nil, Heap.puts, Heap.put_app, Heap.put_app0, Heap.put_len, Heap.put, List.length_append, List.length_cons, List.length_nil, Nat.zero_add, Nat.reduceAdd] <;> rfl))) | with_reducible (first | refine aw_reg_d P_mixed ?_ | refine ar_done ?_ | refine aw_seq ?_ | refine aw_reg ?_ | refine aw_block ?_ | refine aw_skip ?_ | refine aw_exit ?_ | refine aw_ret ?_ | refine at_n ?_ | refine at_e ?_ | refine at_r ?_ | refine ab_n ?_ | refine ab_r ?_ | refine ab_e ?_ | refine ab_ne rfl ?_ | refine an_e ?_ | refine an_r ?_ | refine am_e ?_ | refine am_r ?_) | ((with_reducible apply aw_cond_f); (focus (simp only [go_sem, Nat.reduceLT, Nat.reduceAdd, Nat.reduceLeDiff, Nat.reduceMul, Nat.reduceEqDiff, Nat.reduceBEq, reduceIte, List.length_nil] <;> rfl))) | ((with_reducible apply aw_cond_t); (focus (simp only [go_sem, Nat.reduceLT, Nat.reduceAdd, Nat.reduceLeDiff, Nat.reduceMul, Nat.reduceEqDiff, Nat.reduceBEq, reduceIte, List.length_nil] <;> rfl))) | ((with_reducible apply aw_cond_d); (focus (simp only [go_sem, Nat.reduceLT, Nat.reduceAdd, Nat.reduceLeDiff, Nat.reduceMul, Nat.reduceEqDiff, Nat.reduceBEq, reduceIte, List.length_nil] <;> rfl)); all_goals (intro hcond; try (exfalso; omega))) | ((with_reducible first | apply ae_r | apply ae_n); (focus (simp only [go_sem, Nat.reduceLT, Nat.reduceAdd, Nat.reduceLeDiff, Nat.reduceMul, Nat.reduceEqDiff, Nat.reduceBEq, reduceIte, List.length_nil] <;> rfl))) | ((with_reducible apply ard_done); (focus rfl)))
  have hb1 := hb b (by simp)
  have hbi : ∀ c ∈ ids, c < H.length := fun c hc => hb c (by simp [hc])
  have hes : es.length = l.length := hL.len
  have hold : ∀ (G : Heap) c, c < H.length → Heap.at (H ++ G) c = H.at c := fun G c hc => Heap.at_old _ _ hc
  have hbes : ∀ G, Heap.at (H ++ G) b = .row 7 es := fun G => (hold G b hb1).trans hat
  obtain ⟨M0, hM0⟩ : ∃ M, H.length + 1 = M := ⟨_, rfl⟩
  rw [hM0]
  refine aw_loopn (fun kk env H1 => ∃ (i : Nat), i ≤ l.length ∧ kk = l.length - i ∧ env = [(3, .row H.length 0 l.length (some l.length) 7), (12, .row b 0 l.length (some cap) 7), (13, .int .i64 l.length), (14, .int .i64 i)] ∧
      H1 = H ++ (.row 7 ((cpNs M0 (l.take i)).1 ++ List.replicate (l.length - i) [.int .i64 0, .str [], .int .i64 0, .int .i64 0, .str [], .nsl 5, .nsl 1]) :: (cpNs M0 (l.take i)).2)) l.length
    [(3, .row H.length 0 l.length (some l.length) 7), (12, .row b 0 l.length (some cap) 7), (13, .int .i64 l.length), (14, .int .i64 0)] _ (by simp [subP, Env.get, Weak.refl]) (heapW_refl _) rfl ⟨0, Nat.zero_le _, rfl, rfl, rfl⟩ ?_
  rintro kk env H1 ⟨i, hi, hk, rfl, rfl⟩
  have hA : (cpNs M0 (l.take i)).1.length = i := by rw [cpNs_len]; simp; omega
  obtain ⟨⟨E, N⟩, hEN⟩ : ∃ p, cpNs M0 (l.take i) = p := ⟨_, rfl⟩
  rw [hEN] at hA
  dsimp only at hA
  simp only [hEN]
  by_cases hlt : i < l.length
  · have hmem := mem_getD (d := default) hlt
    have hff := hf _ hmem
    obtain ⟨j, hLN, hj1, hj2⟩ := hL.get i hlt
    obtain ⟨u, hu⟩ : ∃ u, l.getD i default = u := ⟨_, rfl⟩
    obtain ⟨csu, hcsu⟩ : ∃ c, es.getD i [] = c := ⟨_, rfl⟩
    rw [hu, hcsu] at hLN
    rw [hu] at hmem hff
    obtain ⟨c, rfl, hV⟩ := hLN
    obtain ⟨k', n', t', aL', aN', rfl, hc1, hc2⟩ := hV.shape
    repeat' (first | ((with_reducible first | apply ar_w T_ok | apply ar_w0 T_ok | apply ard_w T_ok | apply ard_w0 T_ok); (focus (simp (disch := omega) only [go_sem, Nat.reduceLT, Nat.reduceAdd, Nat.reduceLeDiff, Nat.reduceMul, Nat.reduceEqDiff, Nat.reduceBEq, reduceIte, hbes, hcsu, hes, hc1, hc2] <;> rfl)); (focus (first | rfl | (simp [okIdsB, Nat.ble_eq]; done))); (focus rfl); (focus (first | trivial | (simp only [preOK]; omega) | exact ⟨by first | trivial | rfl | omega, by assumption, by omega⟩ | (simp [preOK, AllBytes, hbes, hcsu, hes, hc1, hc2]; first | done | omega))); (focus (simp only [hbes, hcsu, hes, hc1, hc2, Heap.puts, Heap.put_app, Heap.put_app0, Heap.put_len, Heap.put, List.length_append, List.length_cons, List.length_nil, Nat.zero_add, Nat.reduceAdd] <;> rfl))) | with_reducible (first | refine aw_reg_d P_mixed ?_ | refine ar_done ?_ | refine aw_seq ?_ | refine aw_reg ?_ | refine aw_block ?_ | refine aw_skip ?_ | refine aw_exit ?_ | refine aw_ret ?_ | refine at_n ?_ | refine at_e ?_ | refine at_r ?_ | refine ab_n ?_ | refine ab_r ?_ | refine ab_e ?_ | refine ab_ne rfl ?_ | refine an_e ?_ | refine an_r ?_ | refine am_e ?_ | refine am_r ?_) | ((with_reducible apply aw_cond_f); (focus (simp only [go_sem, Nat.reduceLT, Nat.reduceAdd, Nat.reduceLeDiff, Nat.reduceMul, Nat.reduceEqDiff, Nat.reduceBEq, reduceIte, hbes, hcsu, hes, hc1, hc2] <;> rfl))) | ((with_reducible apply aw_cond_t); (focus (simp only [go_sem, Nat.reduceLT, Nat.reduceAdd, Nat.reduceLeDiff, Nat.reduceMul, Nat.reduceEqDiff, Nat.reduceBEq, reduceIte, hbes, hcsu, hes, hc1, hc2] <;> rfl))) | ((with_reducible apply aw_cond_d); (focus (simp only [go_sem, Nat.reduceLT, Nat.reduceAdd, Nat.reduceLeDiff, Nat.reduceMul, Nat.reduceEqDiff, Nat.reduceBEq, reduceIte, hbes, hcsu, hes, hc1, hc2] <;> rfl)); all_goals (intro hcond; try (exfalso; omega))) | ((with_reducible first | apply ae_r | apply ae_n); (focus (simp only [go_sem, Nat.reduceLT, Nat.reduceAdd, Nat.reduceLeDiff, Nat.reduceMul, Nat.reduceEqDiff, Nat.reduceBEq, reduceIte, hbes, hcsu, hes, hc1, hc2] <;> rfl))) | ((with_reducible apply ard_done); (focus rfl)))
    have hcall : ∀ X : Heap, (∀ H1 : Heap, H1.length = (H ++ X).length → (∀ c ∈ j, H1.at c = (H ++ X).at c) →
            FCall P 57 [.agg [.int .i64 k', .int .i64 n', .str t', aL', aN']] H1 fun r H' => r = .agg (cpV ((H ++ X).length + 2) u.cells).1 ∧ H' = H1 ++ (.dead :: .dead :: (cpV ((H ++ X).length + 2) u.cells).2)) ∧
          blwL (H ++ X).length [.agg [.int .i64 k', .int .i64 n', .str t', aL', aN']] = true ∧ (∀ c ∈ j, c < (H ++ X).length ∧ ((H ++ X).at c).blw (H ++ X).length = true) ∧ (∀ c ∈ j, ∃ sz es, (H ++ X).at c = .row sz es) := by
      intro X
      have hlen : (H ++ X).length = H.length + X.length := by simp
      have hLX : LV (H ++ X) u.cells _ j := LV.mono u.cells hV fun c hc => hold X c (hbi c (hj1 c hc))
      have hjlt : ∀ c ∈ j, c < (H ++ X).length := fun c hc => by have := hbi c (hj1 c hc); omega
      have hr1 := LV.rows u.cells hLX hjlt
      refine ⟨fun H1 e1 e2 => ?_, ?_, fun c hc => ⟨hjlt c hc, hr1.2.1 c hc⟩, hr1.2.2⟩
      · rw [← e1]
        exact copyValue_ok u.cells hff.2.2 _ j H1 (LV.mono u.cells hLX e2) (fun c hc => by rw [e1]; exact hjlt c hc) (hj2 hnd)
      · show (blwL _ _ && true) = true
        rw [hr1.1]; rfl
    ((apply ard_fcall (log := j) rfl ok_57); (focus (simp only [go_sem, Nat.reduceLT, Nat.reduceAdd, Nat.reduceLeDiff, Nat.reduceMul, Nat.reduceEqDiff, Nat.reduceBEq, reduceIte, hbes, hcsu, hes, hc1, hc2, List.map] <;> rfl)); (focus exact (hcall _).1); (rotate_left 5); (focus rfl); (focus rfl))
    rotate_left
    · exact (hcall _).2.1
    · exact (hcall _).2.2.1
    · exact (hcall _).2.2.2
    · simp only [AV.abv]; exact (cpV_abv u.cells _ _ (by omega)).1
    · intro x hx
      simp only [List.mem_cons] at hx
      rcases hx with rfl | rfl | hx
      · rfl
      · rfl
      · exact (cpV_abv u.cells _ _ (by omega)).2 x hx
    simp only [List.length_append, List.length_cons, List.length_nil, Nat.zero_add, Nat.reduceAdd]
    obtain ⟨M, hM⟩ : ∃ M, H.length + (N.length + 1 + 1) + 2 = M := ⟨_, rfl⟩
    rw [hM]
    obtain ⟨k2, n2, t2, aL2, aN2, hcu, hd1, hd2⟩ := cpV_shape M u.cells
    obtain ⟨⟨cu, Bu⟩, hcB⟩ : ∃ p, cpV M u.cells = p := ⟨_, rfl⟩
    have htk : cpNs M0 (l.take (i + 1)) = (E ++ [.int .i64 u.id :: .str u.ty :: cu], N ++ .dead :: .dead :: .dead :: Bu) := by
      rw [List.take_succ_eq_append_getElem hlt, cpNs_snoc, hEN, show l[i] = u by rw [← hu]; simp [List.getD_eq_getElem?_getD, hlt]]
      dsimp only
      rw [show M0 + N.length + 3 = M by omega, hcB]
    rw [hcB] at hcu ⊢
    dsimp only at hcu
    subst hcu
    simp only [List.append_assoc, List.cons_append, List.nil_append]
    have hset := set_fill (z := [AV.int .i64 0, .str [], .int .i64 0, .int .i64 0, .str [], .nsl 5, .nsl 1]) (e := [.int .i64 u.id, .str u.ty, .int .i64 k2, .int .i64 n2, .str t2, aL2, aN2]) hA hlt
    have hget := getD_fill (z := [AV.int .i64 0, .str [], .int .i64 0, .int .i64 0, .str [], .nsl 5, .nsl 1]) (d := []) hA hlt
    repeat' (first | ((with_reducible first | apply ar_w T_ok | apply ar_w0 T_ok | apply ard_w T_ok | apply ard_w0 T_ok); (focus (simp (disch := omega) only [go_sem, Nat.reduceLT, Nat.reduceAdd, Nat.reduceLeDiff, Nat.reduceMul, Nat.reduceEqDiff, Nat.reduceBEq, reduceIte, hbes, hcsu, hes, hd1, hd2, hset, hget] <;> rfl)); (focus (first | rfl | (simp [okIdsB, Nat.ble_eq]; done))); (focus rfl); (focus (first | trivial | (simp only [preOK]; omega) | exact ⟨by first | trivial | rfl | omega, by assumption, by omega⟩ | (simp [preOK, AllBytes, hbes, hcsu, hes, hd1, hd2, hset, hget]; first | done | omega))); (focus (simp only [hbes, hcsu, hes, hd1, hd2, hset, hget, Heap.puts, Heap.put_app, Heap.put_app0, Heap.put_len, Heap.put, List.length_append, List.length_cons, List.length_nil, Nat.zero_add, Nat.reduceAdd] <;> rfl))) | with_reducible (first | refine aw_reg_d P_mixed ?_ | refine ar_done ?_ | refine aw_seq ?_ | refine aw_reg ?_ | refine aw_block ?_ | refine aw_skip ?_ | refine aw_exit ?_ | refine aw_ret ?_ | refine at_n ?_ | refine at_e ?_ | refine at_r ?_ | refine ab_n ?_ | refine ab_r ?_ | refine ab_e ?_ | refine ab_ne rfl ?_ | refine an_e ?_ | refine an_r ?_ | refine am_e ?_ | refine am_r ?_) | ((with_reducible apply aw_cond_f); (focus (simp only [go_sem, Nat.reduceLT, Nat.reduceAdd, Nat.reduceLeDiff, Nat.reduceMul, Nat.reduceEqDiff, Nat.reduceBEq, reduceIte, hbes, hcsu, hes, hd1, hd2, hset, hget] <;> rfl))) | ((with_reducible apply aw_cond_t); (focus (simp only [go_sem, Nat.reduceLT, Nat.reduceAdd, Nat.reduceLeDiff, Nat.reduceMul, Nat.reduceEqDiff, Nat.reduceBEq, reduceIte, hbes, hcsu, hes, hd1, hd2, hset, hget] <;> rfl))) | ((with_reducible apply aw_cond_d); (focus (simp only [go_sem, Nat.reduceLT, Nat.reduceAdd, Nat.reduceLeDiff, Nat.reduceMul, Nat.reduceEqDiff, Nat.reduceBEq, reduceIte, hbes, hcsu, hes, hd1, hd2, hset, hget] <;> rfl)); all_goals (intro hcond; try (exfalso; omega))) | ((with_reducible first | apply ae_r | apply ae_n); (focus (simp only [go_sem, Nat.reduceLT, Nat.reduceAdd, Nat.reduceLeDiff, Nat.reduceMul, Nat.reduceEqDiff, Nat.reduceBEq, reduceIte, hbes, hcsu, hes, hd1, hd2, hset, hget] <;> rfl))) | ((with_reducible apply ard_done); (focus rfl)))
    refine ard_done_of [(0, 1), (0, 2), (0, 3), (0, 4), (0, 5), (0, 6), (0, 7), (0, 8), (0, 9), (1, 2), (1, 3), (1, 4), (1, 5), (1, 6), (1, 7), (1, 8), (1, 9), (2, 4), (2, 5), (2, 6), (2, 7), (2, 8), (3, 4), (3, 5), (3, 6), (3, 7), (3, 8), (4, 6), (4, 7), (4, 8), (5, 6), (5, 7), (5, 8)] rfl rfl rfl rfl ?_ ?_
    · simp only [List.all_cons, List.all_nil, List.reverse_cons, List.reverse_nil, List.nil_append, List.cons_append, List.append_assoc, effOf, List.getElem?_cons_zero, List.getElem?_cons_succ, apartH, Bool.and_true, Bool.true_and, List.contains_nil, Bool.not_false, Bool.and_eq_true, and_true, true_and, and_self]
      repeat' apply And.intro
      all_goals first | (apply all_newWr'; intro k x h1 h2; simp at h1 h2 ⊢; done) | (apply all_newWr'; intro k x h1 h2; simp at h1 h2 ⊢; omega)
    repeat' (first | ((with_reducible first | apply ar_w T_ok | apply ar_w0 T_ok | apply ard_w T_ok | apply ard_w0 T_ok); (focus (simp (disch := omega) only [go_sem, Nat.reduceLT, Nat.reduceAdd, Nat.reduceLeDiff, Nat.reduceMul, Nat.reduceEqDiff, Nat.reduceBEq, reduceIte, hbes, hcsu, hes, hd1, hd2, hset, hget] <;> rfl)); (focus (first | rfl | (simp [okIdsB, Nat.ble_eq]; done))); (focus rfl); (focus (first | trivial | (simp only [preOK]; omega) | exact ⟨by first | trivial | rfl | omega, by assumption, by omega⟩ | (simp [preOK, AllBytes, hbes, hcsu, hes, hd1, hd2, hset, hget]; first | done | omega))); (focus (simp only [hbes, hcsu, hes, hd1, hd2, hset, hget, Heap.puts, Heap.put_app, Heap.put_app0, Heap.put_len, Heap.put, List.length_append, List.length_cons, List.length_nil, Nat.zero_add, Nat.reduceAdd] <;> rfl))) | with_reducible (first | refine aw_reg_d P_mixed ?_ | refine ar_done ?_ | refine aw_seq ?_ | refine aw_reg ?_ | refine aw_block ?_ | refine aw_skip ?_ | refine aw_exit ?_ | refine aw_ret ?_ | refine at_n ?_ | refine at_e ?_ | refine at_r ?_ | refine ab_n ?_ | refine ab_r ?_ | refine ab_e ?_ | refine ab_ne rfl ?_ | refine an_e ?_ | refine an_r ?_ | refine am_e ?_ | refine am_r ?_) | ((with_reducible apply aw_cond_f); (focus (simp only [go_sem, Nat.reduceLT, Nat.reduceAdd, Nat.reduceLeDiff, Nat.reduceMul, Nat.reduceEqDiff, Nat.reduceBEq, reduceIte, hbes, hcsu, hes, hd1, hd2, hset, hget] <;> rfl))) | ((with_reducible apply aw_cond_t); (focus (simp only [go_sem, Nat.reduceLT, Nat.reduceAdd, Nat.reduceLeDiff, Nat.reduceMul, Nat.reduceEqDiff, Nat.reduceBEq, reduceIte, hbes, hcsu, hes, hd1, hd2, hset, hget] <;> rfl))) | ((with_reducible apply aw_cond_d); (focus (simp only [go_sem, Nat.reduceLT, Nat.reduceAdd, Nat.reduceLeDiff, Nat.reduceMul, Nat.reduceEqDiff, Nat.reduceBEq, reduceIte, hbes, hcsu, hes, hd1, hd2, hset, hget] <;> rfl)); all_goals (intro hcond; try (exfalso; omega))) | ((with_reducible first | apply ae_r | apply ae_n); (focus (simp only [go_sem, Nat.reduceLT, Nat.reduceAdd, Nat.reduceLeDiff, Nat.reduceMul, Nat.reduceEqDiff, Nat.reduceBEq, reduceIte, hbes, hcsu, hes, hd1, hd2, hset, hget] <;> rfl))) | ((with_reducible apply ard_done); (focus rfl)))
    refine anextn [(3, .row H.length 0 l.length (some l.length) 7), (12, .row b 0 l.length (some cap) 7), (13, .int .i64 l.length), (14, .int .i64 (i + 1 : Nat))] _ (k' := l.length - (i + 1)) (by omega) (by simp) ?_ ?_ ?_ ⟨i + 1, by omega, rfl, rfl, rfl⟩
    · simp [subP, Env.get, Weak.refl]
    · rw [htk]
      exact heapW_app H ⟨.refl _, heapW_app N ⟨.dead _, heapW_refl _⟩⟩
    · rw [htk]; simp
  · have : i = l.length := by omega
    subst this
    repeat' (first | ((with_reducible first | apply ar_w T_ok | apply ar_w0 T_ok | apply ard_w T_ok | apply ard_w0 T_ok); (focus (simp (disch := omega) only [go_sem, Nat.reduceLT, Nat.reduceAdd, Nat.reduceLeDiff, Nat.reduceMul, Nat.reduceEqDiff, Nat.reduceBEq, reduceIte, hbes, hes] <;> rfl)); (focus (first | rfl | (simp [okIdsB, Nat.ble_eq]; done))); (focus rfl); (focus (first | trivial | (simp only [preOK]; omega) | exact ⟨by first | trivial | rfl | omega, by assumption, by omega⟩ | (simp [preOK, AllBytes, hbes, hes]; first | done | omega))); (focus (simp only [hbes, hes, Heap.puts, Heap.put_app, Heap.put_app0, Heap.put_len, Heap.put, List.length_append, List.length_cons, List.length_nil, Nat.zero_add, Nat.reduceAdd] <;> rfl))) | with_reducible (first | refine aw_reg_d P_mixed ?_ | refine ar_done ?_ | refine aw_seq ?_ | refine aw_reg ?_ | refine aw_block ?_ | refine aw_skip ?_ | refine aw_exit ?_ | refine aw_ret ?_ | refine at_n ?_ | refine at_e ?_ | refine at_r ?_ | refine ab_n ?_ | refine ab_r ?_ | refine ab_e ?_ | refine ab_ne rfl ?_ | refine an_e ?_ | refine an_r ?_ | refine am_e ?_ | refine am_r ?_) | ((with_reducible apply aw_cond_f); (focus (simp only [go_sem, Nat.reduceLT, Nat.reduceAdd, Nat.reduceLeDiff, Nat.reduceMul, Nat.reduceEqDiff, Nat.reduceBEq, reduceIte, hbes, hes] <;> rfl))) | ((with_reducible apply aw_cond_t); (focus (simp only [go_sem, Nat.reduceLT, Nat.reduceAdd, Nat.reduceLeDiff, Nat.reduceMul, Nat.reduceEqDiff, Nat.reduceBEq, reduceIte, hbes, hes] <;> rfl))) | ((with_reducible apply aw_cond_d); (focus (simp only [go_sem, Nat.reduceLT, Nat.reduceAdd, Nat.reduceLeDiff, Nat.reduceMul, Nat.reduceEqDiff, Nat.reduceBEq, reduceIte, hbes, hes] <;> rfl)); all_goals (intro hcond; try (exfalso; omega))) | ((with_reducible first | apply ae_r | apply ae_n); (focus (simp only [go_sem, Nat.reduceLT, Nat.reduceAdd, Nat.reduceLeDiff, Nat.reduceMul, Nat.reduceEqDiff, Nat.reduceBEq, reduceIte, hbes, hes] <;> rfl))) | ((with_reducible apply ard_done); (focus rfl)))
    simp only [List.take_length] at hEN
    simp only [Nat.sub_self, List.replicate_zero, List.append_nil, hEN]
    first | exact ⟨rfl, rfl⟩ | exact ⟨trivial, rfl⟩ | trivial

theorem copyNodes_fix (l : List GN) (a : AV) (ids : List Nat) (H : Heap) (hL : LNS H l a ids) (hb : ∀ c ∈ ids, c < H.length) (hnd : ids.Nodup) (hll : Len l) (hf : ∀ v ∈ l, v.fits) :
    FCall P 30 [a] H fun r H' => r = (cpN H.length l).1 ∧ H' = H ++ (cpN H.length l).2 := by
  rcases hL with ⟨rfl, rfl, rfl⟩ | ⟨b, cap, es, i, rfl, g2, g3, rfl⟩
  · refine FCall.mono (copyNodes_nil H) ?_
    rintro r H' ⟨rfl, rfl⟩
    exact ⟨rfl, by simp [cpN]⟩
  · by_cases h0 : 0 < l.length
    · rw [cpN_pos h0]
      exact copyNodes_fixrow l b cap H es i g2 g3 hb (List.nodup_cons.1 hnd).2 h0 hll hf
    · have : l = [] := List.eq_nil_of_length_eq_zero (by omega)
      subst this
      refine FCall.mono (copyNodes_row0 b cap H) ?_
      rintro r H' ⟨rfl, rfl⟩
      exact ⟨rfl, by simp [cpN]⟩
theorem LNs.rows {H : Heap} {n : Nat} : ∀ (l : List GN) {es : List (List AV)} {ids : List Nat}, LNs H l es ids → (∀ b ∈ ids, b < n) → es.all (blwL n) = true ∧ (∀ b ∈ ids, (H.at b).blw n = true) ∧ ∀ b ∈ ids, ∃ sz es, H.at b = .row sz es
  | [], es, ids, h, hb => by
    obtain ⟨rfl, rfl⟩ := h
    exact ⟨rfl, fun b hb => (by cases hb), fun b hb => (by cases hb)⟩
  | v :: r, es, ids, h, hb => by
    obtain ⟨e, es', i1, i2, rfl, ⟨c, rfl, h2⟩, h3, rfl⟩ := h
    obtain ⟨a1, a2, a3⟩ := LV.rows v.cells h2 fun b hb' => hb b (by simp [hb'])
    obtain ⟨b1, b2, b3⟩ := LNs.rows r h3 fun b hb' => hb b (by simp [hb'])
    refine ⟨by simp only [List.all_cons, blwL, AV.blw, a1, b1, Bool.and_self, Bool.true_and], fun b hb => ?_, fun b hb => ?_⟩
    · rcases List.mem_append.1 hb with hb | hb
      · exact a2 b hb
      · exact b2 b hb
    · rcases List.mem_append.1 hb with hb | hb
      · exact a3 b hb
      · exact b3 b hb
theorem LNS.rows {H : Heap} {l : List GN} {a : AV} {ids : List Nat} {n : Nat} (h : LNS H l a ids) (hb : ∀ b ∈ ids, b < n) : a.blw n = true ∧ (∀ b ∈ ids, b < n ∧ (H.at b).blw n = true) ∧ ∀ b ∈ ids, ∃ sz es, H.at b = .row sz es := by
  rcases h with ⟨rfl, rfl, rfl⟩ | ⟨b, cap, es, i, rfl, g2, g3, rfl⟩
  · exact ⟨rfl, fun b hb => (by cases hb), fun b hb => (by cases hb)⟩
  · obtain ⟨r1, r2, r3⟩ := LNs.rows l g3 fun c hc => hb c (by simp [hc])
    have hbn := hb b (by simp)
    refine ⟨by simpa [AV.blw] using hbn, fun c hc => ⟨hb c hc, ?_⟩, fun c hc => ?_⟩
    · rcases List.mem_cons.1 hc with rfl | hc
      · rw [g2]; exact r1
      · exact r2 c hc
    · rcases List.mem_cons.1 hc with rfl | hc
      · exact ⟨_, _, g2⟩
      · exact r3 c hc
end Go.Av
set_option linter.unusedVariables false
set_option linter.unusedSimpArgs false
namespace Go.Av
open Go
set_option maxRecDepth 10000

theorem LWS.rows {H : Heap} {l : List GW} {a : AV} {ids : List Nat} {n : Nat} (h : LWS H l a ids) (hb : ∀ b ∈ ids, b < n) : a.blw n = true ∧ ∀ b ∈ ids, H.at b = .row 5 (encw l) := by
  rcases h with ⟨rfl, rfl, rfl⟩ | ⟨b, cap, rfl, g2, rfl⟩
  · exact ⟨rfl, fun b hb => (by cases hb)⟩
  · exact ⟨by simpa [AV.blw] using hb b (by simp), fun c hc => by simp at hc; subst hc; exact g2⟩

/-- the copy of those who watch -/
def cpW (n : Nat) (w : List GW) : AV × List Blk := match w with
  | [] => (.nsl 5, [])
  | _ => (.row n 0 w.length none 5, [.row 5 (encw w)])
theorem cpW_pos {n : Nat} {w : List GW} (h : 0 < w.length) : cpW n w = (.row n 0 w.length none 5, [.row 5 (encw w)]) := by
  cases w with
  | nil => simp at h
  | cons v r => rfl

/-- a hub copied: its nodes, then those who watch -/
def RCH (H : Heap) (l : List GN) (w : List GW) (r : AV) (H' : Heap) : Prop := ∃ N aN aW i1 i2, r = .agg [aN, aW] ∧ H' = H ++ N ∧ LNS H' l aN i1 ∧ ((aW = .nsl 5 ∧ w = [] ∧ i2 = []) ∨ ∃ b, aW = .row b 0 w.length none 5 ∧ H'.at b = .row 5 (encw w) ∧ i2 = [b]) ∧ (i1 ++ i2).Nodup ∧ ∀ b ∈ i1 ++ i2, H.length ≤ b ∧ b < H'.length

theorem copyHub_ok (l : List GN) (w : List GW) (aN aW : AV) (i1 i2 : List Nat) (H : Heap) (hL : LNS H l aN i1) (hW : LWS H w aW i2) (hb : ∀ c ∈ i1 ++ i2, c < H.length) (hnd : i1.Nodup) (hll : Len l) (hf : ∀ v ∈ l, v.fits) (hw : Len w) :
    FCall P 43 [.agg [aN, aW]] H (RCH H l w) := by
  have hcN := hL.cell
  have hcW := hW.cell
  refine fcall_walk T_ok ok_43 rfl ?_
  unfold Go.Proofs.Try.f43
  simp only [Option.getD_some, envOf, Nat.zero_add, Nat.reduceAdd]
  repeat' (first | ((with_reducible first | apply ar_w T_ok | apply ar_w0 T_ok | apply ard_w T_ok | apply ard_w0 T_ok); (focus (simp (disch := omega) only [go_sem, Nat.reduceLT, Nat.reduceAdd, Nat.reduceLeDiff, Nat.reduceMul, Nat.reduceEqDiff, Nat.reduceBEq, reduceIte, hcN, hcW] <;> rfl)); (focus (first | rfl | (simp [okIdsB, Nat.ble_eq]; done))); (focus rfl); (focus (first | trivial | (simp only [preOK]; omega) | exact ⟨by first | trivial | rfl | omega, by assumption, by omega⟩ | (simp [preOK, AllBytes, hcN, hcW]; first | done | omega))); (focus (simp only [hcN, hcW, Heap.puts, Heap.put_app, Heap.put_app0, Heap.put_len, Heap.put, List.length_append, List.length_cons, List.length_nil, Nat.zero_add, Nat.reduceAdd] <;> rfl))) | with_reducible (first | refine aw_reg_d P_mixed ?_ | refine ar_done ?_ | refine aw_seq ?_ | refine aw_reg ?_ | refine aw_block ?_ | refine aw_skip ?_ | refine aw_exit ?_ | refine aw_ret ?_ | refine at_n ?_ | refine at_e ?_ | refine at_r ?_ | refine ab_n ?_ | refine ab_r ?_ | refine ab_e ?_ | refine ab_ne rfl ?_ | refine an_e ?_ | refine an_r ?_ | refine am_e ?_ | refine am_r ?_) | ((with_reducible apply aw_cond_f); (focus (simp only [go_sem, Nat.reduceLT, Nat.reduceAdd, Nat.reduceLeDiff, Nat.reduceMul, Nat.reduceEqDiff, Nat.reduceBEq, reduceIte, hcN, hcW] <;> rfl))) | ((with_reducible apply aw_cond_t); (focus (simp only [go_sem, Nat.reduceLT, Nat.reduceAdd, Nat.reduceLeDiff, Nat.reduceMul, Nat.reduceEqDiff, Nat.reduceBEq, reduceIte, hcN, hcW] <;> rfl))) | ((with_reducible apply aw_cond_d); (focus (simp only [go_sem, Nat.reduceLT, Nat.reduceAdd, Nat.reduceLeDiff, Nat.reduceMul, Nat.reduceEqDiff, Nat.reduceBEq, reduceIte, hcN, hcW] <;> rfl)); all_goals (intro hcond; try (exfalso; omega))) | ((with_reducible first | apply ae_r | apply ae_n); (focus (simp only [go_sem, Nat.reduceLT, Nat.reduceAdd, Nat.reduceLeDiff, Nat.reduceMul, Nat.reduceEqDiff, Nat.reduceBEq, reduceIte, hcN, hcW] <;> rfl))) | ((with_reducible apply ard_done); (focus rfl)))
  have hbi1 : ∀ c ∈ i1, c < H.length := fun c hc => hb c (by simp [hc])
  have hbi2 : ∀ c ∈ i2, c < H.length := fun c hc => hb c (by simp [hc])
  have hold : ∀ (G : Heap) c, c < H.length → Heap.at (H ++ G) c = H.at c := fun G c hc => Heap.at_old _ _ hc
  have hcall : ∀ X : Heap, (∀ H1 : Heap, H1.length = (H ++ X).length → (∀ c ∈ i1, H1.at c = (H ++ X).at c) →
            FCall P 30 [aN] H1 fun r H' => r = (cpN (H ++ X).length l).1 ∧ H' = H1 ++ (cpN (H ++ X).length l).2) ∧
          blwL (H ++ X).length [aN] = true ∧ (∀ c ∈ i1, c < (H ++ X).length ∧ ((H ++ X).at c).blw (H ++ X).length = true) ∧ (∀ c ∈ i1, ∃ sz es, (H ++ X).at c = .row sz es) := by
    intro X
    have hlen : (H ++ X).length = H.length + X.length := by simp
    have hLX : LNS (H ++ X) l aN i1 := hL.mono fun c hc => hold X c (hbi1 c hc)
    have hjlt : ∀ c ∈ i1, c < (H ++ X).length := fun c hc => by have := hbi1 c hc; omega
    have hr1 := hLX.rows hjlt
    refine ⟨fun H1 e1 e2 => ?_, by simp only [blwL, hr1.1, Bool.and_self], hr1.2.1, hr1.2.2⟩
    rw [← e1]
    exact copyNodes_fix l aN i1 H1 (hLX.mono e2) (fun c hc => by rw [e1]; exact hjlt c hc) hnd hll hf
  ((apply ard_fcall (log := i1) rfl ok_30); (focus (simp only [go_sem, Nat.reduceLT, Nat.reduceAdd, Nat.reduceLeDiff, Nat.reduceMul, Nat.reduceEqDiff, Nat.reduceBEq, reduceIte, hcN, hcW, List.map] <;> rfl)); (focus exact (hcall _).1); (rotate_left 5); (focus rfl); (focus rfl))
  rotate_left
  · exact (hcall _).2.1
  · exact (hcall _).2.2.1
  · exact (hcall _).2.2.2
  · exact (cpN_abv l _).1
  · exact (cpN_abv l _).2
  simp only [List.length_append, List.length_cons, List.length_nil, Nat.zero_add, Nat.reduceAdd]
  have hlen2 : ∀ A B : Blk, (H ++ [A, B]).length = H.length + 2 := fun A B => by simp
  obtain ⟨j1, hN, hn1, hb1⟩ := cpN_LN l (H ++ [Blk.row 2 [[aN, aW]], Blk.row 2 [[.nsl 7, .nsl 5]]]) (cpW (H.length + 2 + (cpN (H.length + 2) l).2.length) w).2
  rw [hlen2] at hN hb1
  obtain ⟨⟨aT, S⟩, hcp⟩ : ∃ p, cpN (H.length + 2) l = p := ⟨_, rfl⟩
  have hcT : (cpN (H.length + 2) l).1.isCell = true := by cases l <;> rfl
  rw [hcp] at hN hb1 hcT
  simp only [hcp, List.append_assoc, List.cons_append, List.nil_append] at hN hb1 ⊢
  have hsT := solid_of_cell hcT
  have hclT := cells_of_cell hcT
  have hb1' : ∀ c ∈ j1, H.length + 2 ≤ c ∧ c < H.length + 2 + S.length := hb1
  repeat' (first | ((with_reducible first | apply ar_w T_ok | apply ar_w0 T_ok | apply ard_w T_ok | apply ard_w0 T_ok); (focus (simp (disch := omega) only [go_sem, Nat.reduceLT, Nat.reduceAdd, Nat.reduceLeDiff, Nat.reduceMul, Nat.reduceEqDiff, Nat.reduceBEq, reduceIte, hcN, hcW] <;> rfl)); (focus (first | rfl | (simp [okIdsB, Nat.ble_eq]; done))); (focus rfl); (focus (first | trivial | (simp only [preOK]; omega) | exact ⟨by first | trivial | rfl | omega, by assumption, by omega⟩ | (simp [preOK, AllBytes, hcN, hcW]; first | done | omega))); (focus (simp only [hcN, hcW, Heap.puts, Heap.put_app, Heap.put_app0, Heap.put_len, Heap.put, List.length_append, List.length_cons, List.length_nil, Nat.zero_add, Nat.reduceAdd] <;> rfl))) | with_reducible (first | refine aw_reg_d P_mixed ?_ | refine ar_done ?_ | refine aw_seq ?_ | refine aw_reg ?_ | refine aw_block ?_ | refine aw_skip ?_ | refine aw_exit ?_ | refine aw_ret ?_ | refine at_n ?_ | refine at_e ?_ | refine at_r ?_ | refine ab_n ?_ | refine ab_r ?_ | refine ab_e ?_ | refine ab_ne rfl ?_ | refine an_e ?_ | refine an_r ?_ | refine am_e ?_ | refine am_r ?_) | ((with_reducible apply aw_cond_f); (focus (simp only [go_sem, Nat.reduceLT, Nat.reduceAdd, Nat.reduceLeDiff, Nat.reduceMul, Nat.reduceEqDiff, Nat.reduceBEq, reduceIte, hcN, hcW] <;> rfl))) | ((with_reducible apply aw_cond_t); (focus (simp only [go_sem, Nat.reduceLT, Nat.reduceAdd, Nat.reduceLeDiff, Nat.reduceMul, Nat.reduceEqDiff, Nat.reduceBEq, reduceIte, hcN, hcW] <;> rfl))) | ((with_reducible apply aw_cond_d); (focus (simp only [go_sem, Nat.reduceLT, Nat.reduceAdd, Nat.reduceLeDiff, Nat.reduceMul, Nat.reduceEqDiff, Nat.reduceBEq, reduceIte, hcN, hcW] <;> rfl)); all_goals (intro hcond; try (exfalso; omega))) | ((with_reducible first | apply ae_r | apply ae_n); (focus (simp only [go_sem, Nat.reduceLT, Nat.reduceAdd, Nat.reduceLeDiff, Nat.reduceMul, Nat.reduceEqDiff, Nat.reduceBEq, reduceIte, hcN, hcW] <;> rfl))) | ((with_reducible apply ard_done); (focus rfl)))
  have hni1 : ∀ k, H.length ≤ k → k ∉ i1 := fun k hk h => by have := hbi1 k h; omega
  have hni2 : ∀ k, H.length ≤ k → k ∉ i2 := fun k hk h => by have := hbi2 k h; omega
  have hsrc : srcKind T 25 ⟨5, 72, true, [.int .i64 0, .str [], .str [], .str [], .str []], .struct [(0, 3), (1, 9), (2, 9), (3, 9), (4, 9)]⟩ aW = true ∧ (∀ G, srcOf (H ++ G) aW = some (encw w, i2)) ∧ srcFrz aW (encw w) = some (encw w) := by
    rcases hW with ⟨rfl, rfl, rfl⟩ | ⟨b, cap, rfl, g2, rfl⟩
    · exact ⟨by simp only [srcKind, T_25], fun G => rfl, rfl⟩
    · refine ⟨by simp only [srcKind, T_25], fun G => ?_, by simp only [srcFrz]; exact encw_frz w⟩
      simp only [srcOf, hold G b (hbi2 b (by simp)), g2]
      rw [if_pos (by rw [encw_len]; omega), List.drop_zero, List.take_of_length_le (by rw [encw_len]; exact Nat.le_refl _)]
  obtain ⟨k1, k2, k3⟩ := hsrc
  by_cases h0 : 0 < w.length
  · rw [cpW_pos h0] at hN
    refine ard_sem (sem_app_new (n := H.length + (S.length + 1 + 1)) T_ok rfl rfl rfl rfl (s1 := 5) (s2 := 0) (log := i2) (T_25) rfl (T_75) rfl k1 (k2 _) k3 (encw_all w) (by rw [encw_len]; exact h0) (by rw [encw_len]; simp only [Len] at hw; show w.length * 73 ≤ _; omega) (hni2 _ (by omega))) ?_ rfl rfl ?_
    · simp [okIdsB]
    dsimp only
    rw [encw_len]
    simp only [Heap.puts, Heap.put_app, Heap.put_len, Heap.put, List.append_assoc, List.cons_append, List.nil_append]
    repeat' (first | ((with_reducible first | apply ar_w T_ok | apply ar_w0 T_ok | apply ard_w T_ok | apply ard_w0 T_ok); (focus (simp (disch := omega) only [go_sem, Nat.reduceLT, Nat.reduceAdd, Nat.reduceLeDiff, Nat.reduceMul, Nat.reduceEqDiff, Nat.reduceBEq, reduceIte, hcN, hcW, hsT, hclT, hcT] <;> rfl)); (focus (first | rfl | (simp [okIdsB, Nat.ble_eq]; done))); (focus rfl); (focus (first | trivial | (simp only [preOK]; omega) | exact ⟨by first | trivial | rfl | omega, by assumption, by omega⟩ | (simp [preOK, AllBytes, hcN, hcW, hsT, hclT, hcT]; first | done | omega))); (focus (simp only [hcN, hcW, hsT, hclT, hcT, Heap.puts, Heap.put_app, Heap.put_app0, Heap.put_len, Heap.put, List.length_append, List.length_cons, List.length_nil, Nat.zero_add, Nat.reduceAdd] <;> rfl))) | with_reducible (first | refine aw_reg_d P_mixed ?_ | refine ar_done ?_ | refine aw_seq ?_ | refine aw_reg ?_ | refine aw_block ?_ | refine aw_skip ?_ | refine aw_exit ?_ | refine aw_ret ?_ | refine at_n ?_ | refine at_e ?_ | refine at_r ?_ | refine ab_n ?_ | refine ab_r ?_ | refine ab_e ?_ | refine ab_ne rfl ?_ | refine an_e ?_ | refine an_r ?_ | refine am_e ?_ | refine am_r ?_) | ((with_reducible apply aw_cond_f); (focus (simp only [go_sem, Nat.reduceLT, Nat.reduceAdd, Nat.reduceLeDiff, Nat.reduceMul, Nat.reduceEqDiff, Nat.reduceBEq, reduceIte, hcN, hcW, hsT, hclT, hcT] <;> rfl))) | ((with_reducible apply aw_cond_t); (focus (simp only [go_sem, Nat.reduceLT, Nat.reduceAdd, Nat.reduceLeDiff, Nat.reduceMul, Nat.reduceEqDiff, Nat.reduceBEq, reduceIte, hcN, hcW, hsT, hclT, hcT] <;> rfl))) | ((with_reducible apply aw_cond_d); (focus (simp only [go_sem, Nat.reduceLT, Nat.reduceAdd, Nat.reduceLeDiff, Nat.reduceMul, Nat.reduceEqDiff, Nat.reduceBEq, reduceIte, hcN, hcW, hsT, hclT, hcT] <;> rfl)); all_goals (intro hcond; try (exfalso; omega))) | ((with_reducible first | apply ae_r | apply ae_n); (focus (simp only [go_sem, Nat.reduceLT, Nat.reduceAdd, Nat.reduceLeDiff, Nat.reduceMul, Nat.reduceEqDiff, Nat.reduceBEq, reduceIte, hcN, hcW, hsT, hclT, hcT] <;> rfl))) | ((with_reducible apply ard_done); (focus rfl)))
    refine ard_done_of [(0, 3), (0, 4), (1, 3), (1, 4), (2, 3), (2, 4)] rfl rfl rfl rfl ?_ ?_
    · simp only [List.all_cons, List.all_nil, List.reverse_cons, List.reverse_nil, List.nil_append, List.cons_append, List.append_assoc, effOf, List.getElem?_cons_zero, List.getElem?_cons_succ, apartH, Bool.and_true, Bool.true_and, List.contains_nil, Bool.not_false, Bool.and_eq_true, and_true, true_and, and_self]
      repeat' apply And.intro
      all_goals first | (apply all_newWr'; intro k x h1 h2; simp at h1 h2 ⊢; done) | (apply all_newWr'; intro k x h1 h2; simp at h1 h2 ⊢; omega) | (simp; done) | (simp; omega) | (have := hni1 (H.length + (S.length + 1 + 1)) (by omega); simpa using this) | (apply all_newWr'; intro k x h1 h2; have := hni2 k (by simp at h1; omega); simpa using this)
    repeat' (first | ((with_reducible first | apply ar_w T_ok | apply ar_w0 T_ok | apply ard_w T_ok | apply ard_w0 T_ok); (focus (simp (disch := omega) only [go_sem, Nat.reduceLT, Nat.reduceAdd, Nat.reduceLeDiff, Nat.reduceMul, Nat.reduceEqDiff, Nat.reduceBEq, reduceIte, hcN, hcW, hsT, hclT, hcT] <;> rfl)); (focus (first | rfl | (simp [okIdsB, Nat.ble_eq]; done))); (focus rfl); (focus (first | trivial | (simp only [preOK]; omega) | exact ⟨by first | trivial | rfl | omega, by assumption, by omega⟩ | (simp [preOK, AllBytes, hcN, hcW, hsT, hclT, hcT]; first | done | omega))); (focus (simp only [hcN, hcW, hsT, hclT, hcT, Heap.puts, Heap.put_app, Heap.put_app0, Heap.put_len, Heap.put, List.length_append, List.length_cons, List.length_nil, Nat.zero_add, Nat.reduceAdd] <;> rfl))) | with_reducible (first | refine aw_reg_d P_mixed ?_ | refine ar_done ?_ | refine aw_seq ?_ | refine aw_reg ?_ | refine aw_block ?_ | refine aw_skip ?_ | refine aw_exit ?_ | refine aw_ret ?_ | refine at_n ?_ | refine at_e ?_ | refine at_r ?_ | refine ab_n ?_ | refine ab_r ?_ | refine ab_e ?_ | refine ab_ne rfl ?_ | refine an_e ?_ | refine an_r ?_ | refine am_e ?_ | refine am_r ?_) | ((with_reducible apply aw_cond_f); (focus (simp only [go_sem, Nat.reduceLT, Nat.reduceAdd, Nat.reduceLeDiff, Nat.reduceMul, Nat.reduceEqDiff, Nat.reduceBEq, reduceIte, hcN, hcW, hsT, hclT, hcT] <;> rfl))) | ((with_reducible apply aw_cond_t); (focus (simp only [go_sem, Nat.reduceLT, Nat.reduceAdd, Nat.reduceLeDiff, Nat.reduceMul, Nat.reduceEqDiff, Nat.reduceBEq, reduceIte, hcN, hcW, hsT, hclT, hcT] <;> rfl))) | ((with_reducible apply aw_cond_d); (focus (simp only [go_sem, Nat.reduceLT, Nat.reduceAdd, Nat.reduceLeDiff, Nat.reduceMul, Nat.reduceEqDiff, Nat.reduceBEq, reduceIte, hcN, hcW, hsT, hclT, hcT] <;> rfl)); all_goals (intro hcond; try (exfalso; omega))) | ((with_reducible first | apply ae_r | apply ae_n); (focus (simp only [go_sem, Nat.reduceLT, Nat.reduceAdd, Nat.reduceLeDiff, Nat.reduceMul, Nat.reduceEqDiff, Nat.reduceBEq, reduceIte, hcN, hcW, hsT, hclT, hcT] <;> rfl))) | ((with_reducible apply ard_done); (focus rfl)))
    refine ⟨_, _, _, j1, [H.length + (S.length + 1 + 1)], rfl, rfl, hN.mono fun c hc => ?_, .inr ⟨_, rfl, ?_, rfl⟩, ?_, fun c hc => ?_⟩
    · have := hb1' c hc
      obtain ⟨q, rfl⟩ : ∃ q, c = H.length + (q + 1 + 1) := ⟨c - H.length - 2, by omega⟩
      rw [Heap.at_app, Heap.at_app, Heap.at_cons_succ, Heap.at_cons_succ, Heap.at_cons_succ, Heap.at_cons_succ]
    · rw [Heap.at_app, Heap.at_cons_succ, Heap.at_cons_succ, Heap.at_app0]; rfl
    · rw [List.nodup_append]
      exact ⟨hn1, by simp, fun x hx y hy => by have := hb1' x hx; simp at hy; omega⟩
    · rcases List.mem_append.1 hc with hc | hc
      · have := hb1' c hc; simp; omega
      · simp at hc; subst hc; simp
  · have hw0 : w = [] := List.eq_nil_of_length_eq_zero (by omega)
    subst hw0
    refine ard_sem (sem_app_none T_ok rfl rfl rfl rfl (s1 := 5) (s2 := 0) (log := i2) (T_25) rfl (T_75) rfl k1 (k2 _) k3) rfl rfl rfl ?_
    dsimp only
    simp only [Heap.puts]
    repeat' (first | ((with_reducible first | apply ar_w T_ok | apply ar_w0 T_ok | apply ard_w T_ok | apply ard_w0 T_ok); (focus (simp (disch := omega) only [go_sem, Nat.reduceLT, Nat.reduceAdd, Nat.reduceLeDiff, Nat.reduceMul, Nat.reduceEqDiff, Nat.reduceBEq, reduceIte, hcN, hcW, hsT, hclT, hcT] <;> rfl)); (focus (first | rfl | (simp [okIdsB, Nat.ble_eq]; done))); (focus rfl); (focus (first | trivial | (simp only [preOK]; omega) | exact ⟨by first | trivial | rfl | omega, by assumption, by omega⟩ | (simp [preOK, AllBytes, hcN, hcW, hsT, hclT, hcT]; first | done | omega))); (focus (simp only [hcN, hcW, hsT, hclT, hcT, Heap.puts, Heap.put_app, Heap.put_app0, Heap.put_len, Heap.put, List.length_append, List.length_cons, List.length_nil, Nat.zero_add, Nat.reduceAdd] <;> rfl))) | with_reducible (first | refine aw_reg_d P_mixed ?_ | refine ar_done ?_ | refine aw_seq ?_ | refine aw_reg ?_ | refine aw_block ?_ | refine aw_skip ?_ | refine aw_exit ?_ | refine aw_ret ?_ | refine at_n ?_ | refine at_e ?_ | refine at_r ?_ | refine ab_n ?_ | refine ab_r ?_ | refine ab_e ?_ | refine ab_ne rfl ?_ | refine an_e ?_ | refine an_r ?_ | refine am_e ?_ | refine am_r ?_) | ((with_reducible apply aw_cond_f); (focus (simp only [go_sem, Nat.reduceLT, Nat.reduceAdd, Nat.reduceLeDiff, Nat.reduceMul, Nat.reduceEqDiff, Nat.reduceBEq, reduceIte, hcN, hcW, hsT, hclT, hcT] <;> rfl))) | ((with_reducible apply aw_cond_t); (focus (simp only [go_sem, Nat.reduceLT, Nat.reduceAdd, Nat.reduceLeDiff, Nat.reduceMul, Nat.reduceEqDiff, Nat.reduceBEq, reduceIte, hcN, hcW, hsT, hclT, hcT] <;> rfl))) | ((with_reducible apply aw_cond_d); (focus (simp only [go_sem, Nat.reduceLT, Nat.reduceAdd, Nat.reduceLeDiff, Nat.reduceMul, Nat.reduceEqDiff, Nat.reduceBEq, reduceIte, hcN, hcW, hsT, hclT, hcT] <;> rfl)); all_goals (intro hcond; try (exfalso; omega))) | ((with_reducible first | apply ae_r | apply ae_n); (focus (simp only [go_sem, Nat.reduceLT, Nat.reduceAdd, Nat.reduceLeDiff, Nat.reduceMul, Nat.reduceEqDiff, Nat.reduceBEq, reduceIte, hcN, hcW, hsT, hclT, hcT] <;> rfl))) | ((with_reducible apply ard_done); (focus rfl)))
    refine ard_done_of [(0, 3), (0, 4), (1, 3), (1, 4), (2, 3), (2, 4)] rfl rfl rfl rfl ?_ ?_
    · simp only [List.all_cons, List.all_nil, List.reverse_cons, List.reverse_nil, List.nil_append, List.cons_append, List.append_assoc, effOf, List.getElem?_cons_zero, List.getElem?_cons_succ, apartH, Bool.and_true, Bool.true_and, List.contains_nil, Bool.not_false, Bool.and_eq_true, and_true, true_and, and_self]
      repeat' apply And.intro
      all_goals first | (apply all_newWr'; intro k x h1 h2; simp at h1 h2 ⊢; done) | (apply all_newWr'; intro k x h1 h2; simp at h1 h2 ⊢; omega) | (simp; done) | (simp; omega)
    repeat' (first | ((with_reducible first | apply ar_w T_ok | apply ar_w0 T_ok | apply ard_w T_ok | apply ard_w0 T_ok); (focus (simp (disch := omega) only [go_sem, Nat.reduceLT, Nat.reduceAdd, Nat.reduceLeDiff, Nat.reduceMul, Nat.reduceEqDiff, Nat.reduceBEq, reduceIte, hcN, hcW, hsT, hclT, hcT] <;> rfl)); (focus (first | rfl | (simp [okIdsB, Nat.ble_eq]; done))); (focus rfl); (focus (first | trivial | (simp only [preOK]; omega) | exact ⟨by first | trivial | rfl | omega, by assumption, by omega⟩ | (simp [preOK, AllBytes, hcN, hcW, hsT, hclT, hcT]; first | done | omega))); (focus (simp only [hcN, hcW, hsT, hclT, hcT, Heap.puts, Heap.put_app, Heap.put_app0, Heap.put_len, Heap.put, List.length_append, List.length_cons, List.length_nil, Nat.zero_add, Nat.reduceAdd] <;> rfl))) | with_reducible (first | refine aw_reg_d P_mixed ?_ | refine ar_done ?_ | refine aw_seq ?_ | refine aw_reg ?_ | refine aw_block ?_ | refine aw_skip ?_ | refine aw_exit ?_ | refine aw_ret ?_ | refine at_n ?_ | refine at_e ?_ | refine at_r ?_ | refine ab_n ?_ | refine ab_r ?_ | refine ab_e ?_ | refine ab_ne rfl ?_ | refine an_e ?_ | refine an_r ?_ | refine am_e ?_ | refine am_r ?_) | ((with_reducible apply aw_cond_f); (focus (simp only [go_sem, Nat.reduceLT, Nat.reduceAdd, Nat.reduceLeDiff, Nat.reduceMul, Nat.reduceEqDiff, Nat.reduceBEq, reduceIte, hcN, hcW, hsT, hclT, hcT] <;> rfl))) | ((with_reducible apply aw_cond_t); (focus (simp only [go_sem, Nat.reduceLT, Nat.reduceAdd, Nat.reduceLeDiff, Nat.reduceMul, Nat.reduceEqDiff, Nat.reduceBEq, reduceIte, hcN, hcW, hsT, hclT, hcT] <;> rfl))) | ((with_reducible apply aw_cond_d); (focus (simp only [go_sem, Nat.reduceLT, Nat.reduceAdd, Nat.reduceLeDiff, Nat.reduceMul, Nat.reduceEqDiff, Nat.reduceBEq, reduceIte, hcN, hcW, hsT, hclT, hcT] <;> rfl)); all_goals (intro hcond; try (exfalso; omega))) | ((with_reducible first | apply ae_r | apply ae_n); (focus (simp only [go_sem, Nat.reduceLT, Nat.reduceAdd, Nat.reduceLeDiff, Nat.reduceMul, Nat.reduceEqDiff, Nat.reduceBEq, reduceIte, hcN, hcW, hsT, hclT, hcT] <;> rfl))) | ((with_reducible apply ard_done); (focus rfl)))
    simp only [cpW, List.append_nil] at hN
    refine ⟨_, _, _, j1, [], rfl, rfl, hN.mono fun c hc => ?_, .inl ⟨rfl, rfl, rfl⟩, by simpa using hn1, fun c hc => ?_⟩
    · have := hb1' c hc
      obtain ⟨q, rfl⟩ : ∃ q, c = H.length + (q + 1 + 1) := ⟨c - H.length - 2, by omega⟩
      rw [Heap.at_app, Heap.at_app, Heap.at_cons_succ, Heap.at_cons_succ, Heap.at_cons_succ, Heap.at_cons_succ]
    · have := hb1' c (by simpa using hc); simp; omega
end Go.Av
set_option linter.unusedVariables false
set_option linter.unusedSimpArgs false
namespace Go.Av
open Go
set_option maxRecDepth 10000

theorem Heap.put_left : ∀ (A B : Heap) (q : Nat) (x : Blk), q < A.length → Heap.put (A ++ B) q x = Heap.put A q x ++ B
  | [], B, q, x, h => by simp at h
  | a :: A, B, 0, x, h => rfl
  | a :: A, B, q + 1, x, h => by
    show a :: Heap.put (A ++ B) q x = a :: Heap.put A q x ++ B
    rw [Heap.put_left A B q x (by simpa using h)]; rfl
theorem at_mid {H N Z Z' : Heap} {x y x' y' : Blk} {b : Nat} (h1 : H.length + 2 ≤ b) (h2 : b < H.length + 2 + N.length) : Heap.at (H ++ x' :: y' :: (N ++ Z')) b = Heap.at (H ++ x :: y :: (N ++ Z)) b := by
  obtain ⟨q, rfl⟩ : ∃ q, b = H.length + (q + 1 + 1) := ⟨b - H.length - 2, by omega⟩
  rw [Heap.at_app, Heap.at_app, Heap.at_cons_succ, Heap.at_cons_succ, Heap.at_cons_succ, Heap.at_cons_succ, Heap.at_old _ _ (by omega), Heap.at_old _ _ (by omega)]

theorem delete_any (w : List GW) (b i : Nat) (H : Heap) (hat : H.at b = .row 5 (encw w)) (hb : b < H.length) (hi : i < w.length) (hw : Len w) :
    FCall P 46 [.row b 0 w.length none 5, .int .i64 i, .int .i64 ((i + 1 : Nat) : Int)] H fun r H' => ∃ c, r = .row b 0 (w.length - 1) (some c) 5 ∧ H' = H.put b (.row 5 (encw (w.eraseIdx i))) :=
  FCall.learn fun c hc => FCall.mono (delete_ok w b i c H hat hb hi hc hw) fun r H' h => ⟨c, h⟩

theorem HubDrop_ok (l : List GN) (w : List GW) (id : Int) (aN aW : AV) (i1 i2 : List Nat) (H : Heap) (hL : LNS H l aN i1) (hW : LWS H w aW i2) (hb : ∀ c ∈ i1 ++ i2, c < H.length) (hnd : i1.Nodup) (hll : Len l) (hf : ∀ v ∈ l, v.fits) (hw : Len w) :
    FCall P 18 [.agg [aN, aW], .int .i64 id] H fun r H' => ∃ N a, r = .tup [a, .bool (dropW w id).2] ∧ RH H l (dropW w id).1 a (H ++ N) ∧ H' = H ++ N := by
  have hcN := hL.cell
  have hcW := hW.cell
  refine fcall_walk T_ok ok_18 rfl ?_
  unfold Go.Proofs.Try.f18
  simp only [Option.getD_some, envOf, Nat.zero_add, Nat.reduceAdd]
  repeat' (first | ((with_reducible first | apply ar_w T_ok | apply ar_w0 T_ok | apply ard_w T_ok | apply ard_w0 T_ok); (focus (simp (disch := omega) only [go_sem, Nat.reduceLT, Nat.reduceAdd, Nat.reduceLeDiff, Nat.reduceMul, Nat.reduceEqDiff, Nat.reduceBEq, reduceIte, hcN, hcW] <;> rfl)); (focus (first | rfl | (simp [okIdsB, Nat.ble_eq]; done))); (focus rfl); (focus (first | trivial | (simp only [preOK]; omega) | exact ⟨by first | trivial | rfl | omega, by assumption, by omega⟩ | (simp [preOK, AllBytes, hcN, hcW]; first | done | omega))); (focus (simp only [hcN, hcW, Heap.puts, Heap.put_app, Heap.put_app0, Heap.put_len, Heap.put, List.length_append, List.length_cons, List.length_nil, Nat.zero_add, Nat.reduceAdd] <;> rfl))) | with_reducible (first | refine aw_reg_d P_mixed ?_ | refine ar_done ?_ | refine aw_seq ?_ | refine aw_reg ?_ | refine aw_block ?_ | refine aw_skip ?_ | refine aw_exit ?_ | refine aw_ret ?_ | refine at_n ?_ | refine at_e ?_ | refine at_r ?_ | refine ab_n ?_ | refine ab_r ?_ | refine ab_e ?_ | refine ab_ne rfl ?_ | refine an_e ?_ | refine an_r ?_ | refine am_e ?_ | refine am_r ?_) | ((with_reducible apply aw_cond_f); (focus (simp only [go_sem, Nat.reduceLT, Nat.reduceAdd, Nat.reduceLeDiff, Nat.reduceMul, Nat.reduceEqDiff, Nat.reduceBEq, reduceIte, hcN, hcW] <;> rfl))) | ((with_reducible apply aw_cond_t); (focus (simp only [go_sem, Nat.reduceLT, Nat.reduceAdd, Nat.reduceLeDiff, Nat.reduceMul, Nat.reduceEqDiff, Nat.reduceBEq, reduceIte, hcN, hcW] <;> rfl))) | ((with_reducible apply aw_cond_d); (focus (simp only [go_sem, Nat.reduceLT, Nat.reduceAdd, Nat.reduceLeDiff, Nat.reduceMul, Nat.reduceEqDiff, Nat.reduceBEq, reduceIte, hcN, hcW] <;> rfl)); all_goals (intro hcond; try (exfalso; omega))) | ((with_reducible first | apply ae_r | apply ae_n); (focus (simp only [go_sem, Nat.reduceLT, Nat.reduceAdd, Nat.reduceLeDiff, Nat.reduceMul, Nat.reduceEqDiff, Nat.reduceBEq, reduceIte, hcN, hcW] <;> rfl))) | ((with_reducible apply ard_done); (focus rfl)))
  have hold : ∀ (G : Heap) c, c < H.length → Heap.at (H ++ G) c = H.at c := fun G c hc => Heap.at_old _ _ hc
  ((apply ar_fcall rfl ok_43); (focus (simp only [go_sem, Nat.reduceLT, Nat.reduceAdd, Nat.reduceLeDiff, Nat.reduceMul, Nat.reduceEqDiff, Nat.reduceBEq, reduceIte, hcN, hcW, List.map] <;> rfl)); (focus exact copyHub_ok l w aN aW i1 i2 _ (hL.mono fun c hc => hold _ c (hb c (by simp [hc]))) (hW.mono fun c hc => hold _ c (hb c (by simp [hc]))) (fun c hc => by have := hb c hc; simp; omega) hnd hll hf hw); (focus rfl); (focus rfl))
  rintro _ _ ⟨N1, bN, bW, j1, j2, rfl, rfl, hN, hWW, hnd2, hbd⟩
  simp only [List.append_assoc, List.cons_append, List.nil_append] at hN hWW hbd ⊢
  have hbN := hN.cell
  have hbNs := solid_of_cell hbN
  have hbNc := cells_of_cell hbN
  have hbW : bW.isCell = true := by rcases hWW with ⟨rfl, _⟩ | ⟨b, rfl, _⟩ <;> rfl
  have hbWs := solid_of_cell hbW
  have hbWc := cells_of_cell hbW
  repeat' (first | ((with_reducible first | apply ar_w T_ok | apply ar_w0 T_ok | apply ard_w T_ok | apply ard_w0 T_ok); (focus (simp (disch := omega) only [go_sem, Nat.reduceLT, Nat.reduceAdd, Nat.reduceLeDiff, Nat.reduceMul, Nat.reduceEqDiff, Nat.reduceBEq, reduceIte, hcN, hcW, hbN, hbNs, hbNc, hbW, hbWs, hbWc] <;> rfl)); (focus (first | rfl | (simp [okIdsB, Nat.ble_eq]; done))); (focus rfl); (focus (first | trivial | (simp only [preOK]; omega) | exact ⟨by first | trivial | rfl | omega, by assumption, by omega⟩ | (simp [preOK, AllBytes, hcN, hcW, hbN, hbNs, hbNc, hbW, hbWs, hbWc]; first | done | omega))); (focus (simp only [hcN, hcW, hbN, hbNs, hbNc, hbW, hbWs, hbWc, Heap.puts, Heap.put_app, Heap.put_app0, Heap.put_len, Heap.put, List.length_append, List.length_cons, List.length_nil, Nat.zero_add, Nat.reduceAdd] <;> rfl))) | with_reducible (first | refine aw_reg_d P_mixed ?_ | refine ar_done ?_ | refine aw_seq ?_ | refine aw_reg ?_ | refine aw_block ?_ | refine aw_skip ?_ | refine aw_exit ?_ | refine aw_ret ?_ | refine at_n ?_ | refine at_e ?_ | refine at_r ?_ | refine ab_n ?_ | refine ab_r ?_ | refine ab_e ?_ | refine ab_ne rfl ?_ | refine an_e ?_ | refine an_r ?_ | refine am_e ?_ | refine am_r ?_) | ((with_reducible apply aw_cond_f); (focus (simp only [go_sem, Nat.reduceLT, Nat.reduceAdd, Nat.reduceLeDiff, Nat.reduceMul, Nat.reduceEqDiff, Nat.reduceBEq, reduceIte, hcN, hcW, hbN, hbNs, hbNc, hbW, hbWs, hbWc] <;> rfl))) | ((with_reducible apply aw_cond_t); (focus (simp only [go_sem, Nat.reduceLT, Nat.reduceAdd, Nat.reduceLeDiff, Nat.reduceMul, Nat.reduceEqDiff, Nat.reduceBEq, reduceIte, hcN, hcW, hbN, hbNs, hbNc, hbW, hbWs, hbWc] <;> rfl))) | ((with_reducible apply aw_cond_d); (focus (simp only [go_sem, Nat.reduceLT, Nat.reduceAdd, Nat.reduceLeDiff, Nat.reduceMul, Nat.reduceEqDiff, Nat.reduceBEq, reduceIte, hcN, hcW, hbN, hbNs, hbNc, hbW, hbWs, hbWc] <;> rfl)); all_goals (intro hcond; try (exfalso; omega))) | ((with_reducible first | apply ae_r | apply ae_n); (focus (simp only [go_sem, Nat.reduceLT, Nat.reduceAdd, Nat.reduceLeDiff, Nat.reduceMul, Nat.reduceEqDiff, Nat.reduceBEq, reduceIte, hcN, hcW, hbN, hbNs, hbNc, hbW, hbWs, hbWc] <;> rfl))) | ((with_reducible apply ard_done); (focus rfl)))
  have hj : ∀ c ∈ j1 ++ j2, H.length + 2 ≤ c ∧ c < H.length + 2 + N1.length := fun c hc => by have := hbd c hc; simp at this ⊢; omega
  have hj1 : ∀ c ∈ j1, H.length + 2 ≤ c ∧ c < H.length + 2 + N1.length := fun c hc => hj c (by simp [hc])
  have hj2 : ∀ c ∈ j2, H.length + 2 ≤ c ∧ c < H.length + 2 + N1.length := fun c hc => hj c (by simp [hc])
  have hnil : ∀ L : Heap, L = L ++ [] := fun L => by simp
  rw [hnil N1] at hN hWW
  have hN' : ∀ x y Z, LNS (H ++ x :: y :: (N1 ++ Z)) l bN j1 := fun x y Z => hN.mono fun c hc => at_mid (hj1 c hc).1 (hj1 c hc).2
  have hWL := hWW
  have hWW' : ∀ x y Z, LWS (H ++ x :: y :: (N1 ++ Z)) w bW j2 := fun x y Z => by
    rcases hWW with ⟨e1, e2, e3⟩ | ⟨b, e1, e2, e3⟩
    · exact .inl ⟨e1, e2, e3⟩
    · subst e3
      exact .inr ⟨b, none, e1, (at_mid (hj2 b (by simp)).1 (hj2 b (by simp)).2).trans e2, rfl⟩
  refine ar_lend (S := j2) (args := [.fsl 5 (encw w)]) rfl ok_44 ⟨(hWW' _ _ _).bor fun _ h => h, trivial⟩ (byId_ok w hw) rfl rfl rfl ?_
  by_cases hA : asc w
  · rw [ascB_true hA]
    repeat' (first | ((with_reducible first | apply ar_w T_ok | apply ar_w0 T_ok | apply ard_w T_ok | apply ard_w0 T_ok); (focus (simp (disch := omega) only [go_sem, Nat.reduceLT, Nat.reduceAdd, Nat.reduceLeDiff, Nat.reduceMul, Nat.reduceEqDiff, Nat.reduceBEq, reduceIte, hcN, hcW, hbN, hbNs, hbNc, hbW, hbWs, hbWc] <;> rfl)); (focus (first | rfl | (simp [okIdsB, Nat.ble_eq]; done))); (focus rfl); (focus (first | trivial | (simp only [preOK]; omega) | exact ⟨by first | trivial | rfl | omega, by assumption, by omega⟩ | (simp [preOK, AllBytes, hcN, hcW, hbN, hbNs, hbNc, hbW, hbWs, hbWc]; first | done | omega))); (focus (simp only [hcN, hcW, hbN, hbNs, hbNc, hbW, hbWs, hbWc, Heap.puts, Heap.put_app, Heap.put_app0, Heap.put_len, Heap.put, List.length_append, List.length_cons, List.length_nil, Nat.zero_add, Nat.reduceAdd] <;> rfl))) | with_reducible (first | refine aw_reg_d P_mixed ?_ | refine ar_done ?_ | refine aw_seq ?_ | refine aw_reg ?_ | refine aw_block ?_ | refine aw_skip ?_ | refine aw_exit ?_ | refine aw_ret ?_ | refine at_n ?_ | refine at_e ?_ | refine at_r ?_ | refine ab_n ?_ | refine ab_r ?_ | refine ab_e ?_ | refine ab_ne rfl ?_ | refine an_e ?_ | refine an_r ?_ | refine am_e ?_ | refine am_r ?_) | ((with_reducible apply aw_cond_f); (focus (simp only [go_sem, Nat.reduceLT, Nat.reduceAdd, Nat.reduceLeDiff, Nat.reduceMul, Nat.reduceEqDiff, Nat.reduceBEq, reduceIte, hcN, hcW, hbN, hbNs, hbNc, hbW, hbWs, hbWc] <;> rfl))) | ((with_reducible apply aw_cond_t); (focus (simp only [go_sem, Nat.reduceLT, Nat.reduceAdd, Nat.reduceLeDiff, Nat.reduceMul, Nat.reduceEqDiff, Nat.reduceBEq, reduceIte, hcN, hcW, hbN, hbNs, hbNc, hbW, hbWs, hbWc] <;> rfl))) | ((with_reducible apply aw_cond_d); (focus (simp only [go_sem, Nat.reduceLT, Nat.reduceAdd, Nat.reduceLeDiff, Nat.reduceMul, Nat.reduceEqDiff, Nat.reduceBEq, reduceIte, hcN, hcW, hbN, hbNs, hbNc, hbW, hbWs, hbWc] <;> rfl)); all_goals (intro hcond; try (exfalso; omega))) | ((with_reducible first | apply ae_r | apply ae_n); (focus (simp only [go_sem, Nat.reduceLT, Nat.reduceAdd, Nat.reduceLeDiff, Nat.reduceMul, Nat.reduceEqDiff, Nat.reduceBEq, reduceIte, hcN, hcW, hbN, hbNs, hbNc, hbW, hbWs, hbWc] <;> rfl))) | ((with_reducible apply ard_done); (focus rfl)))
    refine ar_lend (S := j2) (args := [.fsl 5 (encw w), .int .i64 id]) rfl ok_45 ⟨(hWW' _ _ _).bor fun _ h => h, bor_frz rfl, trivial⟩ (watchPlace_ok w id hw) rfl rfl rfl ?_
    have hple := plc_le id w
    cases hth : isThere w id with
    | false =>
      repeat' (first | ((with_reducible first | apply ar_w T_ok | apply ar_w0 T_ok | apply ard_w T_ok | apply ard_w0 T_ok); (focus (simp (disch := omega) only [go_sem, Nat.reduceLT, Nat.reduceAdd, Nat.reduceLeDiff, Nat.reduceMul, Nat.reduceEqDiff, Nat.reduceBEq, reduceIte, hcN, hcW, hbN, hbNs, hbNc, hbW, hbWs, hbWc] <;> rfl)); (focus (first | rfl | (simp [okIdsB, Nat.ble_eq]; done))); (focus rfl); (focus (first | trivial | (simp only [preOK]; omega) | exact ⟨by first | trivial | rfl | omega, by assumption, by omega⟩ | (simp [preOK, AllBytes, hcN, hcW, hbN, hbNs, hbNc, hbW, hbWs, hbWc]; first | done | omega))); (focus (simp only [hcN, hcW, hbN, hbNs, hbNc, hbW, hbWs, hbWc, Heap.puts, Heap.put_app, Heap.put_app0, Heap.put_len, Heap.put, List.length_append, List.length_cons, List.length_nil, Nat.zero_add, Nat.reduceAdd] <;> rfl))) | with_reducible (first | refine aw_reg_d P_mixed ?_ | refine ar_done ?_ | refine aw_seq ?_ | refine aw_reg ?_ | refine aw_block ?_ | refine aw_skip ?_ | refine aw_exit ?_ | refine aw_ret ?_ | refine at_n ?_ | refine at_e ?_ | refine at_r ?_ | refine ab_n ?_ | refine ab_r ?_ | refine ab_e ?_ | refine ab_ne rfl ?_ | refine an_e ?_ | refine an_r ?_ | refine am_e ?_ | refine am_r ?_) | ((with_reducible apply aw_cond_f); (focus (simp only [go_sem, Nat.reduceLT, Nat.reduceAdd, Nat.reduceLeDiff, Nat.reduceMul, Nat.reduceEqDiff, Nat.reduceBEq, reduceIte, hcN, hcW, hbN, hbNs, hbNc, hbW, hbWs, hbWc] <;> rfl))) | ((with_reducible apply aw_cond_t); (focus (simp only [go_sem, Nat.reduceLT, Nat.reduceAdd, Nat.reduceLeDiff, Nat.reduceMul, Nat.reduceEqDiff, Nat.reduceBEq, reduceIte, hcN, hcW, hbN, hbNs, hbNc, hbW, hbWs, hbWc] <;> rfl))) | ((with_reducible apply aw_cond_d); (focus (simp only [go_sem, Nat.reduceLT, Nat.reduceAdd, Nat.reduceLeDiff, Nat.reduceMul, Nat.reduceEqDiff, Nat.reduceBEq, reduceIte, hcN, hcW, hbN, hbNs, hbNc, hbW, hbWs, hbWc] <;> rfl)); all_goals (intro hcond; try (exfalso; omega))) | ((with_reducible first | apply ae_r | apply ae_n); (focus (simp only [go_sem, Nat.reduceLT, Nat.reduceAdd, Nat.reduceLeDiff, Nat.reduceMul, Nat.reduceEqDiff, Nat.reduceBEq, reduceIte, hcN, hcW, hbN, hbNs, hbNc, hbW, hbWs, hbWc] <;> rfl))) | ((with_reducible apply ard_done); (focus rfl)))
      rw [dropW_no hth]
      exact ⟨_, _, rfl, ⟨_, _, _, j1, j2, rfl, rfl, hN' _ _ _, hWW' _ _ _, hnd2, fun c hc => by have := hj c hc; simp; omega⟩, rfl⟩
    | true =>
      have hlt := isThere_lt hth
      rw [dropW_yes hA hth]
      obtain ⟨b, hbW', hbat, rfl⟩ : ∃ b, bW = .row b 0 w.length none 5 ∧ (H ++ Blk.row 2 [[aN, aW]] :: Blk.row 2 [[.nsl 7, .nsl 5]] :: (N1 ++ [])).at b = .row 5 (encw w) ∧ j2 = [b] := by
        rcases hWL with ⟨e1, e2, e3⟩ | ⟨b, e1, e2, e3⟩
        · subst e2; simp at hlt
        · exact ⟨b, e1, (at_mid (hj2 b (by simp [e3])).1 (hj2 b (by simp [e3])).2).trans e2, e3⟩
      subst hbW'
      have e1 : (plc id w : Int) + 1 = ((plc id w + 1 : Nat) : Int) := by omega
      have hbr := hj2 b (by simp)
      obtain ⟨q, rfl⟩ : ∃ q, b = H.length + (q + 1 + 1) := ⟨b - H.length - 2, by omega⟩
      repeat' (first | ((with_reducible first | apply ar_w T_ok | apply ar_w0 T_ok | apply ard_w T_ok | apply ard_w0 T_ok); (focus (simp (disch := omega) only [go_sem, Nat.reduceLT, Nat.reduceAdd, Nat.reduceLeDiff, Nat.reduceMul, Nat.reduceEqDiff, Nat.reduceBEq, reduceIte, hcN, hcW, hbN, hbNs, hbNc, hbW, hbWs, hbWc, e1] <;> rfl)); (focus (first | rfl | (simp [okIdsB, Nat.ble_eq]; done))); (focus rfl); (focus (first | trivial | (simp only [preOK]; omega) | exact ⟨by first | trivial | rfl | omega, by assumption, by omega⟩ | (simp [preOK, AllBytes, hcN, hcW, hbN, hbNs, hbNc, hbW, hbWs, hbWc, e1]; first | done | omega))); (focus (simp only [hcN, hcW, hbN, hbNs, hbNc, hbW, hbWs, hbWc, e1, Heap.puts, Heap.put_app, Heap.put_app0, Heap.put_len, Heap.put, List.length_append, List.length_cons, List.length_nil, Nat.zero_add, Nat.reduceAdd] <;> rfl))) | with_reducible (first | refine aw_reg_d P_mixed ?_ | refine ar_done ?_ | refine aw_seq ?_ | refine aw_reg ?_ | refine aw_block ?_ | refine aw_skip ?_ | refine aw_exit ?_ | refine aw_ret ?_ | refine at_n ?_ | refine at_e ?_ | refine at_r ?_ | refine ab_n ?_ | refine ab_r ?_ | refine ab_e ?_ | refine ab_ne rfl ?_ | refine an_e ?_ | refine an_r ?_ | refine am_e ?_ | refine am_r ?_) | ((with_reducible apply aw_cond_f); (focus (simp only [go_sem, Nat.reduceLT, Nat.reduceAdd, Nat.reduceLeDiff, Nat.reduceMul, Nat.reduceEqDiff, Nat.reduceBEq, reduceIte, hcN, hcW, hbN, hbNs, hbNc, hbW, hbWs, hbWc, e1] <;> rfl))) | ((with_reducible apply aw_cond_t); (focus (simp only [go_sem, Nat.reduceLT, Nat.reduceAdd, Nat.reduceLeDiff, Nat.reduceMul, Nat.reduceEqDiff, Nat.reduceBEq, reduceIte, hcN, hcW, hbN, hbNs, hbNc, hbW, hbWs, hbWc, e1] <;> rfl))) | ((with_reducible apply aw_cond_d); (focus (simp only [go_sem, Nat.reduceLT, Nat.reduceAdd, Nat.reduceLeDiff, Nat.reduceMul, Nat.reduceEqDiff, Nat.reduceBEq, reduceIte, hcN, hcW, hbN, hbNs, hbNc, hbW, hbWs, hbWc, e1] <;> rfl)); all_goals (intro hcond; try (exfalso; omega))) | ((with_reducible first | apply ae_r | apply ae_n); (focus (simp only [go_sem, Nat.reduceLT, Nat.reduceAdd, Nat.reduceLeDiff, Nat.reduceMul, Nat.reduceEqDiff, Nat.reduceBEq, reduceIte, hcN, hcW, hbN, hbNs, hbNc, hbW, hbWs, hbWc, e1] <;> rfl))) | ((with_reducible apply ard_done); (focus rfl)))
      ((apply ar_fcall rfl ok_46); (focus (simp only [go_sem, Nat.reduceLT, Nat.reduceAdd, Nat.reduceLeDiff, Nat.reduceMul, Nat.reduceEqDiff, Nat.reduceBEq, reduceIte, hcN, hcW, hbN, hbNs, hbNc, hbW, hbWs, hbWc, e1, List.map] <;> rfl)); (focus exact delete_any w (H.length + (q + 1 + 1)) (plc id w) _ ((at_mid hbr.1 hbr.2).trans hbat) (by simp; omega) hlt hw); (focus rfl); (focus rfl))
      rintro _ _ ⟨c, rfl, rfl⟩
      rw [Heap.put_app]
      simp only [Heap.put]
      rw [Heap.put_left _ _ _ _ (by omega)]
      have hl2 := Heap.put_length N1 q (.row 5 (encw (w.eraseIdx (plc id w)))) (by omega)
      have hN2' : ∀ x y Z, LNS (H ++ x :: y :: (N1.put q (.row 5 (encw (w.eraseIdx (plc id w)))) ++ Z)) l bN j1 := fun x y Z => (hN' x y Z).mono fun d hd => by
        have hd1 := hj1 d hd
        obtain ⟨p, rfl⟩ : ∃ p, d = H.length + (p + 1 + 1) := ⟨d - H.length - 2, by omega⟩
        have hpq : p ≠ q := fun e => by
          subst e
          exact (List.nodup_append.1 hnd2).2.2 _ hd _ (by simp) rfl
        rw [Heap.at_app, Heap.at_app, Heap.at_cons_succ, Heap.at_cons_succ, Heap.at_cons_succ, Heap.at_cons_succ, Heap.at_old _ _ (by omega), Heap.at_old _ _ (by omega), Heap.at_put_ne _ _ _ _ hpq]
      have hW2' : ∀ x y Z, LWS (H ++ x :: y :: (N1.put q (.row 5 (encw (w.eraseIdx (plc id w)))) ++ Z)) (w.eraseIdx (plc id w)) (.row (H.length + (q + 1 + 1)) 0 (w.length - 1) (some c) 5) [H.length + (q + 1 + 1)] := fun x y Z => by
        refine .inr ⟨_, some c, ?_, ?_, rfl⟩
        · rw [List.length_eraseIdx]; simp [hlt]
        · rw [Heap.at_app, Heap.at_cons_succ, Heap.at_cons_succ, Heap.at_old _ _ (by omega), Heap.at_put_same]
      obtain ⟨N2, hN2⟩ : ∃ N, N1.put q (.row 5 (encw (w.eraseIdx (plc id w)))) = N := ⟨_, rfl⟩
      rw [hN2] at hl2 hN2' hW2' ⊢
      rw [← hl2]
      repeat' (first | ((with_reducible first | apply ar_w T_ok | apply ar_w0 T_ok | apply ard_w T_ok | apply ard_w0 T_ok); (focus (simp (disch := omega) only [go_sem, Nat.reduceLT, Nat.reduceAdd, Nat.reduceLeDiff, Nat.reduceMul, Nat.reduceEqDiff, Nat.reduceBEq, reduceIte, hcN, hcW, hbN, hbNs, hbNc, hbW, hbWs, hbWc, e1] <;> rfl)); (focus (first | rfl | (simp [okIdsB, Nat.ble_eq]; done))); (focus rfl); (focus (first | trivial | (simp only [preOK]; omega) | exact ⟨by first | trivial | rfl | omega, by assumption, by omega⟩ | (simp [preOK, AllBytes, hcN, hcW, hbN, hbNs, hbNc, hbW, hbWs, hbWc, e1]; first | done | omega))); (focus (simp only [hcN, hcW, hbN, hbNs, hbNc, hbW, hbWs, hbWc, e1, Heap.puts, Heap.put_app, Heap.put_app0, Heap.put_len, Heap.put, List.length_append, List.length_cons, List.length_nil, Nat.zero_add, Nat.reduceAdd] <;> rfl))) | with_reducible (first | refine aw_reg_d P_mixed ?_ | refine ar_done ?_ | refine aw_seq ?_ | refine aw_reg ?_ | refine aw_block ?_ | refine aw_skip ?_ | refine aw_exit ?_ | refine aw_ret ?_ | refine at_n ?_ | refine at_e ?_ | refine at_r ?_ | refine ab_n ?_ | refine ab_r ?_ | refine ab_e ?_ | refine ab_ne rfl ?_ | refine an_e ?_ | refine an_r ?_ | refine am_e ?_ | refine am_r ?_) | ((with_reducible apply aw_cond_f); (focus (simp only [go_sem, Nat.reduceLT, Nat.reduceAdd, Nat.reduceLeDiff, Nat.reduceMul, Nat.reduceEqDiff, Nat.reduceBEq, reduceIte, hcN, hcW, hbN, hbNs, hbNc, hbW, hbWs, hbWc, e1] <;> rfl))) | ((with_reducible apply aw_cond_t); (focus (simp only [go_sem, Nat.reduceLT, Nat.reduceAdd, Nat.reduceLeDiff, Nat.reduceMul, Nat.reduceEqDiff, Nat.reduceBEq, reduceIte, hcN, hcW, hbN, hbNs, hbNc, hbW, hbWs, hbWc, e1] <;> rfl))) | ((with_reducible apply aw_cond_d); (focus (simp only [go_sem, Nat.reduceLT, Nat.reduceAdd, Nat.reduceLeDiff, Nat.reduceMul, Nat.reduceEqDiff, Nat.reduceBEq, reduceIte, hcN, hcW, hbN, hbNs, hbNc, hbW, hbWs, hbWc, e1] <;> rfl)); all_goals (intro hcond; try (exfalso; omega))) | ((with_reducible first | apply ae_r | apply ae_n); (focus (simp only [go_sem, Nat.reduceLT, Nat.reduceAdd, Nat.reduceLeDiff, Nat.reduceMul, Nat.reduceEqDiff, Nat.reduceBEq, reduceIte, hcN, hcW, hbN, hbNs, hbNc, hbW, hbWs, hbWc, e1] <;> rfl))) | ((with_reducible apply ard_done); (focus rfl)))
      exact ⟨_, _, rfl, ⟨_, _, _, j1, [H.length + (q + 1 + 1)], rfl, rfl, hN2' _ _ _, hW2' _ _ _, hnd2, fun d hd => by have := hj d hd; simp; omega⟩, rfl⟩
  · rw [ascB_false hA]
    repeat' (first | ((with_reducible first | apply ar_w T_ok | apply ar_w0 T_ok | apply ard_w T_ok | apply ard_w0 T_ok); (focus (simp (disch := omega) only [go_sem, Nat.reduceLT, Nat.reduceAdd, Nat.reduceLeDiff, Nat.reduceMul, Nat.reduceEqDiff, Nat.reduceBEq, reduceIte, hcN, hcW, hbN, hbNs, hbNc, hbW, hbWs, hbWc] <;> rfl)); (focus (first | rfl | (simp [okIdsB, Nat.ble_eq]; done))); (focus rfl); (focus (first | trivial | (simp only [preOK]; omega) | exact ⟨by first | trivial | rfl | omega, by assumption, by omega⟩ | (simp [preOK, AllBytes, hcN, hcW, hbN, hbNs, hbNc, hbW, hbWs, hbWc]; first | done | omega))); (focus (simp only [hcN, hcW, hbN, hbNs, hbNc, hbW, hbWs, hbWc, Heap.puts, Heap.put_app, Heap.put_app0, Heap.put_len, Heap.put, List.length_append, List.length_cons, List.length_nil, Nat.zero_add, Nat.reduceAdd] <;> rfl))) | with_reducible (first | refine aw_reg_d P_mixed ?_ | refine ar_done ?_ | refine aw_seq ?_ | refine aw_reg ?_ | refine aw_block ?_ | refine aw_skip ?_ | refine aw_exit ?_ | refine aw_ret ?_ | refine at_n ?_ | refine at_e ?_ | refine at_r ?_ | refine ab_n ?_ | refine ab_r ?_ | refine ab_e ?_ | refine ab_ne rfl ?_ | refine an_e ?_ | refine an_r ?_ | refine am_e ?_ | refine am_r ?_) | ((with_reducible apply aw_cond_f); (focus (simp only [go_sem, Nat.reduceLT, Nat.reduceAdd, Nat.reduceLeDiff, Nat.reduceMul, Nat.reduceEqDiff, Nat.reduceBEq, reduceIte, hcN, hcW, hbN, hbNs, hbNc, hbW, hbWs, hbWc] <;> rfl))) | ((with_reducible apply aw_cond_t); (focus (simp only [go_sem, Nat.reduceLT, Nat.reduceAdd, Nat.reduceLeDiff, Nat.reduceMul, Nat.reduceEqDiff, Nat.reduceBEq, reduceIte, hcN, hcW, hbN, hbNs, hbNc, hbW, hbWs, hbWc] <;> rfl))) | ((with_reducible apply aw_cond_d); (focus (simp only [go_sem, Nat.reduceLT, Nat.reduceAdd, Nat.reduceLeDiff, Nat.reduceMul, Nat.reduceEqDiff, Nat.reduceBEq, reduceIte, hcN, hcW, hbN, hbNs, hbNc, hbW, hbWs, hbWc] <;> rfl)); all_goals (intro hcond; try (exfalso; omega))) | ((with_reducible first | apply ae_r | apply ae_n); (focus (simp only [go_sem, Nat.reduceLT, Nat.reduceAdd, Nat.reduceLeDiff, Nat.reduceMul, Nat.reduceEqDiff, Nat.reduceBEq, reduceIte, hcN, hcW, hbN, hbNs, hbNc, hbW, hbWs, hbWc] <;> rfl))) | ((with_reducible apply ard_done); (focus rfl)))
    rw [dropW_asc hA]
    exact ⟨_, _, rfl, ⟨_, _, _, j1, j2, rfl, rfl, hN' _ _ _, hWW' _ _ _, hnd2, fun c hc => by have := hj c hc; simp; omega⟩, rfl⟩
end Go.Av
set_option linter.unusedVariables false
set_option linter.unusedSimpArgs false
namespace Go.Av
open Go
set_option maxRecDepth 10000

mutual
/-- what is laid out for a value, from a number on -/
def tV (n : Nat) : GV → List AV × List Blk
  | ⟨k, x, t, l, ns⟩ => ([.int .i64 k, .int .i64 x, .str t, .row (n + 3) 0 l.length (some l.length) 5, .row (n + ((tVs (n + 3 + 1) l).2.length + 1 + 1 + 1 + 1)) 0 ns.length (some ns.length) 1],
      .dead :: .dead :: .dead :: .row 5 (tVs (n + 3 + 1) l).1 :: ((tVs (n + 3 + 1) l).2 ++ [.row 1 (strs ns)]))
def tVs (n : Nat) : List GV → List (List AV) × List Blk
  | [] => ([], [])
  | v :: r => ((tV n v).1 :: (tVs (n + (tV n v).2.length) r).1, (tV n v).2 ++ (tVs (n + (tV n v).2.length) r).2)
end
theorem tVs_len : ∀ (l : List GV) (n : Nat), (tVs n l).1.length = l.length
  | [], n => rfl
  | v :: r, n => by simp [tVs, tVs_len r]
theorem tVs_snoc : ∀ (l : List GV) (n : Nat) (v : GV), tVs n (l ++ [v]) = ((tVs n l).1 ++ [(tV (n + (tVs n l).2.length) v).1], (tVs n l).2 ++ (tV (n + (tVs n l).2.length) v).2)
  | [], n, v => by simp [tVs]
  | u :: r, n, v => by
    have := tVs_snoc r (n + (tV n u).2.length) v
    simp only [List.cons_append, tVs, this, List.length_append, List.append_assoc, Nat.add_assoc]
theorem tV_shape (n : Nat) : ∀ v : GV, ∃ k x t aL aN, (tV n v).1 = [.int .i64 k, .int .i64 x, .str t, aL, aN] ∧ aL.isCell = true ∧ aN.isCell = true
  | ⟨k, x, t, l, ns⟩ => ⟨k, x, t, _, _, by simp only [tV]; rfl, rfl, rfl⟩
mutual
theorem tV_abv : ∀ (v : GV) (n n0 : Nat), n0 ≤ n → abvL n0 (tV n v).1 = true ∧ ∀ x ∈ (tV n v).2, Blk.abv n0 x = true
  | ⟨k, x, t, l, ns⟩, n, n0, h0 => by
    have h := tVs_abv l (n + 3 + 1) n0 (by omega)
    simp only [tV]
    refine ⟨by simp [abvL, AV.abv]; omega, fun y hy => ?_⟩
    simp only [List.mem_cons, List.mem_append, List.not_mem_nil, or_false] at hy
    rcases hy with rfl | rfl | rfl | rfl | hy | rfl
    · rfl
    · rfl
    · rfl
    · exact h.1
    · exact h.2 y hy
    · exact strs_abv n0 ns
theorem tVs_abv : ∀ (l : List GV) (n n0 : Nat), n0 ≤ n → (tVs n l).1.all (abvL n0) = true ∧ ∀ x ∈ (tVs n l).2, Blk.abv n0 x = true
  | [], n, n0, h0 => ⟨rfl, fun x hx => by cases hx⟩
  | v :: r, n, n0, h0 => by
    have h1 := tV_abv v n n0 h0
    have h2 := tVs_abv r (n + (tV n v).2.length) n0 (by omega)
    simp only [tVs]
    refine ⟨by simp only [List.all_cons, h1.1, h2.1, Bool.and_self], fun y hy => ?_⟩
    rcases List.mem_append.1 hy with hy | hy
    · exact h1.2 y hy
    · exact h2.2 y hy
end
mutual
theorem tV_LV : ∀ (v : GV) (G : Heap), ∃ ids, LV (G ++ (tV G.length v).2) v (tV G.length v).1 ids ∧ ids.Nodup ∧ ∀ b ∈ ids, G.length ≤ b ∧ b < G.length + (tV G.length v).2.length
  | ⟨k, x, t, l, ns⟩, G => by
    simp only [tV]
    obtain ⟨⟨es, N⟩, hEN⟩ : ∃ p, tVs (G.length + 3 + 1) l = p := ⟨_, rfl⟩
    simp only [hEN]
    obtain ⟨i1, g1, g2, g3⟩ := tVs_LV l (G ++ [.dead, .dead, .dead, .row 5 es])
    have hlen : (G ++ [Blk.dead, .dead, .dead, .row 5 es]).length = G.length + 3 + 1 := by simp
    rw [hlen, hEN] at g1 g3
    simp only [List.append_assoc, List.cons_append, List.nil_append] at g1 g3
    refine ⟨(G.length + 3) :: i1 ++ [G.length + (N.length + 1 + 1 + 1 + 1)], LV_iff.2 ⟨_, _, _ :: i1, _, rfl, .inr ⟨_, _, es, i1, rfl, ?_, LVs.mono l g1 fun b hb => ?_, rfl⟩, .inr ⟨_, _, rfl, ?_, rfl⟩, rfl⟩, ?_, fun b hb => ?_⟩
    · rw [Heap.at_app]
      rfl
    · have := g3 b hb
      obtain ⟨q, rfl⟩ : ∃ q, b = G.length + (q + 1 + 1 + 1 + 1) := ⟨b - G.length - 4, by omega⟩
      rw [Heap.at_app, Heap.at_app]
      simp only [Heap.at_cons_succ]
      exact Heap.at_old _ _ (by omega)
    · rw [Heap.at_app]
      simp only [Heap.at_cons_succ]
      rw [Heap.at_app0, Heap.at_cons_zero]
    · rw [List.cons_append, List.nodup_cons, List.nodup_append]
      refine ⟨fun h => ?_, g2, by simp, fun p hp q hq => ?_⟩
      · rcases List.mem_append.1 h with h | h
        · have := g3 _ h; omega
        · simp at h
      · have := g3 p hp; simp at hq; omega
    · simp only [List.cons_append, List.mem_cons, List.mem_append, List.not_mem_nil, or_false] at hb
      simp only [List.length_cons, List.length_append, List.length_nil]
      rcases hb with rfl | hb | rfl
      · omega
      · have := g3 b hb; omega
      · omega
theorem tVs_LV : ∀ (l : List GV) (G : Heap), ∃ ids, LVs (G ++ (tVs G.length l).2) l (tVs G.length l).1 ids ∧ ids.Nodup ∧ ∀ b ∈ ids, G.length ≤ b ∧ b < G.length + (tVs G.length l).2.length
  | [], G => ⟨[], ⟨rfl, rfl⟩, .nil, fun b hb => by cases hb⟩
  | v :: r, G => by
    simp only [tVs]
    obtain ⟨⟨c, B⟩, hcB⟩ : ∃ p, tV G.length v = p := ⟨_, rfl⟩
    simp only [hcB]
    obtain ⟨⟨es, N⟩, hEN⟩ : ∃ p, tVs (G.length + B.length) r = p := ⟨_, rfl⟩
    simp only [hEN]
    obtain ⟨i1, h1, h2, h3⟩ := tV_LV v G
    rw [hcB] at h1 h3
    obtain ⟨i2, g1, g2, g3⟩ := tVs_LV r (G ++ B)
    rw [show (G ++ B).length = G.length + B.length by simp, hEN] at g1 g3
    simp only [List.append_assoc] at h1 g1 h3 g3
    refine ⟨i1 ++ i2, ⟨_, _, i1, i2, rfl, LV.mono v h1 fun b hb => ?_, g1, rfl⟩, ?_, fun b hb => ?_⟩
    · have h3' : G.length ≤ b ∧ b < G.length + B.length := h3 b hb
      rw [← List.append_assoc, Heap.at_old _ _ (by simp; omega)]
    · rw [List.nodup_append]
      exact ⟨h2, g2, fun p hp q hq => by have h3' : G.length ≤ p ∧ p < G.length + B.length := h3 p hp; have := g3 q hq; omega⟩
    · simp only [List.length_append]
      rcases List.mem_append.1 hb with hb | hb
      · have h3' : G.length ≤ b ∧ b < G.length + B.length := h3 b hb; omega
      · have := g3 b hb; omega
end
/-- what is laid out for a list of values -/
def tVS (n : Nat) (l : List GV) : AV × List Blk := (.row n 0 l.length (some l.length) 5, .row 5 (tVs (n + 1) l).1 :: (tVs (n + 1) l).2)

theorem toValue_fix (v : GV) (hf : v.fits) (ih : ∀ (l : List GV) (H : Heap), sizes l < v.size → Len l → fitss l → FCall P 94 [.fsl 5 (encs l)] H fun r H' => r = (tVS H.length l).1 ∧ H' = H ++ (tVS H.length l).2) (H : Heap) :
    FCall P 68 [.agg v.enc] H fun r H' => r = .agg (tV H.length v).1 ∧ H' = H ++ (tV H.length v).2 := by
  refine FCall.kill (R := fun r H' => r = .agg (tV H.length v).1 ∧ ∃ A B C, H' = H ++ A :: B :: C :: (tV H.length v).2.drop 3) ?_ ?_
  rotate_left
  · rintro r _ ⟨rfl, A, B, C, rfl⟩
    obtain ⟨k, n, t, l, ns⟩ := v
    refine ⟨H ++ (tV H.length ⟨k, n, t, l, ns⟩).2, by simp [tV], heapW_at ?_, rfl, rfl⟩
    simp only [tV, List.drop_succ_cons, List.drop_zero]
    exact heapW_app H ⟨.dead _, .dead _, .dead _, heapW_refl _⟩
  obtain ⟨k, n, t, l, ns⟩ := v
  obtain ⟨f1, f2, f3, f4, f5, f6, f7⟩ := hf
  have hsol : (1 : Nat) = 1 := rfl
  have hcel : (1 : Nat) = 1 := rfl
  have hcell : (1 : Nat) = 1 := rfl
  refine fcall_walk T_ok ok_68 rfl ?_
  unfold Go.Proofs.Try.f68
  simp only [Option.getD_some, envOf, Nat.zero_add, Nat.reduceAdd, GV.enc]
  repeat' (first | ((with_reducible first | apply ar_w T_ok | apply ar_w0 T_ok | apply ard_w T_ok | apply ard_w0 T_ok); (focus (simp (disch := omega) only [go_sem, Nat.reduceLT, Nat.reduceAdd, Nat.reduceLeDiff, Nat.reduceMul, Nat.reduceEqDiff, Nat.reduceBEq, reduceIte, hsol, hcel, hcell] <;> rfl)); (focus (first | rfl | (simp [okIdsB, Nat.ble_eq]; done))); (focus rfl); (focus (first | trivial | (simp only [preOK]; omega) | exact ⟨by first | trivial | rfl | omega, by assumption, by omega⟩ | (simp [preOK, AllBytes, hsol, hcel, hcell]; first | done | omega))); (focus (simp only [hsol, hcel, hcell, Heap.puts, Heap.put_app, Heap.put_app0, Heap.put_len, Heap.put, List.length_append, List.length_cons, List.length_nil, Nat.zero_add, Nat.reduceAdd] <;> rfl))) | with_reducible (first | refine aw_reg_d P_mixed ?_ | refine ar_done ?_ | refine aw_seq ?_ | refine aw_reg ?_ | refine aw_block ?_ | refine aw_skip ?_ | refine aw_exit ?_ | refine aw_ret ?_ | refine at_n ?_ | refine at_e ?_ | refine at_r ?_ | refine ab_n ?_ | refine ab_r ?_ | refine ab_e ?_ | refine ab_ne rfl ?_ | refine an_e ?_ | refine an_r ?_ | refine am_e ?_ | refine am_r ?_) | ((with_reducible apply aw_cond_f); (focus (simp only [go_sem, Nat.reduceLT, Nat.reduceAdd, Nat.reduceLeDiff, Nat.reduceMul, Nat.reduceEqDiff, Nat.reduceBEq, reduceIte, hsol, hcel, hcell] <;> rfl))) | ((with_reducible apply aw_cond_t); (focus (simp only [go_sem, Nat.reduceLT, Nat.reduceAdd, Nat.reduceLeDiff, Nat.reduceMul, Nat.reduceEqDiff, Nat.reduceBEq, reduceIte, hsol, hcel, hcell] <;> rfl))) | ((with_reducible apply aw_cond_d); (focus (simp only [go_sem, Nat.reduceLT, Nat.reduceAdd, Nat.reduceLeDiff, Nat.reduceMul, Nat.reduceEqDiff, Nat.reduceBEq, reduceIte, hsol, hcel, hcell] <;> rfl)); all_goals (intro hcond; try (exfalso; omega))) | ((with_reducible first | apply ae_r | apply ae_n); (focus (simp only [go_sem, Nat.reduceLT, Nat.reduceAdd, Nat.reduceLeDiff, Nat.reduceMul, Nat.reduceEqDiff, Nat.reduceBEq, reduceIte, hsol, hcel, hcell] <;> rfl))) | ((with_reducible apply ard_done); (focus rfl)))
  ((apply ar_fcall rfl ok_94); (focus (simp only [go_sem, Nat.reduceLT, Nat.reduceAdd, Nat.reduceLeDiff, Nat.reduceMul, Nat.reduceEqDiff, Nat.reduceBEq, reduceIte, hsol, hcel, hcell, List.map] <;> rfl)); (focus exact ih l _ (by simp only [GV.size]; omega) f4 f5); (focus rfl); (focus rfl))
  rintro _ _ ⟨rfl, rfl⟩
  simp only [tVS, List.append_assoc, List.cons_append, List.nil_append, List.length_append, List.length_cons, List.length_nil, Nat.zero_add, Nat.reduceAdd]
  clear hsol hcel hcell
  repeat' (first | ((with_reducible first | apply ar_w T_ok | apply ar_w0 T_ok | apply ard_w T_ok | apply ard_w0 T_ok); (focus (simp (disch := omega) only [go_sem, Nat.reduceLT, Nat.reduceAdd, Nat.reduceLeDiff, Nat.reduceMul, Nat.reduceEqDiff, Nat.reduceBEq, reduceIte, strs_len] <;> rfl)); (focus (first | rfl | (simp [okIdsB, Nat.ble_eq]; done))); (focus rfl); (focus (first | trivial | (simp only [preOK]; omega) | exact ⟨by first | trivial | rfl | omega, by assumption, by omega⟩ | (simp [preOK, AllBytes, strs_len]; first | done | omega))); (focus (simp only [strs_len, Heap.puts, Heap.put_app, Heap.put_app0, Heap.put_len, Heap.put, List.length_append, List.length_cons, List.length_nil, Nat.zero_add, Nat.reduceAdd] <;> rfl))) | with_reducible (first | refine aw_reg_d P_mixed ?_ | refine ar_done ?_ | refine aw_seq ?_ | refine aw_reg ?_ | refine aw_block ?_ | refine aw_skip ?_ | refine aw_exit ?_ | refine aw_ret ?_ | refine at_n ?_ | refine at_e ?_ | refine at_r ?_ | refine ab_n ?_ | refine ab_r ?_ | refine ab_e ?_ | refine ab_ne rfl ?_ | refine an_e ?_ | refine an_r ?_ | refine am_e ?_ | refine am_r ?_) | ((with_reducible apply aw_cond_f); (focus (simp only [go_sem, Nat.reduceLT, Nat.reduceAdd, Nat.reduceLeDiff, Nat.reduceMul, Nat.reduceEqDiff, Nat.reduceBEq, reduceIte, strs_len] <;> rfl))) | ((with_reducible apply aw_cond_t); (focus (simp only [go_sem, Nat.reduceLT, Nat.reduceAdd, Nat.reduceLeDiff, Nat.reduceMul, Nat.reduceEqDiff, Nat.reduceBEq, reduceIte, strs_len] <;> rfl))) | ((with_reducible apply aw_cond_d); (focus (simp only [go_sem, Nat.reduceLT, Nat.reduceAdd, Nat.reduceLeDiff, Nat.reduceMul, Nat.reduceEqDiff, Nat.reduceBEq, reduceIte, strs_len] <;> rfl)); all_goals (intro hcond; try (exfalso; omega))) | ((with_reducible first | apply ae_r | apply ae_n); (focus (simp only [go_sem, Nat.reduceLT, Nat.reduceAdd, Nat.reduceLeDiff, Nat.reduceMul, Nat.reduceEqDiff, Nat.reduceBEq, reduceIte, strs_len] <;> rfl))) | ((with_reducible apply ard_done); (focus rfl)))
  ((apply ar_fcall rfl ok_95); (focus (simp only [go_sem, Nat.reduceLT, Nat.reduceAdd, Nat.reduceLeDiff, Nat.reduceMul, Nat.reduceEqDiff, Nat.reduceBEq, reduceIte, strs_len, List.map] <;> rfl)); (focus exact toStringS_ok ns f6 _); (focus rfl); (focus rfl))
  rintro _ _ ⟨rfl, rfl⟩
  simp only [List.append_assoc, List.cons_append, List.nil_append]
  repeat' (first | ((with_reducible first | apply ar_w T_ok | apply ar_w0 T_ok | apply ard_w T_ok | apply ard_w0 T_ok); (focus (simp (disch := omega) only [go_sem, Nat.reduceLT, Nat.reduceAdd, Nat.reduceLeDiff, Nat.reduceMul, Nat.reduceEqDiff, Nat.reduceBEq, reduceIte, strs_len] <;> rfl)); (focus (first | rfl | (simp [okIdsB, Nat.ble_eq]; done))); (focus rfl); (focus (first | trivial | (simp only [preOK]; omega) | exact ⟨by first | trivial | rfl | omega, by assumption, by omega⟩ | (simp [preOK, AllBytes, strs_len]; first | done | omega))); (focus (simp only [strs_len, Heap.puts, Heap.put_app, Heap.put_app0, Heap.put_len, Heap.put, List.length_append, List.length_cons, List.length_nil, Nat.zero_add, Nat.reduceAdd] <;> rfl))) | with_reducible (first | refine aw_reg_d P_mixed ?_ | refine ar_done ?_ | refine aw_seq ?_ | refine aw_reg ?_ | refine aw_block ?_ | refine aw_skip ?_ | refine aw_exit ?_ | refine aw_ret ?_ | refine at_n ?_ | refine at_e ?_ | refine at_r ?_ | refine ab_n ?_ | refine ab_r ?_ | refine ab_e ?_ | refine ab_ne rfl ?_ | refine an_e ?_ | refine an_r ?_ | refine am_e ?_ | refine am_r ?_) | ((with_reducible apply aw_cond_f); (focus (simp only [go_sem, Nat.reduceLT, Nat.reduceAdd, Nat.reduceLeDiff, Nat.reduceMul, Nat.reduceEqDiff, Nat.reduceBEq, reduceIte, strs_len] <;> rfl))) | ((with_reducible apply aw_cond_t); (focus (simp only [go_sem, Nat.reduceLT, Nat.reduceAdd, Nat.reduceLeDiff, Nat.reduceMul, Nat.reduceEqDiff, Nat.reduceBEq, reduceIte, strs_len] <;> rfl))) | ((with_reducible apply aw_cond_d); (focus (simp only [go_sem, Nat.reduceLT, Nat.reduceAdd, Nat.reduceLeDiff, Nat.reduceMul, Nat.reduceEqDiff, Nat.reduceBEq, reduceIte, strs_len] <;> rfl)); all_goals (intro hcond; try (exfalso; omega))) | ((with_reducible first | apply ae_r | apply ae_n); (focus (simp only [go_sem, Nat.reduceLT, Nat.reduceAdd, Nat.reduceLeDiff, Nat.reduceMul, Nat.reduceEqDiff, Nat.reduceBEq, reduceIte, strs_len] <;> rfl))) | ((with_reducible apply ard_done); (focus rfl)))
  exact ⟨by simp only [aresV, tV], _, _, _, by simp only [tV, List.drop_succ_cons, List.drop_zero]; rfl⟩

theorem toValueS_fix (l : List GV) (hl : Len l) (hf : fitss l) (ih : ∀ (v : GV) (H : Heap), v ∈ l → v.fits → FCall P 68 [.agg v.enc] H fun r H' => r = .agg (tV H.length v).1 ∧ H' = H ++ (tV H.length v).2) (H : Heap) : FCall P 94 [.fsl 5 (encs l)] H fun r H' => r = (tVS H.length l).1 ∧ H' = H ++ (tVS H.length l).2 := by
  refine fcall_walk T_ok ok_94 rfl ?_
  unfold Go.Proofs.Try.f94
  simp only [Option.getD_some, envOf, Nat.zero_add, Nat.reduceAdd]
  repeat' (first | ((with_reducible first | apply ar_w T_ok | apply ar_w0 T_ok | apply ard_w T_ok | apply ard_w0 T_ok); (focus (simp (disch := omega) only [go_sem, Nat.reduceLT, Nat.reduceAdd, Nat.reduceLeDiff, Nat.reduceMul, Nat.reduceEqDiff, Nat.reduceBEq, reduceIte, encs_get, encs_len, enc_len, enc_take, enc_frz, enc_all] <;> rfl)); (focus (first | rfl | (simp [okIdsB, Nat.ble_eq]; done))); (focus rfl); (focus (first | trivial | (simp only [preOK]; omega) | exact ⟨by first | trivial | rfl | omega, by assumption, by omega⟩ | (simp [preOK, AllBytes, encs_get, encs_len, enc_len, enc_take, enc_frz, enc_all]; first | done | omega))); (focus (simp only [encs_get, encs_len, enc_len, enc_take, enc_frz, enc_all, Heap.puts, Heap.put_app, Heap.put_app0, Heap.put_len, Heap.put, List.length_append, List.length_cons, List.length_nil, Nat.zero_add, Nat.reduceAdd] <;> rfl))) | with_reducible (first | refine aw_reg_d P_mixed ?_ | refine ar_done ?_ | refine aw_seq ?_ | refine aw_reg ?_ | refine aw_block ?_ | refine aw_skip ?_ | refine aw_exit ?_ | refine aw_ret ?_ | refine at_n ?_ | refine at_e ?_ | refine at_r ?_ | refine ab_n ?_ | refine ab_r ?_ | refine ab_e ?_ | refine ab_ne rfl ?_ | refine an_e ?_ | refine an_r ?_ | refine am_e ?_ | refine am_r ?_) | ((with_reducible apply aw_cond_f); (focus (simp only [go_sem, Nat.reduceLT, Nat.reduceAdd, Nat.reduceLeDiff, Nat.reduceMul, Nat.reduceEqDiff, Nat.reduceBEq, reduceIte, encs_get, encs_len, enc_len, enc_take, enc_frz, enc_all] <;> rfl))) | ((with_reducible apply aw_cond_t); (focus (simp only [go_sem, Nat.reduceLT, Nat.reduceAdd, Nat.reduceLeDiff, Nat.reduceMul, Nat.reduceEqDiff, Nat.reduceBEq, reduceIte, encs_get, encs_len, enc_len, enc_take, enc_frz, enc_all] <;> rfl))) | ((with_reducible apply aw_cond_d); (focus (simp only [go_sem, Nat.reduceLT, Nat.reduceAdd, Nat.reduceLeDiff, Nat.reduceMul, Nat.reduceEqDiff, Nat.reduceBEq, reduceIte, encs_get, encs_len, enc_len, enc_take, enc_frz, enc_all] <;> rfl)); all_goals (intro hcond; try (exfalso; omega))) | ((with_reducible first | apply ae_r | apply ae_n); (focus (simp only [go_sem, Nat.reduceLT, Nat.reduceAdd, Nat.reduceLeDiff, Nat.reduceMul, Nat.reduceEqDiff, Nat.reduceBEq, reduceIte, encs_get, encs_len, enc_len, enc_take, enc_frz, enc_all] <;> rfl))) | ((with_reducible apply ard_done); (focus rfl)))
  obtain ⟨M0, hM0⟩ : ∃ M, H.length + 1 = M := ⟨_, rfl⟩
  simp only [tVS, hM0]
  refine aw_loopn (fun kk env H1 => ∃ (i : Nat), i ≤ l.length ∧ kk = l.length - i ∧ env = [(0, .fsl 5 (encs l)), (3, .row H.length 0 l.length (some l.length) 5), (4, .int .i64 i)] ∧
      H1 = H ++ (.row 5 ((tVs M0 (l.take i)).1 ++ List.replicate (l.length - i) [.int .i64 0, .int .i64 0, .str [], .nsl 5, .nsl 1]) :: (tVs M0 (l.take i)).2)) l.length
    [(0, .fsl 5 (encs l)), (3, .row H.length 0 l.length (some l.length) 5), (4, .int .i64 0)] _ (by simp [subP, Env.get, Weak.refl]) (heapW_refl _) rfl ⟨0, Nat.zero_le _, rfl, rfl, rfl⟩ ?_
  rintro kk env H1 ⟨i, hi, hk, rfl, rfl⟩
  have hA : (tVs M0 (l.take i)).1.length = i := by rw [tVs_len]; simp; omega
  obtain ⟨⟨E, N⟩, hEN⟩ : ∃ p, tVs M0 (l.take i) = p := ⟨_, rfl⟩
  rw [hEN] at hA
  dsimp only at hA
  simp only [hEN]
  by_cases hlt : i < l.length
  · have hmem := mem_getD (d := default) hlt
    have hff := fitss_mem hf _ hmem
    repeat' (first | ((with_reducible first | apply ar_w T_ok | apply ar_w0 T_ok | apply ard_w T_ok | apply ard_w0 T_ok); (focus (simp (disch := omega) only [go_sem, Nat.reduceLT, Nat.reduceAdd, Nat.reduceLeDiff, Nat.reduceMul, Nat.reduceEqDiff, Nat.reduceBEq, reduceIte, encs_get, encs_len, enc_len, enc_take, enc_frz, enc_all] <;> rfl)); (focus (first | rfl | (simp [okIdsB, Nat.ble_eq]; done))); (focus rfl); (focus (first | trivial | (simp only [preOK]; omega) | exact ⟨by first | trivial | rfl | omega, by assumption, by omega⟩ | (simp [preOK, AllBytes, encs_get, encs_len, enc_len, enc_take, enc_frz, enc_all]; first | done | omega))); (focus (simp only [encs_get, encs_len, enc_len, enc_take, enc_frz, enc_all, Heap.puts, Heap.put_app, Heap.put_app0, Heap.put_len, Heap.put, List.length_append, List.length_cons, List.length_nil, Nat.zero_add, Nat.reduceAdd] <;> rfl))) | with_reducible (first | refine aw_reg_d P_mixed ?_ | refine ar_done ?_ | refine aw_seq ?_ | refine aw_reg ?_ | refine aw_block ?_ | refine aw_skip ?_ | refine aw_exit ?_ | refine aw_ret ?_ | refine at_n ?_ | refine at_e ?_ | refine at_r ?_ | refine ab_n ?_ | refine ab_r ?_ | refine ab_e ?_ | refine ab_ne rfl ?_ | refine an_e ?_ | refine an_r ?_ | refine am_e ?_ | refine am_r ?_) | ((with_reducible apply aw_cond_f); (focus (simp only [go_sem, Nat.reduceLT, Nat.reduceAdd, Nat.reduceLeDiff, Nat.reduceMul, Nat.reduceEqDiff, Nat.reduceBEq, reduceIte, encs_get, encs_len, enc_len, enc_take, enc_frz, enc_all] <;> rfl))) | ((with_reducible apply aw_cond_t); (focus (simp only [go_sem, Nat.reduceLT, Nat.reduceAdd, Nat.reduceLeDiff, Nat.reduceMul, Nat.reduceEqDiff, Nat.reduceBEq, reduceIte, encs_get, encs_len, enc_len, enc_take, enc_frz, enc_all] <;> rfl))) | ((with_reducible apply aw_cond_d); (focus (simp only [go_sem, Nat.reduceLT, Nat.reduceAdd, Nat.reduceLeDiff, Nat.reduceMul, Nat.reduceEqDiff, Nat.reduceBEq, reduceIte, encs_get, encs_len, enc_len, enc_take, enc_frz, enc_all] <;> rfl)); all_goals (intro hcond; try (exfalso; omega))) | ((with_reducible first | apply ae_r | apply ae_n); (focus (simp only [go_sem, Nat.reduceLT, Nat.reduceAdd, Nat.reduceLeDiff, Nat.reduceMul, Nat.reduceEqDiff, Nat.reduceBEq, reduceIte, encs_get, encs_len, enc_len, enc_take, enc_frz, enc_all] <;> rfl))) | ((with_reducible apply ard_done); (focus rfl)))
    ((apply ar_fcall rfl ok_68); (focus (simp only [go_sem, Nat.reduceLT, Nat.reduceAdd, Nat.reduceLeDiff, Nat.reduceMul, Nat.reduceEqDiff, Nat.reduceBEq, reduceIte, encs_get, encs_len, enc_len, enc_take, enc_frz, enc_all, List.map] <;> rfl)); (focus exact ih _ _ hmem hff); (focus rfl); (focus rfl))
    rintro _ _ ⟨rfl, rfl⟩
    simp only [List.length_append, List.length_cons]
    rw [show H.length + (N.length + 1) = M0 + N.length by omega]
    have htk : tVs M0 (l.take (i + 1)) = (E ++ [(tV (M0 + N.length) (l.getD i default)).1], N ++ (tV (M0 + N.length) (l.getD i default)).2) := by
      rw [List.take_succ_eq_append_getElem hlt, tVs_snoc, hEN, show l[i] = l.getD i default by simp [List.getD_eq_getElem?_getD, hlt]]
    obtain ⟨k', n', t', aL, aN, hcu, hc1, hc2⟩ := tV_shape (M0 + N.length) (l.getD i default)
    obtain ⟨⟨cu, Bu⟩, hcB⟩ : ∃ p, tV (M0 + N.length) (l.getD i default) = p := ⟨_, rfl⟩
    rw [hcB] at hcu htk ⊢
    dsimp only at hcu htk
    subst hcu
    simp only [List.append_assoc, List.cons_append, List.nil_append]
    have hset := set_fill (z := [AV.int .i64 0, .int .i64 0, .str [], .nsl 5, .nsl 1]) (e := [.int .i64 k', .int .i64 n', .str t', aL, aN]) hA hlt
    have hget := getD_fill (z := [AV.int .i64 0, .int .i64 0, .str [], .nsl 5, .nsl 1]) (d := []) hA hlt
    repeat' (first | ((with_reducible first | apply ar_w T_ok | apply ar_w0 T_ok | apply ard_w T_ok | apply ard_w0 T_ok); (focus (simp (disch := omega) only [go_sem, Nat.reduceLT, Nat.reduceAdd, Nat.reduceLeDiff, Nat.reduceMul, Nat.reduceEqDiff, Nat.reduceBEq, reduceIte, encs_get, encs_len, enc_len, enc_take, enc_frz, enc_all, hset, hget, hc1, hc2] <;> rfl)); (focus (first | rfl | (simp [okIdsB, Nat.ble_eq]; done))); (focus rfl); (focus (first | trivial | (simp only [preOK]; omega) | exact ⟨by first | trivial | rfl | omega, by assumption, by omega⟩ | (simp [preOK, AllBytes, encs_get, encs_len, enc_len, enc_take, enc_frz, enc_all, hset, hget, hc1, hc2]; first | done | omega))); (focus (simp only [encs_get, encs_len, enc_len, enc_take, enc_frz, enc_all, hset, hget, hc1, hc2, Heap.puts, Heap.put_app, Heap.put_app0, Heap.put_len, Heap.put, List.length_append, List.length_cons, List.length_nil, Nat.zero_add, Nat.reduceAdd] <;> rfl))) | with_reducible (first | refine aw_reg_d P_mixed ?_ | refine ar_done ?_ | refine aw_seq ?_ | refine aw_reg ?_ | refine aw_block ?_ | refine aw_skip ?_ | refine aw_exit ?_ | refine aw_ret ?_ | refine at_n ?_ | refine at_e ?_ | refine at_r ?_ | refine ab_n ?_ | refine ab_r ?_ | refine ab_e ?_ | refine ab_ne rfl ?_ | refine an_e ?_ | refine an_r ?_ | refine am_e ?_ | refine am_r ?_) | ((with_reducible apply aw_cond_f); (focus (simp only [go_sem, Nat.reduceLT, Nat.reduceAdd, Nat.reduceLeDiff, Nat.reduceMul, Nat.reduceEqDiff, Nat.reduceBEq, reduceIte, encs_get, encs_len, enc_len, enc_take, enc_frz, enc_all, hset, hget, hc1, hc2] <;> rfl))) | ((with_reducible apply aw_cond_t); (focus (simp only [go_sem, Nat.reduceLT, Nat.reduceAdd, Nat.reduceLeDiff, Nat.reduceMul, Nat.reduceEqDiff, Nat.reduceBEq, reduceIte, encs_get, encs_len, enc_len, enc_take, enc_frz, enc_all, hset, hget, hc1, hc2] <;> rfl))) | ((with_reducible apply aw_cond_d); (focus (simp only [go_sem, Nat.reduceLT, Nat.reduceAdd, Nat.reduceLeDiff, Nat.reduceMul, Nat.reduceEqDiff, Nat.reduceBEq, reduceIte, encs_get, encs_len, enc_len, enc_take, enc_frz, enc_all, hset, hget, hc1, hc2] <;> rfl)); all_goals (intro hcond; try (exfalso; omega))) | ((with_reducible first | apply ae_r | apply ae_n); (focus (simp only [go_sem, Nat.reduceLT, Nat.reduceAdd, Nat.reduceLeDiff, Nat.reduceMul, Nat.reduceEqDiff, Nat.reduceBEq, reduceIte, encs_get, encs_len, enc_len, enc_take, enc_frz, enc_all, hset, hget, hc1, hc2] <;> rfl))) | ((with_reducible apply ard_done); (focus rfl)))
    refine anextn _ _ (k' := l.length - (i + 1)) (by omega) (by simp; omega) ?_ ?_ ?_ ⟨i + 1, by omega, rfl, rfl, rfl⟩
    · simp [subP, Env.get, Weak.refl]
    · rw [htk]; exact heapW_refl _
    · rw [htk]
  · have : i = l.length := by omega
    subst this
    repeat' (first | ((with_reducible first | apply ar_w T_ok | apply ar_w0 T_ok | apply ard_w T_ok | apply ard_w0 T_ok); (focus (simp (disch := omega) only [go_sem, Nat.reduceLT, Nat.reduceAdd, Nat.reduceLeDiff, Nat.reduceMul, Nat.reduceEqDiff, Nat.reduceBEq, reduceIte, encs_get, encs_len, enc_len, enc_take, enc_frz, enc_all] <;> rfl)); (focus (first | rfl | (simp [okIdsB, Nat.ble_eq]; done))); (focus rfl); (focus (first | trivial | (simp only [preOK]; omega) | exact ⟨by first | trivial | rfl | omega, by assumption, by omega⟩ | (simp [preOK, AllBytes, encs_get, encs_len, enc_len, enc_take, enc_frz, enc_all]; first | done | omega))); (focus (simp only [encs_get, encs_len, enc_len, enc_take, enc_frz, enc_all, Heap.puts, Heap.put_app, Heap.put_app0, Heap.put_len, Heap.put, List.length_append, List.length_cons, List.length_nil, Nat.zero_add, Nat.reduceAdd] <;> rfl))) | with_reducible (first | refine aw_reg_d P_mixed ?_ | refine ar_done ?_ | refine aw_seq ?_ | refine aw_reg ?_ | refine aw_block ?_ | refine aw_skip ?_ | refine aw_exit ?_ | refine aw_ret ?_ | refine at_n ?_ | refine at_e ?_ | refine at_r ?_ | refine ab_n ?_ | refine ab_r ?_ | refine ab_e ?_ | refine ab_ne rfl ?_ | refine an_e ?_ | refine an_r ?_ | refine am_e ?_ | refine am_r ?_) | ((with_reducible apply aw_cond_f); (focus (simp only [go_sem, Nat.reduceLT, Nat.reduceAdd, Nat.reduceLeDiff, Nat.reduceMul, Nat.reduceEqDiff, Nat.reduceBEq, reduceIte, encs_get, encs_len, enc_len, enc_take, enc_frz, enc_all] <;> rfl))) | ((with_reducible apply aw_cond_t); (focus (simp only [go_sem, Nat.reduceLT, Nat.reduceAdd, Nat.reduceLeDiff, Nat.reduceMul, Nat.reduceEqDiff, Nat.reduceBEq, reduceIte, encs_get, encs_len, enc_len, enc_take, enc_frz, enc_all] <;> rfl))) | ((with_reducible apply aw_cond_d); (focus (simp only [go_sem, Nat.reduceLT, Nat.reduceAdd, Nat.reduceLeDiff, Nat.reduceMul, Nat.reduceEqDiff, Nat.reduceBEq, reduceIte, encs_get, encs_len, enc_len, enc_take, enc_frz, enc_all] <;> rfl)); all_goals (intro hcond; try (exfalso; omega))) | ((with_reducible first | apply ae_r | apply ae_n); (focus (simp only [go_sem, Nat.reduceLT, Nat.reduceAdd, Nat.reduceLeDiff, Nat.reduceMul, Nat.reduceEqDiff, Nat.reduceBEq, reduceIte, encs_get, encs_len, enc_len, enc_take, enc_frz, enc_all] <;> rfl))) | ((with_reducible apply ard_done); (focus rfl)))
    simp only [List.take_length] at hEN
    simp only [Nat.sub_self, List.replicate_zero, List.append_nil, hEN]
    first | exact ⟨rfl, rfl⟩ | exact ⟨trivial, rfl⟩ | trivial

theorem to_fix (N : Nat) : (∀ (v : GV) (H : Heap), v.size < N → v.fits → FCall P 68 [.agg v.enc] H fun r H' => r = .agg (tV H.length v).1 ∧ H' = H ++ (tV H.length v).2) ∧
    (∀ (l : List GV) (H : Heap), sizes l < N → Len l → fitss l → FCall P 94 [.fsl 5 (encs l)] H fun r H' => r = (tVS H.length l).1 ∧ H' = H ++ (tVS H.length l).2) := by
  induction N with
  | zero => exact ⟨fun v H h => by omega, fun l H h => by omega⟩
  | succ N ih =>
    have h1 : ∀ (l : List GV) (H : Heap), sizes l < N + 1 → Len l → fitss l → FCall P 94 [.fsl 5 (encs l)] H fun r H' => r = (tVS H.length l).1 ∧ H' = H ++ (tVS H.length l).2 :=
      fun l H h c d => toValueS_fix l c d (fun v H hv g => ih.1 v H (by have := sizes_mem hv; omega) g) H
    exact ⟨fun v H h c => toValue_fix v c (fun l H hl g i => h1 l H (by omega) g i) H, h1⟩
theorem toValue_allfix (v : GV) (H : Heap) (hf : v.fits) : FCall P 68 [.agg v.enc] H fun r H' => r = .agg (tV H.length v).1 ∧ H' = H ++ (tV H.length v).2 := (to_fix (v.size + 1)).1 v H (by omega) hf
/-- what is laid out for a node -/
def tN (n : Nat) (v : GN) : List AV × List Blk := (.int .i64 v.id :: .str v.ty :: (tV (n + 3) v.cells).1, .dead :: .dead :: .dead :: (tV (n + 3) v.cells).2)
def tNs (n : Nat) : List GN → List (List AV) × List Blk
  | [] => ([], [])
  | v :: r => ((tN n v).1 :: (tNs (n + (tN n v).2.length) r).1, (tN n v).2 ++ (tNs (n + (tN n v).2.length) r).2)
theorem tNs_len : ∀ (l : List GN) (n : Nat), (tNs n l).1.length = l.length
  | [], n => rfl
  | v :: r, n => by simp [tNs, tNs_len r]
theorem tNs_snoc : ∀ (l : List GN) (n : Nat) (v : GN), tNs n (l ++ [v]) = ((tNs n l).1 ++ [(tN (n + (tNs n l).2.length) v).1], (tNs n l).2 ++ (tN (n + (tNs n l).2.length) v).2)
  | [], n, v => by simp [tNs]
  | u :: r, n, v => by
    have := tNs_snoc r (n + (tN n u).2.length) v
    simp only [List.cons_append, tNs, this, List.length_append, List.append_assoc, Nat.add_assoc]
theorem tN_shape (n : Nat) (v : GN) : ∃ i s k x t aL aN, (tN n v).1 = [.int .i64 i, .str s, .int .i64 k, .int .i64 x, .str t, aL, aN] ∧ aL.isCell = true ∧ aN.isCell = true := by
  obtain ⟨k, x, t, aL, aN, h1, h2, h3⟩ := tV_shape (n + 3) v.cells
  exact ⟨v.id, v.ty, k, x, t, aL, aN, by simp only [tN, h1], h2, h3⟩
theorem tN_abv (v : GN) (n n0 : Nat) (h0 : n0 ≤ n) : abvL n0 (tN n v).1 = true ∧ ∀ x ∈ (tN n v).2, Blk.abv n0 x = true := by
  have h := tV_abv v.cells (n + 3) n0 (by omega)
  simp only [tN]
  refine ⟨by simp only [abvL, AV.abv, h.1, Bool.true_and], fun y hy => ?_⟩
  simp only [List.mem_cons] at hy
  rcases hy with rfl | rfl | rfl | hy
  · rfl
  · rfl
  · rfl
  · exact h.2 y hy
theorem tNs_abv : ∀ (l : List GN) (n n0 : Nat), n0 ≤ n → (tNs n l).1.all (abvL n0) = true ∧ ∀ x ∈ (tNs n l).2, Blk.abv n0 x = true
  | [], n, n0, h0 => ⟨rfl, fun x hx => by cases hx⟩
  | v :: r, n, n0, h0 => by
    have h1 := tN_abv v n n0 h0
    have h2 := tNs_abv r (n + (tN n v).2.length) n0 (by omega)
    simp only [tNs]
    refine ⟨by simp only [List.all_cons, h1.1, h2.1, Bool.and_self], fun y hy => ?_⟩
    rcases List.mem_append.1 hy with hy | hy
    · exact h1.2 y hy
    · exact h2.2 y hy
theorem tN_LN (v : GN) (G : Heap) : ∃ ids, LN (G ++ (tN G.length v).2) v (tN G.length v).1 ids ∧ ids.Nodup ∧ ∀ b ∈ ids, G.length ≤ b ∧ b < G.length + (tN G.length v).2.length := by
  simp only [tN]
  obtain ⟨⟨c, B⟩, hcB⟩ : ∃ p, tV (G.length + 3) v.cells = p := ⟨_, rfl⟩
  simp only [hcB]
  obtain ⟨i1, h1, h2, h3⟩ := tV_LV v.cells (G ++ [.dead, .dead, .dead])
  rw [show (G ++ [Blk.dead, .dead, .dead]).length = G.length + 3 by simp, hcB] at h1 h3
  simp only [List.append_assoc, List.cons_append, List.nil_append] at h1 h3
  refine ⟨i1, ⟨_, rfl, h1⟩, h2, fun b hb => ?_⟩
  have := h3 b hb
  simp only [List.length_cons]; omega
theorem tNs_LN : ∀ (l : List GN) (G : Heap), ∃ ids, LNs (G ++ (tNs G.length l).2) l (tNs G.length l).1 ids ∧ ids.Nodup ∧ ∀ b ∈ ids, G.length ≤ b ∧ b < G.length + (tNs G.length l).2.length
  | [], G => ⟨[], ⟨rfl, rfl⟩, .nil, fun b hb => by cases hb⟩
  | v :: r, G => by
    simp only [tNs]
    obtain ⟨⟨c, B⟩, hcB⟩ : ∃ p, tN G.length v = p := ⟨_, rfl⟩
    simp only [hcB]
    obtain ⟨⟨es, N⟩, hEN⟩ : ∃ p, tNs (G.length + B.length) r = p := ⟨_, rfl⟩
    simp only [hEN]
    obtain ⟨i1, h1, h2, h3⟩ := tN_LN v G
    rw [hcB] at h1 h3
    obtain ⟨i2, g1, g2, g3⟩ := tNs_LN r (G ++ B)
    rw [show (G ++ B).length = G.length + B.length by simp, hEN] at g1 g3
    simp only [List.append_assoc] at h1 g1 h3 g3
    refine ⟨i1 ++ i2, ⟨_, _, i1, i2, rfl, h1.mono fun b hb => ?_, g1, rfl⟩, ?_, fun b hb => ?_⟩
    · have h3' : G.length ≤ b ∧ b < G.length + B.length := h3 b hb
      rw [← List.append_assoc, Heap.at_old _ _ (by simp; omega)]
    · rw [List.nodup_append]
      exact ⟨h2, g2, fun p hp q hq => by have h3' : G.length ≤ p ∧ p < G.length + B.length := h3 p hp; have := g3 q hq; omega⟩
    · simp only [List.length_append]
      rcases List.mem_append.1 hb with hb | hb
      · have h3' : G.length ≤ b ∧ b < G.length + B.length := h3 b hb; omega
      · have := g3 b hb; omega
def tNS (n : Nat) (l : List GN) : AV × List Blk := (.row n 0 l.length (some l.length) 7, .row 7 (tNs (n + 1) l).1 :: (tNs (n + 1) l).2)

theorem toNode_fix (v : GN) (hf : v.fits) (H : Heap) : FCall P 29 [.agg v.enc] H fun r H' => r = .agg (tN H.length v).1 ∧ H' = H ++ (tN H.length v).2 := by
  refine FCall.kill (R := fun r H' => r = .agg (tN H.length v).1 ∧ ∃ A B C, H' = H ++ A :: B :: C :: (tV (H.length + 3) v.cells).2) ?_ ?_
  rotate_left
  · rintro r _ ⟨rfl, A, B, C, rfl⟩
    exact ⟨H ++ (tN H.length v).2, by simp [tN], heapW_at (heapW_app H ⟨.dead _, .dead _, .dead _, heapW_refl _⟩), rfl, rfl⟩
  obtain ⟨id, ty, c⟩ := v
  obtain ⟨f1, f2, f3⟩ := hf
  dsimp only at f1 f2 f3
  refine fcall_walk T_ok ok_29 rfl ?_
  unfold Go.Proofs.Try.f29
  simp only [Option.getD_some, envOf, Nat.zero_add, Nat.reduceAdd, GN.enc]
  repeat' (first | ((with_reducible first | apply ar_w T_ok | apply ar_w0 T_ok | apply ard_w T_ok | apply ard_w0 T_ok); (focus (simp (disch := omega) only [go_sem, Nat.reduceLT, Nat.reduceAdd, Nat.reduceLeDiff, Nat.reduceMul, Nat.reduceEqDiff, Nat.reduceBEq, reduceIte, GN.enc, enc_len, enc_take, enc_frz, enc_all] <;> rfl)); (focus (first | rfl | (simp [okIdsB, Nat.ble_eq]; done))); (focus rfl); (focus (first | trivial | (simp only [preOK]; omega) | exact ⟨by first | trivial | rfl | omega, by assumption, by omega⟩ | (simp [preOK, AllBytes, GN.enc, enc_len, enc_take, enc_frz, enc_all]; first | done | omega))); (focus (simp only [GN.enc, enc_len, enc_take, enc_frz, enc_all, Heap.puts, Heap.put_app, Heap.put_app0, Heap.put_len, Heap.put, List.length_append, List.length_cons, List.length_nil, Nat.zero_add, Nat.reduceAdd] <;> rfl))) | with_reducible (first | refine aw_reg_d P_mixed ?_ | refine ar_done ?_ | refine aw_seq ?_ | refine aw_reg ?_ | refine aw_block ?_ | refine aw_skip ?_ | refine aw_exit ?_ | refine aw_ret ?_ | refine at_n ?_ | refine at_e ?_ | refine at_r ?_ | refine ab_n ?_ | refine ab_r ?_ | refine ab_e ?_ | refine ab_ne rfl ?_ | refine an_e ?_ | refine an_r ?_ | refine am_e ?_ | refine am_r ?_) | ((with_reducible apply aw_cond_f); (focus (simp only [go_sem, Nat.reduceLT, Nat.reduceAdd, Nat.reduceLeDiff, Nat.reduceMul, Nat.reduceEqDiff, Nat.reduceBEq, reduceIte, GN.enc, enc_len, enc_take, enc_frz, enc_all] <;> rfl))) | ((with_reducible apply aw_cond_t); (focus (simp only [go_sem, Nat.reduceLT, Nat.reduceAdd, Nat.reduceLeDiff, Nat.reduceMul, Nat.reduceEqDiff, Nat.reduceBEq, reduceIte, GN.enc, enc_len, enc_take, enc_frz, enc_all] <;> rfl))) | ((with_reducible apply aw_cond_d); (focus (simp only [go_sem, Nat.reduceLT, Nat.reduceAdd, Nat.reduceLeDiff, Nat.reduceMul, Nat.reduceEqDiff, Nat.reduceBEq, reduceIte, GN.enc, enc_len, enc_take, enc_frz, enc_all] <;> rfl)); all_goals (intro hcond; try (exfalso; omega))) | ((with_reducible first | apply ae_r | apply ae_n); (focus (simp only [go_sem, Nat.reduceLT, Nat.reduceAdd, Nat.reduceLeDiff, Nat.reduceMul, Nat.reduceEqDiff, Nat.reduceBEq, reduceIte, GN.enc, enc_len, enc_take, enc_frz, enc_all] <;> rfl))) | ((with_reducible apply ard_done); (focus rfl)))
  ((apply ar_fcall rfl ok_68); (focus (simp only [go_sem, Nat.reduceLT, Nat.reduceAdd, Nat.reduceLeDiff, Nat.reduceMul, Nat.reduceEqDiff, Nat.reduceBEq, reduceIte, GN.enc, enc_len, enc_take, enc_frz, enc_all, List.map] <;> rfl)); (focus exact toValue_allfix c _ f3); (focus rfl); (focus rfl))
  rintro _ _ ⟨rfl, rfl⟩
  simp only [List.append_assoc, List.cons_append, List.nil_append, List.length_append, List.length_cons, List.length_nil, Nat.zero_add, Nat.reduceAdd]
  obtain ⟨k', n', t', aL, aN, hcu, hc1, hc2⟩ := tV_shape (H.length + 3) c
  simp only [tN]
  obtain ⟨⟨cu, Bu⟩, hcB⟩ : ∃ p, tV (H.length + 3) c = p := ⟨_, rfl⟩
  rw [hcB] at hcu ⊢
  dsimp only at hcu
  subst hcu
  repeat' (first | ((with_reducible first | apply ar_w T_ok | apply ar_w0 T_ok | apply ard_w T_ok | apply ard_w0 T_ok); (focus (simp (disch := omega) only [go_sem, Nat.reduceLT, Nat.reduceAdd, Nat.reduceLeDiff, Nat.reduceMul, Nat.reduceEqDiff, Nat.reduceBEq, reduceIte, GN.enc, enc_len, enc_take, enc_frz, enc_all, hc1, hc2] <;> rfl)); (focus (first | rfl | (simp [okIdsB, Nat.ble_eq]; done))); (focus rfl); (focus (first | trivial | (simp only [preOK]; omega) | exact ⟨by first | trivial | rfl | omega, by assumption, by omega⟩ | (simp [preOK, AllBytes, GN.enc, enc_len, enc_take, enc_frz, enc_all, hc1, hc2]; first | done | omega))); (focus (simp only [GN.enc, enc_len, enc_take, enc_frz, enc_all, hc1, hc2, Heap.puts, Heap.put_app, Heap.put_app0, Heap.put_len, Heap.put, List.length_append, List.length_cons, List.length_nil, Nat.zero_add, Nat.reduceAdd] <;> rfl))) | with_reducible (first | refine aw_reg_d P_mixed ?_ | refine ar_done ?_ | refine aw_seq ?_ | refine aw_reg ?_ | refine aw_block ?_ | refine aw_skip ?_ | refine aw_exit ?_ | refine aw_ret ?_ | refine at_n ?_ | refine at_e ?_ | refine at_r ?_ | refine ab_n ?_ | refine ab_r ?_ | refine ab_e ?_ | refine ab_ne rfl ?_ | refine an_e ?_ | refine an_r ?_ | refine am_e ?_ | refine am_r ?_) | ((with_reducible apply aw_cond_f); (focus (simp only [go_sem, Nat.reduceLT, Nat.reduceAdd, Nat.reduceLeDiff, Nat.reduceMul, Nat.reduceEqDiff, Nat.reduceBEq, reduceIte, GN.enc, enc_len, enc_take, enc_frz, enc_all, hc1, hc2] <;> rfl))) | ((with_reducible apply aw_cond_t); (focus (simp only [go_sem, Nat.reduceLT, Nat.reduceAdd, Nat.reduceLeDiff, Nat.reduceMul, Nat.reduceEqDiff, Nat.reduceBEq, reduceIte, GN.enc, enc_len, enc_take, enc_frz, enc_all, hc1, hc2] <;> rfl))) | ((with_reducible apply aw_cond_d); (focus (simp only [go_sem, Nat.reduceLT, Nat.reduceAdd, Nat.reduceLeDiff, Nat.reduceMul, Nat.reduceEqDiff, Nat.reduceBEq, reduceIte, GN.enc, enc_len, enc_take, enc_frz, enc_all, hc1, hc2] <;> rfl)); all_goals (intro hcond; try (exfalso; omega))) | ((with_reducible first | apply ae_r | apply ae_n); (focus (simp only [go_sem, Nat.reduceLT, Nat.reduceAdd, Nat.reduceLeDiff, Nat.reduceMul, Nat.reduceEqDiff, Nat.reduceBEq, reduceIte, GN.enc, enc_len, enc_take, enc_frz, enc_all, hc1, hc2] <;> rfl))) | ((with_reducible apply ard_done); (focus rfl)))
  exact ⟨rfl, _, _, _, rfl⟩

theorem toNodeS_fix (l : List GN) (hl : Len l) (hf : ∀ v ∈ l, v.fits) (H : Heap) : FCall P 8 [.fsl 7 (encn l)] H fun r H' => r = (tNS H.length l).1 ∧ H' = H ++ (tNS H.length l).2 := by
  refine fcall_walk T_ok ok_8 rfl ?_
  unfold Go.Proofs.Try.f8
  simp only [Option.getD_some, envOf, Nat.zero_add, Nat.reduceAdd]
  repeat' (first | ((with_reducible first | apply ar_w T_ok | apply ar_w0 T_ok | apply ard_w T_ok | apply ard_w0 T_ok); (focus (simp (disch := omega) only [go_sem, Nat.reduceLT, Nat.reduceAdd, Nat.reduceLeDiff, Nat.reduceMul, Nat.reduceEqDiff, Nat.reduceBEq, reduceIte, encn_get, encn_len, nenc_len, nenc_take, nenc_frz, nenc_all] <;> rfl)); (focus (first | rfl | (simp [okIdsB, Nat.ble_eq]; done))); (focus rfl); (focus (first | trivial | (simp only [preOK]; omega) | exact ⟨by first | trivial | rfl | omega, by assumption, by omega⟩ | (simp [preOK, AllBytes, encn_get, encn_len, nenc_len, nenc_take, nenc_frz, nenc_all]; first | done | omega))); (focus (simp only [encn_get, encn_len, nenc_len, nenc_take, nenc_frz, nenc_all, Heap.puts, Heap.put_app, Heap.put_app0, Heap.put_len, Heap.put, List.length_append, List.length_cons, List.length_nil, Nat.zero_add, Nat.reduceAdd] <;> rfl))) | with_reducible (first | refine aw_reg_d P_mixed ?_ | refine ar_done ?_ | refine aw_seq ?_ | refine aw_reg ?_ | refine aw_block ?_ | refine aw_skip ?_ | refine aw_exit ?_ | refine aw_ret ?_ | refine at_n ?_ | refine at_e ?_ | refine at_r ?_ | refine ab_n ?_ | refine ab_r ?_ | refine ab_e ?_ | refine ab_ne rfl ?_ | refine an_e ?_ | refine an_r ?_ | refine am_e ?_ | refine am_r ?_) | ((with_reducible apply aw_cond_f); (focus (simp only [go_sem, Nat.reduceLT, Nat.reduceAdd, Nat.reduceLeDiff, Nat.reduceMul, Nat.reduceEqDiff, Nat.reduceBEq, reduceIte, encn_get, encn_len, nenc_len, nenc_take, nenc_frz, nenc_all] <;> rfl))) | ((with_reducible apply aw_cond_t); (focus (simp only [go_sem, Nat.reduceLT, Nat.reduceAdd, Nat.reduceLeDiff, Nat.reduceMul, Nat.reduceEqDiff, Nat.reduceBEq, reduceIte, encn_get, encn_len, nenc_len, nenc_take, nenc_frz, nenc_all] <;> rfl))) | ((with_reducible apply aw_cond_d); (focus (simp only [go_sem, Nat.reduceLT, Nat.reduceAdd, Nat.reduceLeDiff, Nat.reduceMul, Nat.reduceEqDiff, Nat.reduceBEq, reduceIte, encn_get, encn_len, nenc_len, nenc_take, nenc_frz, nenc_all] <;> rfl)); all_goals (intro hcond; try (exfalso; omega))) | ((with_reducible first | apply ae_r | apply ae_n); (focus (simp only [go_sem, Nat.reduceLT, Nat.reduceAdd, Nat.reduceLeDiff, Nat.reduceMul, Nat.reduceEqDiff, Nat.reduceBEq, reduceIte, encn_get, encn_len, nenc_len, nenc_take, nenc_frz, nenc_all] <;> rfl))) | ((with_reducible apply ard_done); (focus rfl)))
  obtain ⟨M0, hM0⟩ : ∃ M, H.length + 1 = M := ⟨_, rfl⟩
  simp only [tNS, hM0]
  refine aw_loopn (fun kk env H1 => ∃ (i : Nat), i ≤ l.length ∧ kk = l.length - i ∧ env = [(0, .fsl 7 (encn l)), (3, .row H.length 0 l.length (some l.length) 7), (4, .int .i64 i)] ∧
      H1 = H ++ (.row 7 ((tNs M0 (l.take i)).1 ++ List.replicate (l.length - i) [.int .i64 0, .str [], .int .i64 0, .int .i64 0, .str [], .nsl 5, .nsl 1]) :: (tNs M0 (l.take i)).2)) l.length
    [(0, .fsl 7 (encn l)), (3, .row H.length 0 l.length (some l.length) 7), (4, .int .i64 0)] _ (by simp [subP, Env.get, Weak.refl]) (heapW_refl _) rfl ⟨0, Nat.zero_le _, rfl, rfl, rfl⟩ ?_
  rintro kk env H1 ⟨i, hi, hk, rfl, rfl⟩
  have hA : (tNs M0 (l.take i)).1.length = i := by rw [tNs_len]; simp; omega
  obtain ⟨⟨E, N⟩, hEN⟩ : ∃ p, tNs M0 (l.take i) = p := ⟨_, rfl⟩
  rw [hEN] at hA
  dsimp only at hA
  simp only [hEN]
  by_cases hlt : i < l.length
  · have hmem := mem_getD (d := default) hlt
    have hff := hf _ hmem
    repeat' (first | ((with_reducible first | apply ar_w T_ok | apply ar_w0 T_ok | apply ard_w T_ok | apply ard_w0 T_ok); (focus (simp (disch := omega) only [go_sem, Nat.reduceLT, Nat.reduceAdd, Nat.reduceLeDiff, Nat.reduceMul, Nat.reduceEqDiff, Nat.reduceBEq, reduceIte, encn_get, encn_len, nenc_len, nenc_take, nenc_frz, nenc_all] <;> rfl)); (focus (first | rfl | (simp [okIdsB, Nat.ble_eq]; done))); (focus rfl); (focus (first | trivial | (simp only [preOK]; omega) | exact ⟨by first | trivial | rfl | omega, by assumption, by omega⟩ | (simp [preOK, AllBytes, encn_get, encn_len, nenc_len, nenc_take, nenc_frz, nenc_all]; first | done | omega))); (focus (simp only [encn_get, encn_len, nenc_len, nenc_take, nenc_frz, nenc_all, Heap.puts, Heap.put_app, Heap.put_app0, Heap.put_len, Heap.put, List.length_append, List.length_cons, List.length_nil, Nat.zero_add, Nat.reduceAdd] <;> rfl))) | with_reducible (first | refine aw_reg_d P_mixed ?_ | refine ar_done ?_ | refine aw_seq ?_ | refine aw_reg ?_ | refine aw_block ?_ | refine aw_skip ?_ | refine aw_exit ?_ | refine aw_ret ?_ | refine at_n ?_ | refine at_e ?_ | refine at_r ?_ | refine ab_n ?_ | refine ab_r ?_ | refine ab_e ?_ | refine ab_ne rfl ?_ | refine an_e ?_ | refine an_r ?_ | refine am_e ?_ | refine am_r ?_) | ((with_reducible apply aw_cond_f); (focus (simp only [go_sem, Nat.reduceLT, Nat.reduceAdd, Nat.reduceLeDiff, Nat.reduceMul, Nat.reduceEqDiff, Nat.reduceBEq, reduceIte, encn_get, encn_len, nenc_len, nenc_take, nenc_frz, nenc_all] <;> rfl))) | ((with_reducible apply aw_cond_t); (focus (simp only [go_sem, Nat.reduceLT, Nat.reduceAdd, Nat.reduceLeDiff, Nat.reduceMul, Nat.reduceEqDiff, Nat.reduceBEq, reduceIte, encn_get, encn_len, nenc_len, nenc_take, nenc_frz, nenc_all] <;> rfl))) | ((with_reducible apply aw_cond_d); (focus (simp only [go_sem, Nat.reduceLT, Nat.reduceAdd, Nat.reduceLeDiff, Nat.reduceMul, Nat.reduceEqDiff, Nat.reduceBEq, reduceIte, encn_get, encn_len, nenc_len, nenc_take, nenc_frz, nenc_all] <;> rfl)); all_goals (intro hcond; try (exfalso; omega))) | ((with_reducible first | apply ae_r | apply ae_n); (focus (simp only [go_sem, Nat.reduceLT, Nat.reduceAdd, Nat.reduceLeDiff, Nat.reduceMul, Nat.reduceEqDiff, Nat.reduceBEq, reduceIte, encn_get, encn_len, nenc_len, nenc_take, nenc_frz, nenc_all] <;> rfl))) | ((with_reducible apply ard_done); (focus rfl)))
    ((apply ar_fcall rfl ok_29); (focus (simp only [go_sem, Nat.reduceLT, Nat.reduceAdd, Nat.reduceLeDiff, Nat.reduceMul, Nat.reduceEqDiff, Nat.reduceBEq, reduceIte, encn_get, encn_len, nenc_len, nenc_take, nenc_frz, nenc_all, List.map] <;> rfl)); (focus exact toNode_fix _ hff _); (focus rfl); (focus rfl))
    rintro _ _ ⟨rfl, rfl⟩
    simp only [List.length_append, List.length_cons]
    rw [show H.length + (N.length + 1) = M0 + N.length by omega]
    have htk : tNs M0 (l.take (i + 1)) = (E ++ [(tN (M0 + N.length) (l.getD i default)).1], N ++ (tN (M0 + N.length) (l.getD i default)).2) := by
      rw [List.take_succ_eq_append_getElem hlt, tNs_snoc, hEN, show l[i] = l.getD i default by simp [List.getD_eq_getElem?_getD, hlt]]
    obtain ⟨i', s', k', n', t', aL, aN, hcu, hc1, hc2⟩ := tN_shape (M0 + N.length) (l.getD i default)
    obtain ⟨⟨cu, Bu⟩, hcB⟩ : ∃ p, tN (M0 + N.length) (l.getD i default) = p := ⟨_, rfl⟩
    rw [hcB] at hcu htk ⊢
    dsimp only at hcu htk
    subst hcu
    simp only [List.append_assoc, List.cons_append, List.nil_append]
    have hset := set_fill (z := [AV.int .i64 0, .str [], .int .i64 0, .int .i64 0, .str [], .nsl 5, .nsl 1]) (e := [.int .i64 i', .str s', .int .i64 k', .int .i64 n', .str t', aL, aN]) hA hlt
    have hget := getD_fill (z := [AV.int .i64 0, .str [], .int .i64 0, .int .i64 0, .str [], .nsl 5, .nsl 1]) (d := []) hA hlt
    repeat' (first | ((with_reducible first | apply ar_w T_ok | apply ar_w0 T_ok | apply ard_w T_ok | apply ard_w0 T_ok); (focus (simp (disch := omega) only [go_sem, Nat.reduceLT, Nat.reduceAdd, Nat.reduceLeDiff, Nat.reduceMul, Nat.reduceEqDiff, Nat.reduceBEq, reduceIte, encn_get, encn_len, nenc_len, nenc_take, nenc_frz, nenc_all, hset, hget, hc1, hc2] <;> rfl)); (focus (first | rfl | (simp [okIdsB, Nat.ble_eq]; done))); (focus rfl); (focus (first | trivial | (simp only [preOK]; omega) | exact ⟨by first | trivial | rfl | omega, by assumption, by omega⟩ | (simp [preOK, AllBytes, encn_get, encn_len, nenc_len, nenc_take, nenc_frz, nenc_all, hset, hget, hc1, hc2]; first | done | omega))); (focus (simp only [encn_get, encn_len, nenc_len, nenc_take, nenc_frz, nenc_all, hset, hget, hc1, hc2, Heap.puts, Heap.put_app, Heap.put_app0, Heap.put_len, Heap.put, List.length_append, List.length_cons, List.length_nil, Nat.zero_add, Nat.reduceAdd] <;> rfl))) | with_reducible (first | refine aw_reg_d P_mixed ?_ | refine ar_done ?_ | refine aw_seq ?_ | refine aw_reg ?_ | refine aw_block ?_ | refine aw_skip ?_ | refine aw_exit ?_ | refine aw_ret ?_ | refine at_n ?_ | refine at_e ?_ | refine at_r ?_ | refine ab_n ?_ | refine ab_r ?_ | refine ab_e ?_ | refine ab_ne rfl ?_ | refine an_e ?_ | refine an_r ?_ | refine am_e ?_ | refine am_r ?_) | ((with_reducible apply aw_cond_f); (focus (simp only [go_sem, Nat.reduceLT, Nat.reduceAdd, Nat.reduceLeDiff, Nat.reduceMul, Nat.reduceEqDiff, Nat.reduceBEq, reduceIte, encn_get, encn_len, nenc_len, nenc_take, nenc_frz, nenc_all, hset, hget, hc1, hc2] <;> rfl))) | ((with_reducible apply aw_cond_t); (focus (simp only [go_sem, Nat.reduceLT, Nat.reduceAdd, Nat.reduceLeDiff, Nat.reduceMul, Nat.reduceEqDiff, Nat.reduceBEq, reduceIte, encn_get, encn_len, nenc_len, nenc_take, nenc_frz, nenc_all, hset, hget, hc1, hc2] <;> rfl))) | ((with_reducible apply aw_cond_d); (focus (simp only [go_sem, Nat.reduceLT, Nat.reduceAdd, Nat.reduceLeDiff, Nat.reduceMul, Nat.reduceEqDiff, Nat.reduceBEq, reduceIte, encn_get, encn_len, nenc_len, nenc_take, nenc_frz, nenc_all, hset, hget, hc1, hc2] <;> rfl)); all_goals (intro hcond; try (exfalso; omega))) | ((with_reducible first | apply ae_r | apply ae_n); (focus (simp only [go_sem, Nat.reduceLT, Nat.reduceAdd, Nat.reduceLeDiff, Nat.reduceMul, Nat.reduceEqDiff, Nat.reduceBEq, reduceIte, encn_get, encn_len, nenc_len, nenc_take, nenc_frz, nenc_all, hset, hget, hc1, hc2] <;> rfl))) | ((with_reducible apply ard_done); (focus rfl)))
    refine anextn _ _ (k' := l.length - (i + 1)) (by omega) (by simp; omega) ?_ ?_ ?_ ⟨i + 1, by omega, rfl, rfl, rfl⟩
    · simp [subP, Env.get, Weak.refl]
    · rw [htk]; exact heapW_refl _
    · rw [htk]
  · have : i = l.length := by omega
    subst this
    repeat' (first | ((with_reducible first | apply ar_w T_ok | apply ar_w0 T_ok | apply ard_w T_ok | apply ard_w0 T_ok); (focus (simp (disch := omega) only [go_sem, Nat.reduceLT, Nat.reduceAdd, Nat.reduceLeDiff, Nat.reduceMul, Nat.reduceEqDiff, Nat.reduceBEq, reduceIte, encn_get, encn_len, nenc_len, nenc_take, nenc_frz, nenc_all] <;> rfl)); (focus (first | rfl | (simp [okIdsB, Nat.ble_eq]; done))); (focus rfl); (focus (first | trivial | (simp only [preOK]; omega) | exact ⟨by first | trivial | rfl | omega, by assumption, by omega⟩ | (simp [preOK, AllBytes, encn_get, encn_len, nenc_len, nenc_take, nenc_frz, nenc_all]; first | done | omega))); (focus (simp only [encn_get, encn_len, nenc_len, nenc_take, nenc_frz, nenc_all, Heap.puts, Heap.put_app, Heap.put_app0, Heap.put_len, Heap.put, List.length_append, List.length_cons, List.length_nil, Nat.zero_add, Nat.reduceAdd] <;> rfl))) | with_reducible (first | refine aw_reg_d P_mixed ?_ | refine ar_done ?_ | refine aw_seq ?_ | refine aw_reg ?_ | refine aw_block ?_ | refine aw_skip ?_ | refine aw_exit ?_ | refine aw_ret ?_ | refine at_n ?_ | refine at_e ?_ | refine at_r ?_ | refine ab_n ?_ | refine ab_r ?_ | refine ab_e ?_ | refine ab_ne rfl ?_ | refine an_e ?_ | refine an_r ?_ | refine am_e ?_ | refine am_r ?_) | ((with_reducible apply aw_cond_f); (focus (simp only [go_sem, Nat.reduceLT, Nat.reduceAdd, Nat.reduceLeDiff, Nat.reduceMul, Nat.reduceEqDiff, Nat.reduceBEq, reduceIte, encn_get, encn_len, nenc_len, nenc_take, nenc_frz, nenc_all] <;> rfl))) | ((with_reducible apply aw_cond_t); (focus (simp only [go_sem, Nat.reduceLT, Nat.reduceAdd, Nat.reduceLeDiff, Nat.reduceMul, Nat.reduceEqDiff, Nat.reduceBEq, reduceIte, encn_get, encn_len, nenc_len, nenc_take, nenc_frz, nenc_all] <;> rfl))) | ((with_reducible apply aw_cond_d); (focus (simp only [go_sem, Nat.reduceLT, Nat.reduceAdd, Nat.reduceLeDiff, Nat.reduceMul, Nat.reduceEqDiff, Nat.reduceBEq, reduceIte, encn_get, encn_len, nenc_len, nenc_take, nenc_frz, nenc_all] <;> rfl)); all_goals (intro hcond; try (exfalso; omega))) | ((with_reducible first | apply ae_r | apply ae_n); (focus (simp only [go_sem, Nat.reduceLT, Nat.reduceAdd, Nat.reduceLeDiff, Nat.reduceMul, Nat.reduceEqDiff, Nat.reduceBEq, reduceIte, encn_get, encn_len, nenc_len, nenc_take, nenc_frz, nenc_all] <;> rfl))) | ((with_reducible apply ard_done); (focus rfl)))
    simp only [List.take_length] at hEN
    simp only [Nat.sub_self, List.replicate_zero, List.append_nil, hEN]
    first | exact ⟨rfl, rfl⟩ | exact ⟨trivial, rfl⟩ | trivial

theorem rep3 (i : Nat) : List.replicate (3 * (i + 1)) Blk.dead = List.replicate (3 * i) Blk.dead ++ [.dead, .dead, .dead] := by
  rw [show 3 * (i + 1) = 3 * i + 1 + 1 + 1 by omega, List.replicate_succ', List.replicate_succ', List.replicate_succ']
  simp
theorem toWatch_fix (v : GW) (H : Heap) : FCall P 74 [.agg v.enc] H fun r H' => r = .agg v.enc ∧ H' = H ++ [.dead, .dead, .dead] := by
  refine FCall.kill (R := fun r H' => r = .agg v.enc ∧ ∃ A B C, H' = H ++ [A, B, C]) ?_ ?_
  rotate_left
  · rintro r _ ⟨rfl, A, B, C, rfl⟩
    exact ⟨H ++ [.dead, .dead, .dead], by simp, heapW_at (heapW_app H ⟨.dead _, .dead _, .dead _, trivial⟩), rfl, rfl⟩
  obtain ⟨id, a, b, c, d⟩ := v
  refine fcall_walk T_ok ok_74 rfl ?_
  unfold Go.Proofs.Try.f74
  simp only [Option.getD_some, envOf, Nat.zero_add, Nat.reduceAdd, GW.enc]
  repeat' (first | ((with_reducible first | apply ar_w T_ok | apply ar_w0 T_ok | apply ard_w T_ok | apply ard_w0 T_ok); (focus (simp (disch := omega) only [go_sem, Nat.reduceLT, Nat.reduceAdd, Nat.reduceLeDiff, Nat.reduceMul, Nat.reduceEqDiff, Nat.reduceBEq, reduceIte, GW.enc] <;> rfl)); (focus (first | rfl | (simp [okIdsB, Nat.ble_eq]; done))); (focus rfl); (focus (first | trivial | (simp only [preOK]; omega) | exact ⟨by first | trivial | rfl | omega, by assumption, by omega⟩ | (simp [preOK, AllBytes, GW.enc]; first | done | omega))); (focus (simp only [GW.enc, Heap.puts, Heap.put_app, Heap.put_app0, Heap.put_len, Heap.put, List.length_append, List.length_cons, List.length_nil, Nat.zero_add, Nat.reduceAdd] <;> rfl))) | with_reducible (first | refine aw_reg_d P_mixed ?_ | refine ar_done ?_ | refine aw_seq ?_ | refine aw_reg ?_ | refine aw_block ?_ | refine aw_skip ?_ | refine aw_exit ?_ | refine aw_ret ?_ | refine at_n ?_ | refine at_e ?_ | refine at_r ?_ | refine ab_n ?_ | refine ab_r ?_ | refine ab_e ?_ | refine ab_ne rfl ?_ | refine an_e ?_ | refine an_r ?_ | refine am_e ?_ | refine am_r ?_) | ((with_reducible apply aw_cond_f); (focus (simp only [go_sem, Nat.reduceLT, Nat.reduceAdd, Nat.reduceLeDiff, Nat.reduceMul, Nat.reduceEqDiff, Nat.reduceBEq, reduceIte, GW.enc] <;> rfl))) | ((with_reducible apply aw_cond_t); (focus (simp only [go_sem, Nat.reduceLT, Nat.reduceAdd, Nat.reduceLeDiff, Nat.reduceMul, Nat.reduceEqDiff, Nat.reduceBEq, reduceIte, GW.enc] <;> rfl))) | ((with_reducible apply aw_cond_d); (focus (simp only [go_sem, Nat.reduceLT, Nat.reduceAdd, Nat.reduceLeDiff, Nat.reduceMul, Nat.reduceEqDiff, Nat.reduceBEq, reduceIte, GW.enc] <;> rfl)); all_goals (intro hcond; try (exfalso; omega))) | ((with_reducible first | apply ae_r | apply ae_n); (focus (simp only [go_sem, Nat.reduceLT, Nat.reduceAdd, Nat.reduceLeDiff, Nat.reduceMul, Nat.reduceEqDiff, Nat.reduceBEq, reduceIte, GW.enc] <;> rfl))) | ((with_reducible apply ard_done); (focus rfl)))
  exact ⟨rfl, _, _, _, rfl⟩

theorem toWatchS_fix (l : List GW) (hl : Len l) (H : Heap) : FCall P 42 [.fsl 5 (encw l)] H fun r H' => r = .row H.length 0 l.length (some l.length) 5 ∧ H' = H ++ .row 5 (encw l) :: List.replicate (3 * l.length) .dead := by
  refine fcall_walk T_ok ok_42 rfl ?_
  unfold Go.Proofs.Try.f42
  simp only [Option.getD_some, envOf, Nat.zero_add, Nat.reduceAdd]
  repeat' (first | ((with_reducible first | apply ar_w T_ok | apply ar_w0 T_ok | apply ard_w T_ok | apply ard_w0 T_ok); (focus (simp (disch := omega) only [go_sem, Nat.reduceLT, Nat.reduceAdd, Nat.reduceLeDiff, Nat.reduceMul, Nat.reduceEqDiff, Nat.reduceBEq, reduceIte, encw_get, encw_len, wenc_len, wenc_take, wenc_frz, wenc_all] <;> rfl)); (focus (first | rfl | (simp [okIdsB, Nat.ble_eq]; done))); (focus rfl); (focus (first | trivial | (simp only [preOK]; omega) | exact ⟨by first | trivial | rfl | omega, by assumption, by omega⟩ | (simp [preOK, AllBytes, encw_get, encw_len, wenc_len, wenc_take, wenc_frz, wenc_all]; first | done | omega))); (focus (simp only [encw_get, encw_len, wenc_len, wenc_take, wenc_frz, wenc_all, Heap.puts, Heap.put_app, Heap.put_app0, Heap.put_len, Heap.put, List.length_append, List.length_cons, List.length_nil, Nat.zero_add, Nat.reduceAdd] <;> rfl))) | with_reducible (first | refine aw_reg_d P_mixed ?_ | refine ar_done ?_ | refine aw_seq ?_ | refine aw_reg ?_ | refine aw_block ?_ | refine aw_skip ?_ | refine aw_exit ?_ | refine aw_ret ?_ | refine at_n ?_ | refine at_e ?_ | refine at_r ?_ | refine ab_n ?_ | refine ab_r ?_ | refine ab_e ?_ | refine ab_ne rfl ?_ | refine an_e ?_ | refine an_r ?_ | refine am_e ?_ | refine am_r ?_) | ((with_reducible apply aw_cond_f); (focus (simp only [go_sem, Nat.reduceLT, Nat.reduceAdd, Nat.reduceLeDiff, Nat.reduceMul, Nat.reduceEqDiff, Nat.reduceBEq, reduceIte, encw_get, encw_len, wenc_len, wenc_take, wenc_frz, wenc_all] <;> rfl))) | ((with_reducible apply aw_cond_t); (focus (simp only [go_sem, Nat.reduceLT, Nat.reduceAdd, Nat.reduceLeDiff, Nat.reduceMul, Nat.reduceEqDiff, Nat.reduceBEq, reduceIte, encw_get, encw_len, wenc_len, wenc_take, wenc_frz, wenc_all] <;> rfl))) | ((with_reducible apply aw_cond_d); (focus (simp only [go_sem, Nat.reduceLT, Nat.reduceAdd, Nat.reduceLeDiff, Nat.reduceMul, Nat.reduceEqDiff, Nat.reduceBEq, reduceIte, encw_get, encw_len, wenc_len, wenc_take, wenc_frz, wenc_all] <;> rfl)); all_goals (intro hcond; try (exfalso; omega))) | ((with_reducible first | apply ae_r | apply ae_n); (focus (simp only [go_sem, Nat.reduceLT, Nat.reduceAdd, Nat.reduceLeDiff, Nat.reduceMul, Nat.reduceEqDiff, Nat.reduceBEq, reduceIte, encw_get, encw_len, wenc_len, wenc_take, wenc_frz, wenc_all] <;> rfl))) | ((with_reducible apply ard_done); (focus rfl)))
  refine aw_loopn (fun kk env H1 => ∃ (i : Nat), i ≤ l.length ∧ kk = l.length - i ∧ env = [(0, .fsl 5 (encw l)), (3, .row H.length 0 l.length (some l.length) 5), (4, .int .i64 i)] ∧
      H1 = H ++ (.row 5 (encw (l.take i) ++ List.replicate (l.length - i) [.int .i64 0, .str [], .str [], .str [], .str []]) :: List.replicate (3 * i) .dead)) l.length
    [(0, .fsl 5 (encw l)), (3, .row H.length 0 l.length (some l.length) 5), (4, .int .i64 0)] _ (by simp [subP, Env.get, Weak.refl]) (heapW_refl _) rfl ⟨0, Nat.zero_le _, rfl, rfl, rfl⟩ ?_
  rintro kk env H1 ⟨i, hi, hk, rfl, rfl⟩
  have hA : (encw (l.take i)).length = i := by rw [encw_len]; simp; omega
  by_cases hlt : i < l.length
  · repeat' (first | ((with_reducible first | apply ar_w T_ok | apply ar_w0 T_ok | apply ard_w T_ok | apply ard_w0 T_ok); (focus (simp (disch := omega) only [go_sem, Nat.reduceLT, Nat.reduceAdd, Nat.reduceLeDiff, Nat.reduceMul, Nat.reduceEqDiff, Nat.reduceBEq, reduceIte, encw_get, encw_len, wenc_len, wenc_take, wenc_frz, wenc_all] <;> rfl)); (focus (first | rfl | (simp [okIdsB, Nat.ble_eq]; done))); (focus rfl); (focus (first | trivial | (simp only [preOK]; omega) | exact ⟨by first | trivial | rfl | omega, by assumption, by omega⟩ | (simp [preOK, AllBytes, encw_get, encw_len, wenc_len, wenc_take, wenc_frz, wenc_all]; first | done | omega))); (focus (simp only [encw_get, encw_len, wenc_len, wenc_take, wenc_frz, wenc_all, Heap.puts, Heap.put_app, Heap.put_app0, Heap.put_len, Heap.put, List.length_append, List.length_cons, List.length_nil, Nat.zero_add, Nat.reduceAdd] <;> rfl))) | with_reducible (first | refine aw_reg_d P_mixed ?_ | refine ar_done ?_ | refine aw_seq ?_ | refine aw_reg ?_ | refine aw_block ?_ | refine aw_skip ?_ | refine aw_exit ?_ | refine aw_ret ?_ | refine at_n ?_ | refine at_e ?_ | refine at_r ?_ | refine ab_n ?_ | refine ab_r ?_ | refine ab_e ?_ | refine ab_ne rfl ?_ | refine an_e ?_ | refine an_r ?_ | refine am_e ?_ | refine am_r ?_) | ((with_reducible apply aw_cond_f); (focus (simp only [go_sem, Nat.reduceLT, Nat.reduceAdd, Nat.reduceLeDiff, Nat.reduceMul, Nat.reduceEqDiff, Nat.reduceBEq, reduceIte, encw_get, encw_len, wenc_len, wenc_take, wenc_frz, wenc_all] <;> rfl))) | ((with_reducible apply aw_cond_t); (focus (simp only [go_sem, Nat.reduceLT, Nat.reduceAdd, Nat.reduceLeDiff, Nat.reduceMul, Nat.reduceEqDiff, Nat.reduceBEq, reduceIte, encw_get, encw_len, wenc_len, wenc_take, wenc_frz, wenc_all] <;> rfl))) | ((with_reducible apply aw_cond_d); (focus (simp only [go_sem, Nat.reduceLT, Nat.reduceAdd, Nat.reduceLeDiff, Nat.reduceMul, Nat.reduceEqDiff, Nat.reduceBEq, reduceIte, encw_get, encw_len, wenc_len, wenc_take, wenc_frz, wenc_all] <;> rfl)); all_goals (intro hcond; try (exfalso; omega))) | ((with_reducible first | apply ae_r | apply ae_n); (focus (simp only [go_sem, Nat.reduceLT, Nat.reduceAdd, Nat.reduceLeDiff, Nat.reduceMul, Nat.reduceEqDiff, Nat.reduceBEq, reduceIte, encw_get, encw_len, wenc_len, wenc_take, wenc_frz, wenc_all] <;> rfl))) | ((with_reducible apply ard_done); (focus rfl)))
    ((apply ar_fcall rfl ok_74); (focus (simp only [go_sem, Nat.reduceLT, Nat.reduceAdd, Nat.reduceLeDiff, Nat.reduceMul, Nat.reduceEqDiff, Nat.reduceBEq, reduceIte, encw_get, encw_len, wenc_len, wenc_take, wenc_frz, wenc_all, List.map] <;> rfl)); (focus exact toWatch_fix (l.getD i default) _); (focus rfl); (focus rfl))
    rintro _ _ ⟨rfl, rfl⟩
    simp only [List.append_assoc, List.cons_append, List.nil_append]
    have htk := encw_take hlt
    obtain ⟨⟨a1, a2, a3, a4, a5⟩, hE⟩ : ∃ x, l.getD i default = x := ⟨_, rfl⟩
    rw [hE] at htk ⊢
    have hset := set_fill (z := [AV.int .i64 0, .str [], .str [], .str [], .str []]) (e := GW.enc ⟨a1, a2, a3, a4, a5⟩) hA hlt
    have hget := getD_fill (z := [AV.int .i64 0, .str [], .str [], .str [], .str []]) (d := []) hA hlt
    simp only [GW.enc] at hset
    repeat' (first | ((with_reducible first | apply ar_w T_ok | apply ar_w0 T_ok | apply ard_w T_ok | apply ard_w0 T_ok); (focus (simp (disch := omega) only [go_sem, Nat.reduceLT, Nat.reduceAdd, Nat.reduceLeDiff, Nat.reduceMul, Nat.reduceEqDiff, Nat.reduceBEq, reduceIte, encw_get, encw_len, GW.enc, hset, hget] <;> rfl)); (focus (first | rfl | (simp [okIdsB, Nat.ble_eq]; done))); (focus rfl); (focus (first | trivial | (simp only [preOK]; omega) | exact ⟨by first | trivial | rfl | omega, by assumption, by omega⟩ | (simp [preOK, AllBytes, encw_get, encw_len, GW.enc, hset, hget]; first | done | omega))); (focus (simp only [encw_get, encw_len, GW.enc, hset, hget, Heap.puts, Heap.put_app, Heap.put_app0, Heap.put_len, Heap.put, List.length_append, List.length_cons, List.length_nil, Nat.zero_add, Nat.reduceAdd] <;> rfl))) | with_reducible (first | refine aw_reg_d P_mixed ?_ | refine ar_done ?_ | refine aw_seq ?_ | refine aw_reg ?_ | refine aw_block ?_ | refine aw_skip ?_ | refine aw_exit ?_ | refine aw_ret ?_ | refine at_n ?_ | refine at_e ?_ | refine at_r ?_ | refine ab_n ?_ | refine ab_r ?_ | refine ab_e ?_ | refine ab_ne rfl ?_ | refine an_e ?_ | refine an_r ?_ | refine am_e ?_ | refine am_r ?_) | ((with_reducible apply aw_cond_f); (focus (simp only [go_sem, Nat.reduceLT, Nat.reduceAdd, Nat.reduceLeDiff, Nat.reduceMul, Nat.reduceEqDiff, Nat.reduceBEq, reduceIte, encw_get, encw_len, GW.enc, hset, hget] <;> rfl))) | ((with_reducible apply aw_cond_t); (focus (simp only [go_sem, Nat.reduceLT, Nat.reduceAdd, Nat.reduceLeDiff, Nat.reduceMul, Nat.reduceEqDiff, Nat.reduceBEq, reduceIte, encw_get, encw_len, GW.enc, hset, hget] <;> rfl))) | ((with_reducible apply aw_cond_d); (focus (simp only [go_sem, Nat.reduceLT, Nat.reduceAdd, Nat.reduceLeDiff, Nat.reduceMul, Nat.reduceEqDiff, Nat.reduceBEq, reduceIte, encw_get, encw_len, GW.enc, hset, hget] <;> rfl)); all_goals (intro hcond; try (exfalso; omega))) | ((with_reducible first | apply ae_r | apply ae_n); (focus (simp only [go_sem, Nat.reduceLT, Nat.reduceAdd, Nat.reduceLeDiff, Nat.reduceMul, Nat.reduceEqDiff, Nat.reduceBEq, reduceIte, encw_get, encw_len, GW.enc, hset, hget] <;> rfl))) | ((with_reducible apply ard_done); (focus rfl)))
    refine anextn _ _ (k' := l.length - (i + 1)) (by omega) (by simp) ?_ (heapW_refl _) rfl ⟨i + 1, by omega, rfl, rfl, ?_⟩
    · simp [subP, Env.get, Weak.refl]
    · rw [htk, rep3]; rfl
  · have : i = l.length := by omega
    subst this
    repeat' (first | ((with_reducible first | apply ar_w T_ok | apply ar_w0 T_ok | apply ard_w T_ok | apply ard_w0 T_ok); (focus (simp (disch := omega) only [go_sem, Nat.reduceLT, Nat.reduceAdd, Nat.reduceLeDiff, Nat.reduceMul, Nat.reduceEqDiff, Nat.reduceBEq, reduceIte, encw_get, encw_len, wenc_len, wenc_take, wenc_frz, wenc_all] <;> rfl)); (focus (first | rfl | (simp [okIdsB, Nat.ble_eq]; done))); (focus rfl); (focus (first | trivial | (simp only [preOK]; omega) | exact ⟨by first | trivial | rfl | omega, by assumption, by omega⟩ | (simp [preOK, AllBytes, encw_get, encw_len, wenc_len, wenc_take, wenc_frz, wenc_all]; first | done | omega))); (focus (simp only [encw_get, encw_len, wenc_len, wenc_take, wenc_frz, wenc_all, Heap.puts, Heap.put_app, Heap.put_app0, Heap.put_len, Heap.put, List.length_append, List.length_cons, List.length_nil, Nat.zero_add, Nat.reduceAdd] <;> rfl))) | with_reducible (first | refine aw_reg_d P_mixed ?_ | refine ar_done ?_ | refine aw_seq ?_ | refine aw_reg ?_ | refine aw_block ?_ | refine aw_skip ?_ | refine aw_exit ?_ | refine aw_ret ?_ | refine at_n ?_ | refine at_e ?_ | refine at_r ?_ | refine ab_n ?_ | refine ab_r ?_ | refine ab_e ?_ | refine ab_ne rfl ?_ | refine an_e ?_ | refine an_r ?_ | refine am_e ?_ | refine am_r ?_) | ((with_reducible apply aw_cond_f); (focus (simp only [go_sem, Nat.reduceLT, Nat.reduceAdd, Nat.reduceLeDiff, Nat.reduceMul, Nat.reduceEqDiff, Nat.reduceBEq, reduceIte, encw_get, encw_len, wenc_len, wenc_take, wenc_frz, wenc_all] <;> rfl))) | ((with_reducible apply aw_cond_t); (focus (simp only [go_sem, Nat.reduceLT, Nat.reduceAdd, Nat.reduceLeDiff, Nat.reduceMul, Nat.reduceEqDiff, Nat.reduceBEq, reduceIte, encw_get, encw_len, wenc_len, wenc_take, wenc_frz, wenc_all] <;> rfl))) | ((with_reducible apply aw_cond_d); (focus (simp only [go_sem, Nat.reduceLT, Nat.reduceAdd, Nat.reduceLeDiff, Nat.reduceMul, Nat.reduceEqDiff, Nat.reduceBEq, reduceIte, encw_get, encw_len, wenc_len, wenc_take, wenc_frz, wenc_all] <;> rfl)); all_goals (intro hcond; try (exfalso; omega))) | ((with_reducible first | apply ae_r | apply ae_n); (focus (simp only [go_sem, Nat.reduceLT, Nat.reduceAdd, Nat.reduceLeDiff, Nat.reduceMul, Nat.reduceEqDiff, Nat.reduceBEq, reduceIte, encw_get, encw_len, wenc_len, wenc_take, wenc_frz, wenc_all] <;> rfl))) | ((with_reducible apply ard_done); (focus rfl)))
    simp only [Nat.sub_self, List.replicate_zero, List.append_nil, List.take_length]
    first | exact ⟨rfl, rfl⟩ | exact ⟨trivial, rfl⟩ | trivial

/-- what is laid out for a hub -/
def tH (n : Nat) (l : List GN) (w : List GW) : AV × List Blk :=
  (.agg [(tNS (n + 3) l).1, .row (n + 3 + (tNS (n + 3) l).2.length) 0 w.length (some w.length) 5], .dead :: .dead :: .dead :: ((tNS (n + 3) l).2 ++ .row 5 (encw w) :: List.replicate (3 * w.length) .dead))
theorem tH_abv (n : Nat) (l : List GN) (w : List GW) : (tH n l w).1.abv n = true ∧ ∀ x ∈ (tH n l w).2, Blk.abv n x = true := by
  have h := tNs_abv l (n + 3 + 1) n (by omega)
  refine ⟨by simp [tH, tNS, AV.abv, abvL]; omega, fun x hx => ?_⟩
  simp only [tH, tNS, List.mem_cons, List.mem_append] at hx
  rcases hx with rfl | rfl | rfl | (rfl | hx) | rfl | hx
  · rfl
  · rfl
  · rfl
  · exact h.1
  · exact h.2 x hx
  · simp only [Blk.abv, List.all_eq_true]
    intro y hy
    simp [encw] at hy; obtain ⟨v, _, rfl⟩ := hy; rfl
  · rw [(List.mem_replicate.1 hx).2]; rfl
theorem tH_L (l : List GN) (w : List GW) (G : Heap) : ∃ aN aW i1 i2, (tH G.length l w).1 = .agg [aN, aW] ∧ LNS (G ++ (tH G.length l w).2) l aN i1 ∧ LWS (G ++ (tH G.length l w).2) w aW i2 ∧ (i1 ++ i2).Nodup ∧ ∀ b ∈ i1 ++ i2, G.length ≤ b ∧ b < (G ++ (tH G.length l w).2).length := by
  simp only [tH, tNS]
  obtain ⟨⟨es, N⟩, hEN⟩ : ∃ p, tNs (G.length + 3 + 1) l = p := ⟨_, rfl⟩
  simp only [hEN]
  obtain ⟨i1, g1, g2, g3⟩ := tNs_LN l (G ++ [.dead, .dead, .dead, .row 7 es])
  rw [show (G ++ [Blk.dead, .dead, .dead, .row 7 es]).length = G.length + 3 + 1 by simp, hEN] at g1 g3
  simp only [List.append_assoc, List.cons_append, List.nil_append] at g1 g3
  have g3' : ∀ b ∈ i1, G.length + 4 ≤ b ∧ b < G.length + 4 + N.length := g3
  refine ⟨_, _, (G.length + 3) :: i1, [G.length + 3 + (N.length + 1)], rfl, .inr ⟨_, _, es, i1, rfl, ?_, LNs.mono l g1 fun b hb => ?_, rfl⟩, .inr ⟨_, _, rfl, ?_, rfl⟩, ?_, fun b hb => ?_⟩
  · rw [Heap.at_app]
    rfl
  · have := g3' b hb
    obtain ⟨q, rfl⟩ : ∃ q, b = G.length + (q + 1 + 1 + 1 + 1) := ⟨b - G.length - 4, by omega⟩
    rw [Heap.at_app, Heap.at_app]
    simp only [Heap.at_cons_succ, List.cons_append]
    exact Heap.at_old _ _ (by omega)
  · rw [show G.length + 3 + (Blk.row 7 es :: N).length = G.length + (N.length + 1 + 1 + 1 + 1) by simp; omega, Heap.at_app]
    simp only [Heap.at_cons_succ, List.cons_append]
    rw [Heap.at_app0, Heap.at_cons_zero]
  · rw [List.cons_append, List.nodup_cons, List.nodup_append]
    refine ⟨fun h => ?_, g2, by simp, fun p hp q hq => ?_⟩
    · rcases List.mem_append.1 h with h | h
      · have := g3' _ h; omega
      · simp at h
    · have := g3' p hp; simp at hq; omega
  · simp only [List.cons_append, List.mem_cons, List.mem_append, List.not_mem_nil, or_false] at hb
    simp only [List.length_cons, List.length_append, List.length_replicate]
    rcases hb with rfl | hb | rfl
    · omega
    · have := g3' b hb; omega
    · omega

theorem toHub_fix (l : List GN) (w : List GW) (hl : Len l) (hf : ∀ v ∈ l, v.fits) (hw : Len w) (H : Heap) : FCall P 17 [.agg [.fsl 7 (encn l), .fsl 5 (encw w)]] H fun r H' => r = (tH H.length l w).1 ∧ H' = H ++ (tH H.length l w).2 := by
  refine FCall.kill (R := fun r H' => r = (tH H.length l w).1 ∧ ∃ A B C, H' = H ++ A :: B :: C :: ((tNS (H.length + 3) l).2 ++ .row 5 (encw w) :: List.replicate (3 * w.length) .dead)) ?_ ?_
  rotate_left
  · rintro r _ ⟨rfl, A, B, C, rfl⟩
    exact ⟨H ++ (tH H.length l w).2, by simp [tH], heapW_at (heapW_app H ⟨.dead _, .dead _, .dead _, heapW_refl _⟩), rfl, rfl⟩
  refine fcall_walk T_ok ok_17 rfl ?_
  unfold Go.Proofs.Try.f17
  simp only [Option.getD_some, envOf, Nat.zero_add, Nat.reduceAdd]
  repeat' (first | ((with_reducible first | apply ar_w T_ok | apply ar_w0 T_ok | apply ard_w T_ok | apply ard_w0 T_ok); (focus (simp (disch := omega) only [go_sem, Nat.reduceLT, Nat.reduceAdd, Nat.reduceLeDiff, Nat.reduceMul, Nat.reduceEqDiff, Nat.reduceBEq, reduceIte, encn_len, encw_len] <;> rfl)); (focus (first | rfl | (simp [okIdsB, Nat.ble_eq]; done))); (focus rfl); (focus (first | trivial | (simp only [preOK]; omega) | exact ⟨by first | trivial | rfl | omega, by assumption, by omega⟩ | (simp [preOK, AllBytes, encn_len, encw_len]; first | done | omega))); (focus (simp only [encn_len, encw_len, Heap.puts, Heap.put_app, Heap.put_app0, Heap.put_len, Heap.put, List.length_append, List.length_cons, List.length_nil, Nat.zero_add, Nat.reduceAdd] <;> rfl))) | with_reducible (first | refine aw_reg_d P_mixed ?_ | refine ar_done ?_ | refine aw_seq ?_ | refine aw_reg ?_ | refine aw_block ?_ | refine aw_skip ?_ | refine aw_exit ?_ | refine aw_ret ?_ | refine at_n ?_ | refine at_e ?_ | refine at_r ?_ | refine ab_n ?_ | refine ab_r ?_ | refine ab_e ?_ | refine ab_ne rfl ?_ | refine an_e ?_ | refine an_r ?_ | refine am_e ?_ | refine am_r ?_) | ((with_reducible apply aw_cond_f); (focus (simp only [go_sem, Nat.reduceLT, Nat.reduceAdd, Nat.reduceLeDiff, Nat.reduceMul, Nat.reduceEqDiff, Nat.reduceBEq, reduceIte, encn_len, encw_len] <;> rfl))) | ((with_reducible apply aw_cond_t); (focus (simp only [go_sem, Nat.reduceLT, Nat.reduceAdd, Nat.reduceLeDiff, Nat.reduceMul, Nat.reduceEqDiff, Nat.reduceBEq, reduceIte, encn_len, encw_len] <;> rfl))) | ((with_reducible apply aw_cond_d); (focus (simp only [go_sem, Nat.reduceLT, Nat.reduceAdd, Nat.reduceLeDiff, Nat.reduceMul, Nat.reduceEqDiff, Nat.reduceBEq, reduceIte, encn_len, encw_len] <;> rfl)); all_goals (intro hcond; try (exfalso; omega))) | ((with_reducible first | apply ae_r | apply ae_n); (focus (simp only [go_sem, Nat.reduceLT, Nat.reduceAdd, Nat.reduceLeDiff, Nat.reduceMul, Nat.reduceEqDiff, Nat.reduceBEq, reduceIte, encn_len, encw_len] <;> rfl))) | ((with_reducible apply ard_done); (focus rfl)))
  ((apply ar_fcall rfl ok_8); (focus (simp only [go_sem, Nat.reduceLT, Nat.reduceAdd, Nat.reduceLeDiff, Nat.reduceMul, Nat.reduceEqDiff, Nat.reduceBEq, reduceIte, encn_len, encw_len, List.map] <;> rfl)); (focus exact toNodeS_fix l hl hf _); (focus rfl); (focus rfl))
  rintro _ _ ⟨rfl, rfl⟩
  simp only [List.append_assoc, List.cons_append, List.nil_append, List.length_append, List.length_cons, List.length_nil, Nat.zero_add, Nat.reduceAdd]
  simp only [tH]
  have hc : (tNS (H.length + 3) l).1.isCell = true := rfl
  obtain ⟨⟨aT, S⟩, hcB⟩ : ∃ p, tNS (H.length + 3) l = p := ⟨_, rfl⟩
  rw [hcB] at hc ⊢
  dsimp only at hc ⊢
  have hcs := solid_of_cell hc
  have hcc := cells_of_cell hc
  repeat' (first | ((with_reducible first | apply ar_w T_ok | apply ar_w0 T_ok | apply ard_w T_ok | apply ard_w0 T_ok); (focus (simp (disch := omega) only [go_sem, Nat.reduceLT, Nat.reduceAdd, Nat.reduceLeDiff, Nat.reduceMul, Nat.reduceEqDiff, Nat.reduceBEq, reduceIte, encn_len, encw_len, hc, hcs, hcc] <;> rfl)); (focus (first | rfl | (simp [okIdsB, Nat.ble_eq]; done))); (focus rfl); (focus (first | trivial | (simp only [preOK]; omega) | exact ⟨by first | trivial | rfl | omega, by assumption, by omega⟩ | (simp [preOK, AllBytes, encn_len, encw_len, hc, hcs, hcc]; first | done | omega))); (focus (simp only [encn_len, encw_len, hc, hcs, hcc, Heap.puts, Heap.put_app, Heap.put_app0, Heap.put_len, Heap.put, List.length_append, List.length_cons, List.length_nil, Nat.zero_add, Nat.reduceAdd] <;> rfl))) | with_reducible (first | refine aw_reg_d P_mixed ?_ | refine ar_done ?_ | refine aw_seq ?_ | refine aw_reg ?_ | refine aw_block ?_ | refine aw_skip ?_ | refine aw_exit ?_ | refine aw_ret ?_ | refine at_n ?_ | refine at_e ?_ | refine at_r ?_ | refine ab_n ?_ | refine ab_r ?_ | refine ab_e ?_ | refine ab_ne rfl ?_ | refine an_e ?_ | refine an_r ?_ | refine am_e ?_ | refine am_r ?_) | ((with_reducible apply aw_cond_f); (focus (simp only [go_sem, Nat.reduceLT, Nat.reduceAdd, Nat.reduceLeDiff, Nat.reduceMul, Nat.reduceEqDiff, Nat.reduceBEq, reduceIte, encn_len, encw_len, hc, hcs, hcc] <;> rfl))) | ((with_reducible apply aw_cond_t); (focus (simp only [go_sem, Nat.reduceLT, Nat.reduceAdd, Nat.reduceLeDiff, Nat.reduceMul, Nat.reduceEqDiff, Nat.reduceBEq, reduceIte, encn_len, encw_len, hc, hcs, hcc] <;> rfl))) | ((with_reducible apply aw_cond_d); (focus (simp only [go_sem, Nat.reduceLT, Nat.reduceAdd, Nat.reduceLeDiff, Nat.reduceMul, Nat.reduceEqDiff, Nat.reduceBEq, reduceIte, encn_len, encw_len, hc, hcs, hcc] <;> rfl)); all_goals (intro hcond; try (exfalso; omega))) | ((with_reducible first | apply ae_r | apply ae_n); (focus (simp only [go_sem, Nat.reduceLT, Nat.reduceAdd, Nat.reduceLeDiff, Nat.reduceMul, Nat.reduceEqDiff, Nat.reduceBEq, reduceIte, encn_len, encw_len, hc, hcs, hcc] <;> rfl))) | ((with_reducible apply ard_done); (focus rfl)))
  ((apply ar_fcall rfl ok_42); (focus (simp only [go_sem, Nat.reduceLT, Nat.reduceAdd, Nat.reduceLeDiff, Nat.reduceMul, Nat.reduceEqDiff, Nat.reduceBEq, reduceIte, encn_len, encw_len, hc, hcs, hcc, List.map] <;> rfl)); (focus exact toWatchS_fix w hw _); (focus rfl); (focus rfl))
  rintro _ _ ⟨rfl, rfl⟩
  simp only [List.append_assoc, List.cons_append, List.nil_append]
  repeat' (first | ((with_reducible first | apply ar_w T_ok | apply ar_w0 T_ok | apply ard_w T_ok | apply ard_w0 T_ok); (focus (simp (disch := omega) only [go_sem, Nat.reduceLT, Nat.reduceAdd, Nat.reduceLeDiff, Nat.reduceMul, Nat.reduceEqDiff, Nat.reduceBEq, reduceIte, encn_len, encw_len, hc, hcs, hcc] <;> rfl)); (focus (first | rfl | (simp [okIdsB, Nat.ble_eq]; done))); (focus rfl); (focus (first | trivial | (simp only [preOK]; omega) | exact ⟨by first | trivial | rfl | omega, by assumption, by omega⟩ | (simp [preOK, AllBytes, encn_len, encw_len, hc, hcs, hcc]; first | done | omega))); (focus (simp only [encn_len, encw_len, hc, hcs, hcc, Heap.puts, Heap.put_app, Heap.put_app0, Heap.put_len, Heap.put, List.length_append, List.length_cons, List.length_nil, Nat.zero_add, Nat.reduceAdd] <;> rfl))) | with_reducible (first | refine aw_reg_d P_mixed ?_ | refine ar_done ?_ | refine aw_seq ?_ | refine aw_reg ?_ | refine aw_block ?_ | refine aw_skip ?_ | refine aw_exit ?_ | refine aw_ret ?_ | refine at_n ?_ | refine at_e ?_ | refine at_r ?_ | refine ab_n ?_ | refine ab_r ?_ | refine ab_e ?_ | refine ab_ne rfl ?_ | refine an_e ?_ | refine an_r ?_ | refine am_e ?_ | refine am_r ?_) | ((with_reducible apply aw_cond_f); (focus (simp only [go_sem, Nat.reduceLT, Nat.reduceAdd, Nat.reduceLeDiff, Nat.reduceMul, Nat.reduceEqDiff, Nat.reduceBEq, reduceIte, encn_len, encw_len, hc, hcs, hcc] <;> rfl))) | ((with_reducible apply aw_cond_t); (focus (simp only [go_sem, Nat.reduceLT, Nat.reduceAdd, Nat.reduceLeDiff, Nat.reduceMul, Nat.reduceEqDiff, Nat.reduceBEq, reduceIte, encn_len, encw_len, hc, hcs, hcc] <;> rfl))) | ((with_reducible apply aw_cond_d); (focus (simp only [go_sem, Nat.reduceLT, Nat.reduceAdd, Nat.reduceLeDiff, Nat.reduceMul, Nat.reduceEqDiff, Nat.reduceBEq, reduceIte, encn_len, encw_len, hc, hcs, hcc] <;> rfl)); all_goals (intro hcond; try (exfalso; omega))) | ((with_reducible first | apply ae_r | apply ae_n); (focus (simp only [go_sem, Nat.reduceLT, Nat.reduceAdd, Nat.reduceLeDiff, Nat.reduceMul, Nat.reduceEqDiff, Nat.reduceBEq, reduceIte, encn_len, encw_len, hc, hcs, hcc] <;> rfl))) | ((with_reducible apply ard_done); (focus rfl)))
  refine ⟨?_, _, _, _, rfl⟩
  simp only [aresV, List.length_append, List.length_cons]
  rw [show H.length + (S.length + 1 + 1 + 1) = H.length + 3 + S.length by omega]
end Go.Av
