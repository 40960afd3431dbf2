/- Values and nodes laid out in memory of the call's own, and marked, within bounds of their sizes. -/
import Derived.Test.YtfdafamjgnbecaaSea
set_option linter.unusedVariables false
set_option linter.unusedSimpArgs false
namespace Go.Av
open Go
set_option maxRecDepth 10000

/-! ### trees laid out in the heap -/
def LS (H : Heap) (ns : List (List UInt8)) (a : AV) (ids : List Nat) : Prop :=
  (a = .nsl 1 ∧ ns = [] ∧ ids = []) ∨ ∃ b cap, a = .row b 0 ns.length (some cap) 1 ∧ H.at b = .row 1 (strs ns) ∧ ids = [b]
mutual
def LV (H : Heap) : GV → List AV → List Nat → Prop
  | ⟨k, n, t, l, ns⟩, cs, ids => ∃ aL aN i1 i2, cs = [.int .i64 k, .int .i64 n, .str t, aL, aN] ∧
      ((aL = .nsl 5 ∧ l = [] ∧ i1 = []) ∨ ∃ b cap es i, aL = .row b 0 l.length (some cap) 5 ∧ H.at b = .row 5 es ∧ LVs H l es i ∧ i1 = b :: i) ∧ LS H ns aN i2 ∧ ids = i1 ++ i2
def LVs (H : Heap) : List GV → List (List AV) → List Nat → Prop
  | [], es, ids => es = [] ∧ ids = []
  | v :: r, es, ids => ∃ e es' i1 i2, es = e :: es' ∧ LV H v e i1 ∧ LVs H r es' i2 ∧ ids = i1 ++ i2
end
def LVS (H : Heap) (l : List GV) (a : AV) (ids : List Nat) : Prop :=
  (a = .nsl 5 ∧ l = [] ∧ ids = []) ∨ ∃ b cap es i, a = .row b 0 l.length (some cap) 5 ∧ H.at b = .row 5 es ∧ LVs H l es i ∧ ids = b :: i

theorem LV_iff {H : Heap} {k n : Int} {t : List UInt8} {l : List GV} {ns : List (List UInt8)} {cs : List AV} {ids : List Nat} :
    LV H ⟨k, n, t, l, ns⟩ cs ids ↔ ∃ aL aN i1 i2, cs = [.int .i64 k, .int .i64 n, .str t, aL, aN] ∧ LVS H l aL i1 ∧ LS H ns aN i2 ∧ ids = i1 ++ i2 := by
  simp only [LV, LVS]

theorem LS.mono {H H' : Heap} {ns : List (List UInt8)} {a : AV} {ids : List Nat} (h : LS H ns a ids) (he : ∀ b ∈ ids, H'.at b = H.at b) : LS H' ns a ids := by
  rcases h with h | ⟨b, cap, h1, h2, h3⟩
  · exact .inl h
  · subst h3; exact .inr ⟨b, cap, h1, (he b (by simp)).trans h2, rfl⟩
mutual
theorem LV.mono {H H' : Heap} : ∀ (v : GV) {cs : List AV} {ids : List Nat}, LV H v cs ids → (∀ b ∈ ids, H'.at b = H.at b) → LV H' v cs ids
  | ⟨k, n, t, l, ns⟩, cs, ids, h, he => by
    obtain ⟨aL, aN, i1, i2, h1, h2, h3, rfl⟩ := h
    refine ⟨aL, aN, i1, i2, h1, ?_, h3.mono fun b hb => he b (by simp [hb]), rfl⟩
    rcases h2 with h2 | ⟨b, cap, es, i, g1, g2, g3, rfl⟩
    · exact .inl h2
    · exact .inr ⟨b, cap, es, i, g1, (he b (by simp)).trans g2, LVs.mono l g3 fun b hb => he b (by simp [hb]), rfl⟩
theorem LVs.mono {H H' : Heap} : ∀ (l : List GV) {es : List (List AV)} {ids : List Nat}, LVs H l es ids → (∀ b ∈ ids, H'.at b = H.at b) → LVs H' l es ids
  | [], es, ids, h, he => h
  | v :: r, es, ids, h, he => by
    obtain ⟨e, es', i1, i2, h1, h2, h3, rfl⟩ := h
    exact ⟨e, es', i1, i2, h1, LV.mono v h2 fun b hb => he b (by simp [hb]), LVs.mono r h3 fun b hb => he b (by simp [hb]), rfl⟩
end
theorem LVS.mono {H H' : Heap} {l : List GV} {a : AV} {ids : List Nat} (h : LVS H l a ids) (he : ∀ b ∈ ids, H'.at b = H.at b) : LVS H' l a ids := by
  rcases h with h | ⟨b, cap, es, i, g1, g2, g3, rfl⟩
  · exact .inl h
  · exact .inr ⟨b, cap, es, i, g1, (he b (by simp)).trans g2, LVs.mono l g3 fun b hb => he b (by simp [hb]), rfl⟩

theorem LV.len {H : Heap} : ∀ {v : GV} {cs : List AV} {ids : List Nat}, LV H v cs ids → cs.length = 5
  | ⟨k, n, t, l, ns⟩, cs, ids, h => by obtain ⟨aL, aN, i1, i2, h1, _⟩ := h; subst h1; rfl
theorem LVs.len {H : Heap} : ∀ {l : List GV} {es : List (List AV)} {ids : List Nat}, LVs H l es ids → es.length = l.length
  | [], es, ids, h => by rw [h.1]; rfl
  | v :: r, es, ids, h => by obtain ⟨e, es', i1, i2, h1, _, h3, _⟩ := h; subst h1; simp [LVs.len h3]
theorem LS.cell {H : Heap} {ns : List (List UInt8)} {a : AV} {ids : List Nat} (h : LS H ns a ids) : a.isCell = true := by
  rcases h with h | ⟨b, cap, h1, _⟩
  · rw [h.1]; rfl
  · rw [h1]; rfl
theorem LVS.cell {H : Heap} {l : List GV} {a : AV} {ids : List Nat} (h : LVS H l a ids) : a.isCell = true := by
  rcases h with h | ⟨b, cap, es, i, h1, _⟩
  · rw [h.1]; rfl
  · rw [h1]; rfl

/-- lent, a tree reads as itself -/
theorem LS.bor {H : Heap} {ns : List (List UInt8)} {a : AV} {ids S : List Nat} (h : LS H ns a ids) (hS : ∀ b ∈ ids, b ∈ S) : Bor H S a (.fsl 1 (strs ns)) := by
  rcases h with ⟨rfl, rfl, _⟩ | ⟨b, cap, rfl, h2, rfl⟩
  · exact bor_frz rfl
  · refine bor_row (hS b (by simp)) h2 (strs_len ns).symm (strs_len ns) (fun x hx => ?_) fun i j hi hj => ?_
    · simp [strs] at hx; obtain ⟨y, _, rfl⟩ := hx; rfl
    · rw [strs_get hi]
      have : j = 0 := by omega
      subst this
      exact bor_frz rfl
mutual
theorem LV.bor {H : Heap} {S : List Nat} : ∀ (v : GV) {cs : List AV} {ids : List Nat}, LV H v cs ids → (∀ b ∈ ids, b ∈ S) → ∀ j, j < 5 → Bor H S (cs.getD j .junk) (v.enc.getD j .junk)
  | ⟨k, n, t, l, ns⟩, cs, ids, h, hS, j, hj => by
    obtain ⟨aL, aN, i1, i2, rfl, h2, h3, rfl⟩ := h
    match j, hj with
    | 0, _ => exact bor_frz rfl
    | 1, _ => exact bor_frz rfl
    | 2, _ => exact bor_frz rfl
    | 3, _ =>
      show Bor H S aL (.fsl 5 (encs l))
      rcases h2 with ⟨rfl, rfl, _⟩ | ⟨b, cap, es, i, rfl, g2, g3, rfl⟩
      · exact bor_frz rfl
      · refine bor_row (hS b (by simp)) g2 g3.len.symm (encs_len l) (fun x hx => ?_) fun i j hi hj => LVs.bor l g3 (fun b hb => hS b (by simp [hb])) i j hi hj
        simp [encs_eq] at hx; obtain ⟨y, _, rfl⟩ := hx; exact enc_len y
    | 4, _ => exact h3.bor fun b hb => hS b (by simp [hb])
theorem LVs.bor {H : Heap} {S : List Nat} : ∀ (l : List GV) {es : List (List AV)} {ids : List Nat}, LVs H l es ids → (∀ b ∈ ids, b ∈ S) → ∀ i j, i < l.length → j < 5 → Bor H S ((es.getD i []).getD j .junk) (((encs l).getD i []).getD j .junk)
  | v :: r, es, ids, h, hS, i, j, hi, hj => by
    obtain ⟨e, es', i1, i2, rfl, h2, h3, rfl⟩ := h
    cases i with
    | zero => exact LV.bor v h2 (fun b hb => hS b (by simp [hb])) j hj
    | succ i => exact LVs.bor r h3 (fun b hb => hS b (by simp [hb])) i j (by simpa using hi) hj
end
theorem LVS.bor {H : Heap} {l : List GV} {a : AV} {ids S : List Nat} (h : LVS H l a ids) (hS : ∀ b ∈ ids, b ∈ S) : Bor H S a (.fsl 5 (encs l)) := by
  rcases h with ⟨rfl, rfl, _⟩ | ⟨b, cap, es, i, rfl, g2, g3, rfl⟩
  · exact bor_frz rfl
  · refine bor_row (hS b (by simp)) g2 g3.len.symm (encs_len l) (fun x hx => ?_) fun i j hi hj => LVs.bor l g3 (fun b hb => hS b (by simp [hb])) i j hi hj
    simp [encs_eq] at hx; obtain ⟨y, _, rfl⟩ := hx; exact enc_len y

theorem toStringS_ok (xs : List (List UInt8)) (hl : Len xs) (H : Heap) : FCall P 95 [.fsl 1 (strs xs)] H fun r H' => r = .row H.length 0 xs.length (some xs.length) 1 ∧ H' = H ++ [.row 1 (strs xs)] := by
  refine fcall_walk T_ok ok_95 rfl ?_
  unfold Go.Proofs.Try.f95
  simp only [Option.getD_some, envOf, Nat.zero_add, Nat.reduceAdd]
  repeat' (first | ((with_reducible first | apply ar_w T_ok | apply ar_w0 T_ok | apply ard_w T_ok | apply ard_w0 T_ok); (focus (simp (disch := omega) only [go_sem, Nat.reduceLT, Nat.reduceAdd, Nat.reduceLeDiff, Nat.reduceMul, Nat.reduceEqDiff, Nat.reduceBEq, reduceIte, strs_get, strs_len] <;> rfl)); (focus (first | rfl | (simp [okIdsB, Nat.ble_eq]; done))); (focus rfl); (focus (first | trivial | (simp only [preOK]; omega) | exact ⟨by first | trivial | rfl | omega, by assumption, by omega⟩ | (simp [preOK, AllBytes, strs_get, strs_len]; first | done | omega))); (focus (simp only [strs_get, strs_len, Heap.puts, Heap.put_app, Heap.put_app0, Heap.put_len, Heap.put, List.length_append, List.length_cons, List.length_nil, Nat.zero_add, Nat.reduceAdd] <;> rfl))) | with_reducible (first | refine aw_reg_d P_mixed ?_ | refine ar_done ?_ | refine aw_seq ?_ | refine aw_reg ?_ | refine aw_block ?_ | refine aw_skip ?_ | refine aw_exit ?_ | refine aw_ret ?_ | refine at_n ?_ | refine at_e ?_ | refine at_r ?_ | refine ab_n ?_ | refine ab_r ?_ | refine ab_e ?_ | refine ab_ne rfl ?_ | refine an_e ?_ | refine an_r ?_ | refine am_e ?_ | refine am_r ?_) | ((with_reducible apply aw_cond_f); (focus (simp only [go_sem, Nat.reduceLT, Nat.reduceAdd, Nat.reduceLeDiff, Nat.reduceMul, Nat.reduceEqDiff, Nat.reduceBEq, reduceIte, strs_get, strs_len] <;> rfl))) | ((with_reducible apply aw_cond_t); (focus (simp only [go_sem, Nat.reduceLT, Nat.reduceAdd, Nat.reduceLeDiff, Nat.reduceMul, Nat.reduceEqDiff, Nat.reduceBEq, reduceIte, strs_get, strs_len] <;> rfl))) | ((with_reducible apply aw_cond_d); (focus (simp only [go_sem, Nat.reduceLT, Nat.reduceAdd, Nat.reduceLeDiff, Nat.reduceMul, Nat.reduceEqDiff, Nat.reduceBEq, reduceIte, strs_get, strs_len] <;> rfl)); all_goals (intro hcond; try (exfalso; omega))) | ((with_reducible first | apply ae_r | apply ae_n); (focus (simp only [go_sem, Nat.reduceLT, Nat.reduceAdd, Nat.reduceLeDiff, Nat.reduceMul, Nat.reduceEqDiff, Nat.reduceBEq, reduceIte, strs_get, strs_len] <;> rfl))) | ((with_reducible apply ard_done); (focus rfl)))
  refine aw_loopn (fun kk env H1 => ∃ i : Nat, i ≤ xs.length ∧ kk = xs.length - i ∧ env = [(0, .fsl 1 (strs xs)), (3, .row H.length 0 xs.length (some xs.length) 1), (4, .int .i64 i)] ∧ H1 = H ++ [.row 1 (strs (xs.take i) ++ List.replicate (xs.length - i) [.str []])]) xs.length
    [(0, .fsl 1 (strs xs)), (3, .row H.length 0 xs.length (some xs.length) 1), (4, .int .i64 0)] _ (by simp [subP, Env.get, Weak.refl]) (heapW_refl _) rfl ⟨0, Nat.zero_le _, rfl, rfl, by simp [strs]⟩ ?_
  rintro kk env H1 ⟨i, hi, hk, rfl, rfl⟩
  have hA : (strs (xs.take i)).length = i := by simp [strs_len]; omega
  by_cases hlt : i < xs.length
  · have htake := strs_take hlt
    have hset := set_fill (z := [AV.str []]) (e := [.str (xs.getD i [])]) hA hlt
    have hget := getD_fill (z := [AV.str []]) (d := []) hA hlt
    repeat' (first | ((with_reducible first | apply ar_w T_ok | apply ar_w0 T_ok | apply ard_w T_ok | apply ard_w0 T_ok); (focus (simp (disch := omega) only [go_sem, Nat.reduceLT, Nat.reduceAdd, Nat.reduceLeDiff, Nat.reduceMul, Nat.reduceEqDiff, Nat.reduceBEq, reduceIte, strs_get, strs_len, hset, hget] <;> rfl)); (focus (first | rfl | (simp [okIdsB, Nat.ble_eq]; done))); (focus rfl); (focus (first | trivial | (simp only [preOK]; omega) | exact ⟨by first | trivial | rfl | omega, by assumption, by omega⟩ | (simp [preOK, AllBytes, strs_get, strs_len, hset, hget]; first | done | omega))); (focus (simp only [strs_get, strs_len, hset, hget, Heap.puts, Heap.put_app, Heap.put_app0, Heap.put_len, Heap.put, List.length_append, List.length_cons, List.length_nil, Nat.zero_add, Nat.reduceAdd] <;> rfl))) | with_reducible (first | refine aw_reg_d P_mixed ?_ | refine ar_done ?_ | refine aw_seq ?_ | refine aw_reg ?_ | refine aw_block ?_ | refine aw_skip ?_ | refine aw_exit ?_ | refine aw_ret ?_ | refine at_n ?_ | refine at_e ?_ | refine at_r ?_ | refine ab_n ?_ | refine ab_r ?_ | refine ab_e ?_ | refine ab_ne rfl ?_ | refine an_e ?_ | refine an_r ?_ | refine am_e ?_ | refine am_r ?_) | ((with_reducible apply aw_cond_f); (focus (simp only [go_sem, Nat.reduceLT, Nat.reduceAdd, Nat.reduceLeDiff, Nat.reduceMul, Nat.reduceEqDiff, Nat.reduceBEq, reduceIte, strs_get, strs_len, hset, hget] <;> rfl))) | ((with_reducible apply aw_cond_t); (focus (simp only [go_sem, Nat.reduceLT, Nat.reduceAdd, Nat.reduceLeDiff, Nat.reduceMul, Nat.reduceEqDiff, Nat.reduceBEq, reduceIte, strs_get, strs_len, hset, hget] <;> rfl))) | ((with_reducible apply aw_cond_d); (focus (simp only [go_sem, Nat.reduceLT, Nat.reduceAdd, Nat.reduceLeDiff, Nat.reduceMul, Nat.reduceEqDiff, Nat.reduceBEq, reduceIte, strs_get, strs_len, hset, hget] <;> rfl)); all_goals (intro hcond; try (exfalso; omega))) | ((with_reducible first | apply ae_r | apply ae_n); (focus (simp only [go_sem, Nat.reduceLT, Nat.reduceAdd, Nat.reduceLeDiff, Nat.reduceMul, Nat.reduceEqDiff, Nat.reduceBEq, reduceIte, strs_get, strs_len, hset, hget] <;> rfl))) | ((with_reducible apply ard_done); (focus rfl)))
    refine anextn _ _ (k' := xs.length - (i + 1)) (by omega) (by simp) ?_ ?_ ?_ ⟨i + 1, by omega, rfl, rfl, rfl⟩
    · simp [subP, Env.get, Weak.refl]
    · rw [htake]; exact heapW_refl _
    · simp
  · have : i = xs.length := by omega
    subst this
    repeat' (first | ((with_reducible first | apply ar_w T_ok | apply ar_w0 T_ok | apply ard_w T_ok | apply ard_w0 T_ok); (focus (simp (disch := omega) only [go_sem, Nat.reduceLT, Nat.reduceAdd, Nat.reduceLeDiff, Nat.reduceMul, Nat.reduceEqDiff, Nat.reduceBEq, reduceIte, strs_get, strs_len] <;> rfl)); (focus (first | rfl | (simp [okIdsB, Nat.ble_eq]; done))); (focus rfl); (focus (first | trivial | (simp only [preOK]; omega) | exact ⟨by first | trivial | rfl | omega, by assumption, by omega⟩ | (simp [preOK, AllBytes, strs_get, strs_len]; first | done | omega))); (focus (simp only [strs_get, strs_len, Heap.puts, Heap.put_app, Heap.put_app0, Heap.put_len, Heap.put, List.length_append, List.length_cons, List.length_nil, Nat.zero_add, Nat.reduceAdd] <;> rfl))) | with_reducible (first | refine aw_reg_d P_mixed ?_ | refine ar_done ?_ | refine aw_seq ?_ | refine aw_reg ?_ | refine aw_block ?_ | refine aw_skip ?_ | refine aw_exit ?_ | refine aw_ret ?_ | refine at_n ?_ | refine at_e ?_ | refine at_r ?_ | refine ab_n ?_ | refine ab_r ?_ | refine ab_e ?_ | refine ab_ne rfl ?_ | refine an_e ?_ | refine an_r ?_ | refine am_e ?_ | refine am_r ?_) | ((with_reducible apply aw_cond_f); (focus (simp only [go_sem, Nat.reduceLT, Nat.reduceAdd, Nat.reduceLeDiff, Nat.reduceMul, Nat.reduceEqDiff, Nat.reduceBEq, reduceIte, strs_get, strs_len] <;> rfl))) | ((with_reducible apply aw_cond_t); (focus (simp only [go_sem, Nat.reduceLT, Nat.reduceAdd, Nat.reduceLeDiff, Nat.reduceMul, Nat.reduceEqDiff, Nat.reduceBEq, reduceIte, strs_get, strs_len] <;> rfl))) | ((with_reducible apply aw_cond_d); (focus (simp only [go_sem, Nat.reduceLT, Nat.reduceAdd, Nat.reduceLeDiff, Nat.reduceMul, Nat.reduceEqDiff, Nat.reduceBEq, reduceIte, strs_get, strs_len] <;> rfl)); all_goals (intro hcond; try (exfalso; omega))) | ((with_reducible first | apply ae_r | apply ae_n); (focus (simp only [go_sem, Nat.reduceLT, Nat.reduceAdd, Nat.reduceLeDiff, Nat.reduceMul, Nat.reduceEqDiff, Nat.reduceBEq, reduceIte, strs_get, strs_len] <;> rfl))) | ((with_reducible apply ard_done); (focus rfl)))
    simp [aresV, List.take_length]

theorem solid_of_cell {a : AV} (h : a.isCell = true) : a.solid = true := by cases a <;> first | rfl | (simp [AV.isCell] at h)
theorem cells_of_cell {a : AV} (h : a.isCell = true) : a.cells = [a] := by cases a <;> first | rfl | (simp [AV.isCell] at h)

/-- the ids are new, each once -/
structure Ids (H H' : Heap) (ids : List Nat) : Prop where
  nodup : ids.Nodup
  bd : ∀ b ∈ ids, H.length ≤ b ∧ b < H'.length

def RVS (H : Heap) (l : List GV) (r : AV) (H' : Heap) : Prop := ∃ N ids, H' = H ++ N ∧ LVS H' l r ids ∧ Ids H H' ids
def RV (H : Heap) (v : GV) (r : AV) (H' : Heap) : Prop := ∃ N cs ids, H' = H ++ N ∧ r = .agg cs ∧ LV H' v cs ids ∧ Ids H H' ids

theorem at_tail {H L L' N M : Heap} (hL : L'.length = L.length) {b : Nat} (h1 : H.length + L.length ≤ b) (h2 : b < H.length + L.length + N.length) : Heap.at (H ++ (L' ++ (N ++ M))) b = Heap.at (H ++ (L ++ N)) b := by
  obtain ⟨k, rfl⟩ : ∃ k, b = H.length + (L.length + k) := ⟨b - H.length - L.length, by omega⟩
  rw [Heap.at_app, Heap.at_app, Heap.at_app]
  rw [← hL, Heap.at_app, Heap.at_old N M (by omega)]

theorem at_tail3 {H N M : Heap} {x y z x' y' z' : Blk} {b : Nat} (h1 : H.length + 3 ≤ b) (h2 : b < H.length + 3 + N.length) : Heap.at (H ++ x' :: y' :: z' :: (N ++ M)) b = Heap.at (H ++ x :: y :: z :: N) b :=
  at_tail (L := [x, y, z]) (L' := [x', y', z']) rfl h1 h2
theorem at_tail1 {H N M : Heap} {x x' : Blk} {b : Nat} (h1 : H.length + 1 ≤ b) (h2 : b < H.length + 1 + N.length) : Heap.at (H ++ x' :: (N ++ M)) b = Heap.at (H ++ x :: N) b :=
  at_tail (L := [x]) (L' := [x']) rfl h1 h2
theorem at_tail1' {H N : Heap} {x x' : Blk} {b : Nat} (h1 : H.length + 1 ≤ b) (h2 : b < H.length + 1 + N.length) : Heap.at (H ++ x' :: N) b = Heap.at (H ++ x :: N) b := by
  have := at_tail1 (H := H) (N := N) (M := []) (x := x) (x' := x') h1 h2
  simpa using this
theorem at_tail3' {H N : Heap} {x y z x' y' z' : Blk} {b : Nat} (h1 : H.length + 3 ≤ b) (h2 : b < H.length + 3 + N.length) : Heap.at (H ++ x' :: y' :: z' :: N) b = Heap.at (H ++ x :: y :: z :: N) b := by
  have := at_tail3 (H := H) (N := N) (M := []) (x := x) (y := y) (z := z) (x' := x') (y' := y') (z' := z') h1 h2
  simpa using this
theorem nodup_snoc {l : List Nat} {b : Nat} (h : l.Nodup) (hb : ∀ x ∈ l, x < b) : (l ++ [b]).Nodup := by
  rw [List.nodup_append]
  refine ⟨h, by simp, fun x hx y hy => ?_⟩
  simp at hy; subst hy
  have := hb x hx; omega

theorem toValue_ok (v : GV) (hf : v.fits) (ih : ∀ (l : List GV) (H : Heap), sizes l < v.size → Len l → fitss l → FCall P 94 [.fsl 5 (encs l)] H (RVS H l)) (H : Heap) :
    FCall P 68 [.agg v.enc] H (RV H v) := by
  obtain ⟨k, n, t, l, ns⟩ := v
  obtain ⟨f1, f2, f3, f4, f5, f6, f7⟩ := hf
  have hsol : (1 : Nat) = 1 := rfl
  have hcel : (1 : Nat) = 1 := rfl
  have hcell : (1 : Nat) = 1 := rfl
  refine fcall_walk T_ok ok_68 rfl ?_
  unfold Go.Proofs.Try.f68
  simp only [Option.getD_some, envOf, Nat.zero_add, Nat.reduceAdd, GV.enc]
  repeat' (first | ((with_reducible first | apply ar_w T_ok | apply ar_w0 T_ok | apply ard_w T_ok | apply ard_w0 T_ok); (focus (simp (disch := omega) only [go_sem, Nat.reduceLT, Nat.reduceAdd, Nat.reduceLeDiff, Nat.reduceMul, Nat.reduceEqDiff, Nat.reduceBEq, reduceIte, hsol, hcel, hcell] <;> rfl)); (focus (first | rfl | (simp [okIdsB, Nat.ble_eq]; done))); (focus rfl); (focus (first | trivial | (simp only [preOK]; omega) | exact ⟨by first | trivial | rfl | omega, by assumption, by omega⟩ | (simp [preOK, AllBytes, hsol, hcel, hcell]; first | done | omega))); (focus (simp only [hsol, hcel, hcell, Heap.puts, Heap.put_app, Heap.put_app0, Heap.put_len, Heap.put, List.length_append, List.length_cons, List.length_nil, Nat.zero_add, Nat.reduceAdd] <;> rfl))) | with_reducible (first | refine aw_reg_d P_mixed ?_ | refine ar_done ?_ | refine aw_seq ?_ | refine aw_reg ?_ | refine aw_block ?_ | refine aw_skip ?_ | refine aw_exit ?_ | refine aw_ret ?_ | refine at_n ?_ | refine at_e ?_ | refine at_r ?_ | refine ab_n ?_ | refine ab_r ?_ | refine ab_e ?_ | refine ab_ne rfl ?_ | refine an_e ?_ | refine an_r ?_ | refine am_e ?_ | refine am_r ?_) | ((with_reducible apply aw_cond_f); (focus (simp only [go_sem, Nat.reduceLT, Nat.reduceAdd, Nat.reduceLeDiff, Nat.reduceMul, Nat.reduceEqDiff, Nat.reduceBEq, reduceIte, hsol, hcel, hcell] <;> rfl))) | ((with_reducible apply aw_cond_t); (focus (simp only [go_sem, Nat.reduceLT, Nat.reduceAdd, Nat.reduceLeDiff, Nat.reduceMul, Nat.reduceEqDiff, Nat.reduceBEq, reduceIte, hsol, hcel, hcell] <;> rfl))) | ((with_reducible apply aw_cond_d); (focus (simp only [go_sem, Nat.reduceLT, Nat.reduceAdd, Nat.reduceLeDiff, Nat.reduceMul, Nat.reduceEqDiff, Nat.reduceBEq, reduceIte, hsol, hcel, hcell] <;> rfl)); all_goals (intro hcond; try (exfalso; omega))) | ((with_reducible first | apply ae_r | apply ae_n); (focus (simp only [go_sem, Nat.reduceLT, Nat.reduceAdd, Nat.reduceLeDiff, Nat.reduceMul, Nat.reduceEqDiff, Nat.reduceBEq, reduceIte, hsol, hcel, hcell] <;> rfl))) | ((with_reducible apply ard_done); (focus rfl)))
  ((apply ar_fcall rfl ok_94); (focus (simp only [go_sem, Nat.reduceLT, Nat.reduceAdd, Nat.reduceLeDiff, Nat.reduceMul, Nat.reduceEqDiff, Nat.reduceBEq, reduceIte, hsol, hcel, hcell, List.map] <;> rfl)); (focus exact ih l _ (by simp only [GV.size]; omega) f4 f5); (focus rfl); (focus rfl))
  rintro aL _ ⟨N, i1, rfl, hL, hI⟩
  simp only [List.append_assoc, List.cons_append, List.nil_append] at hL hI ⊢
  clear hsol hcel hcell
  have hcell := hL.cell
  have hsol := solid_of_cell hL.cell
  have hcel := cells_of_cell hL.cell
  repeat' (first | ((with_reducible first | apply ar_w T_ok | apply ar_w0 T_ok | apply ard_w T_ok | apply ard_w0 T_ok); (focus (simp (disch := omega) only [go_sem, Nat.reduceLT, Nat.reduceAdd, Nat.reduceLeDiff, Nat.reduceMul, Nat.reduceEqDiff, Nat.reduceBEq, reduceIte, hsol, hcel, hcell] <;> rfl)); (focus (first | rfl | (simp [okIdsB, Nat.ble_eq]; done))); (focus rfl); (focus (first | trivial | (simp only [preOK]; omega) | exact ⟨by first | trivial | rfl | omega, by assumption, by omega⟩ | (simp [preOK, AllBytes, hsol, hcel, hcell]; first | done | omega))); (focus (simp only [hsol, hcel, hcell, Heap.puts, Heap.put_app, Heap.put_app0, Heap.put_len, Heap.put, List.length_append, List.length_cons, List.length_nil, Nat.zero_add, Nat.reduceAdd] <;> rfl))) | with_reducible (first | refine aw_reg_d P_mixed ?_ | refine ar_done ?_ | refine aw_seq ?_ | refine aw_reg ?_ | refine aw_block ?_ | refine aw_skip ?_ | refine aw_exit ?_ | refine aw_ret ?_ | refine at_n ?_ | refine at_e ?_ | refine at_r ?_ | refine ab_n ?_ | refine ab_r ?_ | refine ab_e ?_ | refine ab_ne rfl ?_ | refine an_e ?_ | refine an_r ?_ | refine am_e ?_ | refine am_r ?_) | ((with_reducible apply aw_cond_f); (focus (simp only [go_sem, Nat.reduceLT, Nat.reduceAdd, Nat.reduceLeDiff, Nat.reduceMul, Nat.reduceEqDiff, Nat.reduceBEq, reduceIte, hsol, hcel, hcell] <;> rfl))) | ((with_reducible apply aw_cond_t); (focus (simp only [go_sem, Nat.reduceLT, Nat.reduceAdd, Nat.reduceLeDiff, Nat.reduceMul, Nat.reduceEqDiff, Nat.reduceBEq, reduceIte, hsol, hcel, hcell] <;> rfl))) | ((with_reducible apply aw_cond_d); (focus (simp only [go_sem, Nat.reduceLT, Nat.reduceAdd, Nat.reduceLeDiff, Nat.reduceMul, Nat.reduceEqDiff, Nat.reduceBEq, reduceIte, hsol, hcel, hcell] <;> rfl)); all_goals (intro hcond; try (exfalso; omega))) | ((with_reducible first | apply ae_r | apply ae_n); (focus (simp only [go_sem, Nat.reduceLT, Nat.reduceAdd, Nat.reduceLeDiff, Nat.reduceMul, Nat.reduceEqDiff, Nat.reduceBEq, reduceIte, hsol, hcel, hcell] <;> rfl))) | ((with_reducible apply ard_done); (focus rfl)))
  ((apply ar_fcall rfl ok_95); (focus (simp only [go_sem, Nat.reduceLT, Nat.reduceAdd, Nat.reduceLeDiff, Nat.reduceMul, Nat.reduceEqDiff, Nat.reduceBEq, reduceIte, hsol, hcel, hcell, List.map] <;> rfl)); (focus exact toStringS_ok ns f6 _); (focus rfl); (focus rfl))
  rintro _ _ ⟨rfl, rfl⟩
  simp only [List.append_assoc, List.cons_append, List.nil_append]
  repeat' (first | ((with_reducible first | apply ar_w T_ok | apply ar_w0 T_ok | apply ard_w T_ok | apply ard_w0 T_ok); (focus (simp (disch := omega) only [go_sem, Nat.reduceLT, Nat.reduceAdd, Nat.reduceLeDiff, Nat.reduceMul, Nat.reduceEqDiff, Nat.reduceBEq, reduceIte, hsol, hcel, hcell] <;> rfl)); (focus (first | rfl | (simp [okIdsB, Nat.ble_eq]; done))); (focus rfl); (focus (first | trivial | (simp only [preOK]; omega) | exact ⟨by first | trivial | rfl | omega, by assumption, by omega⟩ | (simp [preOK, AllBytes, hsol, hcel, hcell]; first | done | omega))); (focus (simp only [hsol, hcel, hcell, Heap.puts, Heap.put_app, Heap.put_app0, Heap.put_len, Heap.put, List.length_append, List.length_cons, List.length_nil, Nat.zero_add, Nat.reduceAdd] <;> rfl))) | with_reducible (first | refine aw_reg_d P_mixed ?_ | refine ar_done ?_ | refine aw_seq ?_ | refine aw_reg ?_ | refine aw_block ?_ | refine aw_skip ?_ | refine aw_exit ?_ | refine aw_ret ?_ | refine at_n ?_ | refine at_e ?_ | refine at_r ?_ | refine ab_n ?_ | refine ab_r ?_ | refine ab_e ?_ | refine ab_ne rfl ?_ | refine an_e ?_ | refine an_r ?_ | refine am_e ?_ | refine am_r ?_) | ((with_reducible apply aw_cond_f); (focus (simp only [go_sem, Nat.reduceLT, Nat.reduceAdd, Nat.reduceLeDiff, Nat.reduceMul, Nat.reduceEqDiff, Nat.reduceBEq, reduceIte, hsol, hcel, hcell] <;> rfl))) | ((with_reducible apply aw_cond_t); (focus (simp only [go_sem, Nat.reduceLT, Nat.reduceAdd, Nat.reduceLeDiff, Nat.reduceMul, Nat.reduceEqDiff, Nat.reduceBEq, reduceIte, hsol, hcel, hcell] <;> rfl))) | ((with_reducible apply aw_cond_d); (focus (simp only [go_sem, Nat.reduceLT, Nat.reduceAdd, Nat.reduceLeDiff, Nat.reduceMul, Nat.reduceEqDiff, Nat.reduceBEq, reduceIte, hsol, hcel, hcell] <;> rfl)); all_goals (intro hcond; try (exfalso; omega))) | ((with_reducible first | apply ae_r | apply ae_n); (focus (simp only [go_sem, Nat.reduceLT, Nat.reduceAdd, Nat.reduceLeDiff, Nat.reduceMul, Nat.reduceEqDiff, Nat.reduceBEq, reduceIte, hsol, hcel, hcell] <;> rfl))) | ((with_reducible apply ard_done); (focus rfl)))
  have hlen : ∀ b ∈ i1, H.length + 3 ≤ b ∧ b < H.length + 3 + N.length := fun b hb => by
    have := hI.bd b hb
    simp at this; omega
  refine ⟨_, _, i1 ++ [H.length + (N.length + 1 + 1 + 1)], rfl, rfl, LV_iff.2 ⟨aL, _, i1, _, rfl, hL.mono fun b hb => ?_, .inr ⟨_, _, rfl, ?_, rfl⟩, rfl⟩, nodup_snoc hI.nodup fun b hb => ?_, fun b hb => ?_⟩
  · have := hlen b hb
    exact at_tail3 this.1 this.2
  · simp only [Heap.at_app, Heap.at_cons_succ, Heap.at_app0, Heap.at_cons_zero]
  · have := hlen b hb; omega
  · rcases List.mem_append.1 hb with h | h
    · have := hlen b h; simp; omega
    · simp at h; subst h; simp

theorem LV.shape {H : Heap} : ∀ {v : GV} {cs : List AV} {ids : List Nat}, LV H v cs ids → ∃ k n t aL aN, cs = [.int .i64 k, .int .i64 n, .str t, aL, aN] ∧ aL.isCell = true ∧ aN.isCell = true
  | ⟨k, n, t, l, ns⟩, cs, ids, h => by
    obtain ⟨aL, aN, i1, i2, h1, h2, h3, _⟩ := LV_iff.1 h
    exact ⟨k, n, t, aL, aN, h1, h2.cell, h3.cell⟩
theorem LVs.snoc {H : Heap} {v : GV} {cs : List AV} {i2 : List Nat} (hv : LV H v cs i2) : ∀ {l : List GV} {es : List (List AV)} {ids : List Nat}, LVs H l es ids → LVs H (l ++ [v]) (es ++ [cs]) (ids ++ i2)
  | [], es, ids, h => by
    obtain ⟨rfl, rfl⟩ := h
    exact ⟨cs, [], i2, [], rfl, hv, ⟨rfl, rfl⟩, by simp⟩
  | u :: r, es, ids, h => by
    obtain ⟨e, es', i1, i3, rfl, h2, h3, rfl⟩ := h
    exact ⟨e, es' ++ [cs], i1, i3 ++ i2, rfl, h2, LVs.snoc hv h3, by simp⟩

theorem toValueS_ok (l : List GV) (hl : Len l) (hf : fitss l) (ih : ∀ (v : GV) (H : Heap), v ∈ l → v.fits → FCall P 68 [.agg v.enc] H (RV H v)) (H : Heap) : FCall P 94 [.fsl 5 (encs l)] H (RVS H l) := by
  refine fcall_walk T_ok ok_94 rfl ?_
  unfold Go.Proofs.Try.f94
  simp only [Option.getD_some, envOf, Nat.zero_add, Nat.reduceAdd]
  repeat' (first | ((with_reducible first | apply ar_w T_ok | apply ar_w0 T_ok | apply ard_w T_ok | apply ard_w0 T_ok); (focus (simp (disch := omega) only [go_sem, Nat.reduceLT, Nat.reduceAdd, Nat.reduceLeDiff, Nat.reduceMul, Nat.reduceEqDiff, Nat.reduceBEq, reduceIte, encs_get, encs_len, enc_len, enc_take, enc_frz, enc_all] <;> rfl)); (focus (first | rfl | (simp [okIdsB, Nat.ble_eq]; done))); (focus rfl); (focus (first | trivial | (simp only [preOK]; omega) | exact ⟨by first | trivial | rfl | omega, by assumption, by omega⟩ | (simp [preOK, AllBytes, encs_get, encs_len, enc_len, enc_take, enc_frz, enc_all]; first | done | omega))); (focus (simp only [encs_get, encs_len, enc_len, enc_take, enc_frz, enc_all, Heap.puts, Heap.put_app, Heap.put_app0, Heap.put_len, Heap.put, List.length_append, List.length_cons, List.length_nil, Nat.zero_add, Nat.reduceAdd] <;> rfl))) | with_reducible (first | refine aw_reg_d P_mixed ?_ | refine ar_done ?_ | refine aw_seq ?_ | refine aw_reg ?_ | refine aw_block ?_ | refine aw_skip ?_ | refine aw_exit ?_ | refine aw_ret ?_ | refine at_n ?_ | refine at_e ?_ | refine at_r ?_ | refine ab_n ?_ | refine ab_r ?_ | refine ab_e ?_ | refine ab_ne rfl ?_ | refine an_e ?_ | refine an_r ?_ | refine am_e ?_ | refine am_r ?_) | ((with_reducible apply aw_cond_f); (focus (simp only [go_sem, Nat.reduceLT, Nat.reduceAdd, Nat.reduceLeDiff, Nat.reduceMul, Nat.reduceEqDiff, Nat.reduceBEq, reduceIte, encs_get, encs_len, enc_len, enc_take, enc_frz, enc_all] <;> rfl))) | ((with_reducible apply aw_cond_t); (focus (simp only [go_sem, Nat.reduceLT, Nat.reduceAdd, Nat.reduceLeDiff, Nat.reduceMul, Nat.reduceEqDiff, Nat.reduceBEq, reduceIte, encs_get, encs_len, enc_len, enc_take, enc_frz, enc_all] <;> rfl))) | ((with_reducible apply aw_cond_d); (focus (simp only [go_sem, Nat.reduceLT, Nat.reduceAdd, Nat.reduceLeDiff, Nat.reduceMul, Nat.reduceEqDiff, Nat.reduceBEq, reduceIte, encs_get, encs_len, enc_len, enc_take, enc_frz, enc_all] <;> rfl)); all_goals (intro hcond; try (exfalso; omega))) | ((with_reducible first | apply ae_r | apply ae_n); (focus (simp only [go_sem, Nat.reduceLT, Nat.reduceAdd, Nat.reduceLeDiff, Nat.reduceMul, Nat.reduceEqDiff, Nat.reduceBEq, reduceIte, encs_get, encs_len, enc_len, enc_take, enc_frz, enc_all] <;> rfl))) | ((with_reducible apply ard_done); (focus rfl)))
  refine aw_loopn (fun kk env H1 => ∃ (i : Nat) (es : List (List AV)) (N : Heap) (ids : List Nat), i ≤ l.length ∧ kk = l.length - i ∧ env = [(0, .fsl 5 (encs l)), (3, .row H.length 0 l.length (some l.length) 5), (4, .int .i64 i)] ∧
      H1 = H ++ (.row 5 (es ++ List.replicate (l.length - i) [.int .i64 0, .int .i64 0, .str [], .nsl 5, .nsl 1]) :: N) ∧ LVs H1 (l.take i) es ids ∧ ids.Nodup ∧ ∀ b ∈ ids, H.length + 1 ≤ b ∧ b < H1.length) l.length
    [(0, .fsl 5 (encs l)), (3, .row H.length 0 l.length (some l.length) 5), (4, .int .i64 0)] _ (by simp [subP, Env.get, Weak.refl]) (heapW_refl _) rfl ⟨0, [], [], [], Nat.zero_le _, rfl, rfl, rfl, ⟨rfl, rfl⟩, .nil, fun b hb => by cases hb⟩ ?_
  rintro kk env H1 ⟨i, es, N, ids, hi, hk, rfl, rfl, hL, hnd, hbd⟩
  have hA : es.length = i := by rw [hL.len]; simp; omega
  by_cases hlt : i < l.length
  · have hmem := mem_getD (d := default) hlt
    have hff := fitss_mem hf _ hmem
    repeat' (first | ((with_reducible first | apply ar_w T_ok | apply ar_w0 T_ok | apply ard_w T_ok | apply ard_w0 T_ok); (focus (simp (disch := omega) only [go_sem, Nat.reduceLT, Nat.reduceAdd, Nat.reduceLeDiff, Nat.reduceMul, Nat.reduceEqDiff, Nat.reduceBEq, reduceIte, encs_get, encs_len, enc_len, enc_take, enc_frz, enc_all] <;> rfl)); (focus (first | rfl | (simp [okIdsB, Nat.ble_eq]; done))); (focus rfl); (focus (first | trivial | (simp only [preOK]; omega) | exact ⟨by first | trivial | rfl | omega, by assumption, by omega⟩ | (simp [preOK, AllBytes, encs_get, encs_len, enc_len, enc_take, enc_frz, enc_all]; first | done | omega))); (focus (simp only [encs_get, encs_len, enc_len, enc_take, enc_frz, enc_all, Heap.puts, Heap.put_app, Heap.put_app0, Heap.put_len, Heap.put, List.length_append, List.length_cons, List.length_nil, Nat.zero_add, Nat.reduceAdd] <;> rfl))) | with_reducible (first | refine aw_reg_d P_mixed ?_ | refine ar_done ?_ | refine aw_seq ?_ | refine aw_reg ?_ | refine aw_block ?_ | refine aw_skip ?_ | refine aw_exit ?_ | refine aw_ret ?_ | refine at_n ?_ | refine at_e ?_ | refine at_r ?_ | refine ab_n ?_ | refine ab_r ?_ | refine ab_e ?_ | refine ab_ne rfl ?_ | refine an_e ?_ | refine an_r ?_ | refine am_e ?_ | refine am_r ?_) | ((with_reducible apply aw_cond_f); (focus (simp only [go_sem, Nat.reduceLT, Nat.reduceAdd, Nat.reduceLeDiff, Nat.reduceMul, Nat.reduceEqDiff, Nat.reduceBEq, reduceIte, encs_get, encs_len, enc_len, enc_take, enc_frz, enc_all] <;> rfl))) | ((with_reducible apply aw_cond_t); (focus (simp only [go_sem, Nat.reduceLT, Nat.reduceAdd, Nat.reduceLeDiff, Nat.reduceMul, Nat.reduceEqDiff, Nat.reduceBEq, reduceIte, encs_get, encs_len, enc_len, enc_take, enc_frz, enc_all] <;> rfl))) | ((with_reducible apply aw_cond_d); (focus (simp only [go_sem, Nat.reduceLT, Nat.reduceAdd, Nat.reduceLeDiff, Nat.reduceMul, Nat.reduceEqDiff, Nat.reduceBEq, reduceIte, encs_get, encs_len, enc_len, enc_take, enc_frz, enc_all] <;> rfl)); all_goals (intro hcond; try (exfalso; omega))) | ((with_reducible first | apply ae_r | apply ae_n); (focus (simp only [go_sem, Nat.reduceLT, Nat.reduceAdd, Nat.reduceLeDiff, Nat.reduceMul, Nat.reduceEqDiff, Nat.reduceBEq, reduceIte, encs_get, encs_len, enc_len, enc_take, enc_frz, enc_all] <;> rfl))) | ((with_reducible apply ard_done); (focus rfl)))
    ((apply ar_fcall rfl ok_68); (focus (simp only [go_sem, Nat.reduceLT, Nat.reduceAdd, Nat.reduceLeDiff, Nat.reduceMul, Nat.reduceEqDiff, Nat.reduceBEq, reduceIte, encs_get, encs_len, enc_len, enc_take, enc_frz, enc_all, List.map] <;> rfl)); (focus exact ih _ _ hmem hff); (focus rfl); (focus rfl))
    rintro _ _ ⟨M, cs, i2, rfl, rfl, hV, hI⟩
    simp only [List.append_assoc, List.cons_append, List.nil_append] at hV hI ⊢
    have hset := set_fill (z := [AV.int .i64 0, .int .i64 0, .str [], .nsl 5, .nsl 1]) (e := cs) hA hlt
    have hget := getD_fill (z := [AV.int .i64 0, .int .i64 0, .str [], .nsl 5, .nsl 1]) (d := []) hA hlt
    obtain ⟨k', n', t', aL, aN, rfl, hc1, hc2⟩ := hV.shape
    repeat' (first | ((with_reducible first | apply ar_w T_ok | apply ar_w0 T_ok | apply ard_w T_ok | apply ard_w0 T_ok); (focus (simp (disch := omega) only [go_sem, Nat.reduceLT, Nat.reduceAdd, Nat.reduceLeDiff, Nat.reduceMul, Nat.reduceEqDiff, Nat.reduceBEq, reduceIte, encs_get, encs_len, enc_len, enc_take, enc_frz, enc_all, hset, hget, hc1, hc2] <;> rfl)); (focus (first | rfl | (simp [okIdsB, Nat.ble_eq]; done))); (focus rfl); (focus (first | trivial | (simp only [preOK]; omega) | exact ⟨by first | trivial | rfl | omega, by assumption, by omega⟩ | (simp [preOK, AllBytes, encs_get, encs_len, enc_len, enc_take, enc_frz, enc_all, hset, hget, hc1, hc2]; first | done | omega))); (focus (simp only [encs_get, encs_len, enc_len, enc_take, enc_frz, enc_all, hset, hget, hc1, hc2, Heap.puts, Heap.put_app, Heap.put_app0, Heap.put_len, Heap.put, List.length_append, List.length_cons, List.length_nil, Nat.zero_add, Nat.reduceAdd] <;> rfl))) | with_reducible (first | refine aw_reg_d P_mixed ?_ | refine ar_done ?_ | refine aw_seq ?_ | refine aw_reg ?_ | refine aw_block ?_ | refine aw_skip ?_ | refine aw_exit ?_ | refine aw_ret ?_ | refine at_n ?_ | refine at_e ?_ | refine at_r ?_ | refine ab_n ?_ | refine ab_r ?_ | refine ab_e ?_ | refine ab_ne rfl ?_ | refine an_e ?_ | refine an_r ?_ | refine am_e ?_ | refine am_r ?_) | ((with_reducible apply aw_cond_f); (focus (simp only [go_sem, Nat.reduceLT, Nat.reduceAdd, Nat.reduceLeDiff, Nat.reduceMul, Nat.reduceEqDiff, Nat.reduceBEq, reduceIte, encs_get, encs_len, enc_len, enc_take, enc_frz, enc_all, hset, hget, hc1, hc2] <;> rfl))) | ((with_reducible apply aw_cond_t); (focus (simp only [go_sem, Nat.reduceLT, Nat.reduceAdd, Nat.reduceLeDiff, Nat.reduceMul, Nat.reduceEqDiff, Nat.reduceBEq, reduceIte, encs_get, encs_len, enc_len, enc_take, enc_frz, enc_all, hset, hget, hc1, hc2] <;> rfl))) | ((with_reducible apply aw_cond_d); (focus (simp only [go_sem, Nat.reduceLT, Nat.reduceAdd, Nat.reduceLeDiff, Nat.reduceMul, Nat.reduceEqDiff, Nat.reduceBEq, reduceIte, encs_get, encs_len, enc_len, enc_take, enc_frz, enc_all, hset, hget, hc1, hc2] <;> rfl)); all_goals (intro hcond; try (exfalso; omega))) | ((with_reducible first | apply ae_r | apply ae_n); (focus (simp only [go_sem, Nat.reduceLT, Nat.reduceAdd, Nat.reduceLeDiff, Nat.reduceMul, Nat.reduceEqDiff, Nat.reduceBEq, reduceIte, encs_get, encs_len, enc_len, enc_take, enc_frz, enc_all, hset, hget, hc1, hc2] <;> rfl))) | ((with_reducible apply ard_done); (focus rfl)))
    have hb1 : ∀ b ∈ ids, H.length + 1 ≤ b ∧ b < H.length + 1 + N.length := fun b hb => by have := hbd b hb; simp at this; omega
    have hb2 : ∀ b ∈ i2, H.length + 1 + N.length ≤ b ∧ b < H.length + 1 + (N ++ M).length := fun b hb => by have := hI.bd b hb; simp at this ⊢; omega
    refine anextn _ _ (k' := l.length - (i + 1)) (by omega) (by simp) ?_ (heapW_refl _) rfl ⟨i + 1, _, N ++ M, ids ++ i2, by omega, rfl, rfl, rfl, ?_, ?_, fun b hb => ?_⟩
    · simp [subP, Env.get, Weak.refl]
    · rw [List.take_succ_eq_append_getElem hlt, show l[i] = l.getD i default by simp [List.getD_eq_getElem?_getD, hlt]]
      refine LVs.snoc (LV.mono _ hV fun b hb => ?_) (LVs.mono _ hL fun b hb => ?_)
      · have := hb2 b hb
        exact at_tail1' (by omega) this.2
      · have := hb1 b hb
        exact at_tail1 this.1 this.2
    · rw [List.nodup_append]
      exact ⟨hnd, hI.nodup, fun x hx y hy => by have := hb1 x hx; have := hb2 y hy; omega⟩
    · rcases List.mem_append.1 hb with h | h
      · have := hb1 b h; simp; omega
      · have := hb2 b h; simp at this ⊢; omega
  · have : i = l.length := by omega
    subst this
    repeat' (first | ((with_reducible first | apply ar_w T_ok | apply ar_w0 T_ok | apply ard_w T_ok | apply ard_w0 T_ok); (focus (simp (disch := omega) only [go_sem, Nat.reduceLT, Nat.reduceAdd, Nat.reduceLeDiff, Nat.reduceMul, Nat.reduceEqDiff, Nat.reduceBEq, reduceIte, encs_get, encs_len, enc_len, enc_take, enc_frz, enc_all] <;> rfl)); (focus (first | rfl | (simp [okIdsB, Nat.ble_eq]; done))); (focus rfl); (focus (first | trivial | (simp only [preOK]; omega) | exact ⟨by first | trivial | rfl | omega, by assumption, by omega⟩ | (simp [preOK, AllBytes, encs_get, encs_len, enc_len, enc_take, enc_frz, enc_all]; first | done | omega))); (focus (simp only [encs_get, encs_len, enc_len, enc_take, enc_frz, enc_all, Heap.puts, Heap.put_app, Heap.put_app0, Heap.put_len, Heap.put, List.length_append, List.length_cons, List.length_nil, Nat.zero_add, Nat.reduceAdd] <;> rfl))) | with_reducible (first | refine aw_reg_d P_mixed ?_ | refine ar_done ?_ | refine aw_seq ?_ | refine aw_reg ?_ | refine aw_block ?_ | refine aw_skip ?_ | refine aw_exit ?_ | refine aw_ret ?_ | refine at_n ?_ | refine at_e ?_ | refine at_r ?_ | refine ab_n ?_ | refine ab_r ?_ | refine ab_e ?_ | refine ab_ne rfl ?_ | refine an_e ?_ | refine an_r ?_ | refine am_e ?_ | refine am_r ?_) | ((with_reducible apply aw_cond_f); (focus (simp only [go_sem, Nat.reduceLT, Nat.reduceAdd, Nat.reduceLeDiff, Nat.reduceMul, Nat.reduceEqDiff, Nat.reduceBEq, reduceIte, encs_get, encs_len, enc_len, enc_take, enc_frz, enc_all] <;> rfl))) | ((with_reducible apply aw_cond_t); (focus (simp only [go_sem, Nat.reduceLT, Nat.reduceAdd, Nat.reduceLeDiff, Nat.reduceMul, Nat.reduceEqDiff, Nat.reduceBEq, reduceIte, encs_get, encs_len, enc_len, enc_take, enc_frz, enc_all] <;> rfl))) | ((with_reducible apply aw_cond_d); (focus (simp only [go_sem, Nat.reduceLT, Nat.reduceAdd, Nat.reduceLeDiff, Nat.reduceMul, Nat.reduceEqDiff, Nat.reduceBEq, reduceIte, encs_get, encs_len, enc_len, enc_take, enc_frz, enc_all] <;> rfl)); all_goals (intro hcond; try (exfalso; omega))) | ((with_reducible first | apply ae_r | apply ae_n); (focus (simp only [go_sem, Nat.reduceLT, Nat.reduceAdd, Nat.reduceLeDiff, Nat.reduceMul, Nat.reduceEqDiff, Nat.reduceBEq, reduceIte, encs_get, encs_len, enc_len, enc_take, enc_frz, enc_all] <;> rfl))) | ((with_reducible apply ard_done); (focus rfl)))
    simp only [Nat.sub_self, List.replicate_zero, List.append_nil, List.take_length] at hL hbd ⊢
    refine ⟨_, H.length :: ids, rfl, .inr ⟨_, _, es, ids, rfl, ?_, hL, rfl⟩, List.nodup_cons.2 ⟨fun h => ?_, hnd⟩, fun b hb => ?_⟩
    · simp only [Heap.at_app0, Heap.at_cons_zero]
    · have := (hbd _ h).1; omega
    · rcases List.mem_cons.1 hb with h | h
      · subst h; simp
      · have := hbd b h; omega

theorem to_all (N : Nat) : (∀ (v : GV) (H : Heap), v.size < N → v.fits → FCall P 68 [.agg v.enc] H (RV H v)) ∧
    (∀ (l : List GV) (H : Heap), sizes l < N → Len l → fitss l → FCall P 94 [.fsl 5 (encs l)] H (RVS H l)) := by
  induction N with
  | zero => exact ⟨fun v H h => by omega, fun l H h => by omega⟩
  | succ N ih =>
    have h1 : ∀ (l : List GV) (H : Heap), sizes l < N + 1 → Len l → fitss l → FCall P 94 [.fsl 5 (encs l)] H (RVS H l) :=
      fun l H h c d => toValueS_ok l c d (fun v H hv g => ih.1 v H (by have := sizes_mem hv; omega) g) H
    exact ⟨fun v H h c => toValue_ok v c (fun l H hl g i => h1 l H (by omega) g i) H, h1⟩
theorem toValue_all (v : GV) (H : Heap) (hf : v.fits) : FCall P 68 [.agg v.enc] H (RV H v) := (to_all (v.size + 1)).1 v H (by omega) hf
end Go.Av
set_option linter.unusedVariables false
set_option linter.unusedSimpArgs false
namespace Go.Av
open Go
set_option maxRecDepth 10000

def LN (H : Heap) (v : GN) (cs : List AV) (ids : List Nat) : Prop := ∃ c, cs = .int .i64 v.id :: .str v.ty :: c ∧ LV H v.cells c ids
def LNs (H : Heap) : List GN → List (List AV) → List Nat → Prop
  | [], es, ids => es = [] ∧ ids = []
  | v :: r, es, ids => ∃ e es' i1 i2, es = e :: es' ∧ LN H v e i1 ∧ LNs H r es' i2 ∧ ids = i1 ++ i2
def LNS (H : Heap) (l : List GN) (a : AV) (ids : List Nat) : Prop :=
  (a = .nsl 7 ∧ l = [] ∧ ids = []) ∨ ∃ b cap es i, a = .row b 0 l.length (some cap) 7 ∧ H.at b = .row 7 es ∧ LNs H l es i ∧ ids = b :: i

theorem LN.mono {H H' : Heap} {v : GN} {cs : List AV} {ids : List Nat} (h : LN H v cs ids) (he : ∀ b ∈ ids, H'.at b = H.at b) : LN H' v cs ids := by
  obtain ⟨c, h1, h2⟩ := h
  exact ⟨c, h1, LV.mono _ h2 he⟩
theorem LNs.mono {H H' : Heap} : ∀ (l : List GN) {es : List (List AV)} {ids : List Nat}, LNs H l es ids → (∀ b ∈ ids, H'.at b = H.at b) → LNs H' l es ids
  | [], es, ids, h, he => h
  | v :: r, es, ids, h, he => by
    obtain ⟨e, es', i1, i2, h1, h2, h3, rfl⟩ := h
    exact ⟨e, es', i1, i2, h1, h2.mono fun b hb => he b (by simp [hb]), LNs.mono r h3 fun b hb => he b (by simp [hb]), rfl⟩
theorem LNS.mono {H H' : Heap} {l : List GN} {a : AV} {ids : List Nat} (h : LNS H l a ids) (he : ∀ b ∈ ids, H'.at b = H.at b) : LNS H' l a ids := by
  rcases h with h | ⟨b, cap, es, i, g1, g2, g3, rfl⟩
  · exact .inl h
  · exact .inr ⟨b, cap, es, i, g1, (he b (by simp)).trans g2, LNs.mono l g3 fun b hb => he b (by simp [hb]), rfl⟩
theorem LN.len {H : Heap} {v : GN} {cs : List AV} {ids : List Nat} (h : LN H v cs ids) : cs.length = 7 := by
  obtain ⟨c, rfl, h2⟩ := h
  simp [h2.len]
theorem LNs.len {H : Heap} : ∀ {l : List GN} {es : List (List AV)} {ids : List Nat}, LNs H l es ids → es.length = l.length
  | [], es, ids, h => by rw [h.1]; rfl
  | v :: r, es, ids, h => by obtain ⟨e, es', i1, i2, h1, _, h3, _⟩ := h; subst h1; simp [LNs.len h3]
theorem LNS.cell {H : Heap} {l : List GN} {a : AV} {ids : List Nat} (h : LNS H l a ids) : a.isCell = true := by
  rcases h with h | ⟨b, cap, es, i, h1, _⟩
  · rw [h.1]; rfl
  · rw [h1]; rfl
theorem LN.shape {H : Heap} {v : GN} {cs : List AV} {ids : List Nat} (h : LN H v cs ids) : ∃ i t k n t' aL aN, cs = [.int .i64 i, .str t, .int .i64 k, .int .i64 n, .str t', aL, aN] ∧ aL.isCell = true ∧ aN.isCell = true := by
  obtain ⟨c, rfl, h2⟩ := h
  obtain ⟨k, n, t, aL, aN, rfl, h3, h4⟩ := h2.shape
  exact ⟨_, _, k, n, t, aL, aN, rfl, h3, h4⟩
theorem LNs.snoc {H : Heap} {v : GN} {cs : List AV} {i2 : List Nat} (hv : LN H v cs i2) : ∀ {l : List GN} {es : List (List AV)} {ids : List Nat}, LNs H l es ids → LNs H (l ++ [v]) (es ++ [cs]) (ids ++ i2)
  | [], es, ids, h => by
    obtain ⟨rfl, rfl⟩ := h
    exact ⟨cs, [], i2, [], rfl, hv, ⟨rfl, rfl⟩, by simp⟩
  | u :: r, es, ids, h => by
    obtain ⟨e, es', i1, i3, rfl, h2, h3, rfl⟩ := h
    exact ⟨e, es' ++ [cs], i1, i3 ++ i2, rfl, h2, LNs.snoc hv h3, by simp⟩
theorem LN.bor {H : Heap} {S : List Nat} {v : GN} {cs : List AV} {ids : List Nat} (h : LN H v cs ids) (hS : ∀ b ∈ ids, b ∈ S) (j : Nat) (hj : j < 7) : Bor H S (cs.getD j .junk) (v.enc.getD j .junk) := by
  obtain ⟨c, rfl, h2⟩ := h
  match j, hj with
  | 0, _ => exact bor_frz rfl
  | 1, _ => exact bor_frz rfl
  | j + 2, hj => exact LV.bor _ h2 hS j (by omega)
theorem LNs.bor {H : Heap} {S : List Nat} : ∀ (l : List GN) {es : List (List AV)} {ids : List Nat}, LNs H l es ids → (∀ b ∈ ids, b ∈ S) → ∀ i j, i < l.length → j < 7 → Bor H S ((es.getD i []).getD j .junk) (((encn l).getD i []).getD j .junk)
  | v :: r, es, ids, h, hS, i, j, hi, hj => by
    obtain ⟨e, es', i1, i2, rfl, h2, h3, rfl⟩ := h
    cases i with
    | zero => exact h2.bor (fun b hb => hS b (by simp [hb])) j hj
    | succ i => exact LNs.bor r h3 (fun b hb => hS b (by simp [hb])) i j (by simpa using hi) hj
theorem LNS.bor {H : Heap} {l : List GN} {a : AV} {ids S : List Nat} (h : LNS H l a ids) (hS : ∀ b ∈ ids, b ∈ S) : Bor H S a (.fsl 7 (encn l)) := by
  rcases h with ⟨rfl, rfl, _⟩ | ⟨b, cap, es, i, rfl, g2, g3, rfl⟩
  · exact bor_frz rfl
  · refine bor_row (hS b (by simp)) g2 g3.len.symm (encn_len l) (fun x hx => ?_) fun i j hi hj => LNs.bor l g3 (fun b hb => hS b (by simp [hb])) i j hi hj
    simp [encn] at hx; obtain ⟨y, _, rfl⟩ := hx; exact nenc_len y

def RN (H : Heap) (v : GN) (r : AV) (H' : Heap) : Prop := ∃ N cs ids, H' = H ++ N ∧ r = .agg cs ∧ LN H' v cs ids ∧ Ids H H' ids
def RNS (H : Heap) (l : List GN) (r : AV) (H' : Heap) : Prop := ∃ N ids, H' = H ++ N ∧ LNS H' l r ids ∧ Ids H H' ids

theorem toNode_ok (v : GN) (hf : v.fits) (H : Heap) : FCall P 29 [.agg v.enc] H (RN H v) := by
  obtain ⟨id, ty, c⟩ := v
  obtain ⟨f1, f2, f3⟩ := hf
  dsimp only at f1 f2 f3
  refine fcall_walk T_ok ok_29 rfl ?_
  unfold Go.Proofs.Try.f29
  simp only [Option.getD_some, envOf, Nat.zero_add, Nat.reduceAdd, GN.enc]
  repeat' (first | ((with_reducible first | apply ar_w T_ok | apply ar_w0 T_ok | apply ard_w T_ok | apply ard_w0 T_ok); (focus (simp (disch := omega) only [go_sem, Nat.reduceLT, Nat.reduceAdd, Nat.reduceLeDiff, Nat.reduceMul, Nat.reduceEqDiff, Nat.reduceBEq, reduceIte, GN.enc, enc_len, enc_take, enc_frz, enc_all] <;> rfl)); (focus (first | rfl | (simp [okIdsB, Nat.ble_eq]; done))); (focus rfl); (focus (first | trivial | (simp only [preOK]; omega) | exact ⟨by first | trivial | rfl | omega, by assumption, by omega⟩ | (simp [preOK, AllBytes, GN.enc, enc_len, enc_take, enc_frz, enc_all]; first | done | omega))); (focus (simp only [GN.enc, enc_len, enc_take, enc_frz, enc_all, Heap.puts, Heap.put_app, Heap.put_app0, Heap.put_len, Heap.put, List.length_append, List.length_cons, List.length_nil, Nat.zero_add, Nat.reduceAdd] <;> rfl))) | with_reducible (first | refine aw_reg_d P_mixed ?_ | refine ar_done ?_ | refine aw_seq ?_ | refine aw_reg ?_ | refine aw_block ?_ | refine aw_skip ?_ | refine aw_exit ?_ | refine aw_ret ?_ | refine at_n ?_ | refine at_e ?_ | refine at_r ?_ | refine ab_n ?_ | refine ab_r ?_ | refine ab_e ?_ | refine ab_ne rfl ?_ | refine an_e ?_ | refine an_r ?_ | refine am_e ?_ | refine am_r ?_) | ((with_reducible apply aw_cond_f); (focus (simp only [go_sem, Nat.reduceLT, Nat.reduceAdd, Nat.reduceLeDiff, Nat.reduceMul, Nat.reduceEqDiff, Nat.reduceBEq, reduceIte, GN.enc, enc_len, enc_take, enc_frz, enc_all] <;> rfl))) | ((with_reducible apply aw_cond_t); (focus (simp only [go_sem, Nat.reduceLT, Nat.reduceAdd, Nat.reduceLeDiff, Nat.reduceMul, Nat.reduceEqDiff, Nat.reduceBEq, reduceIte, GN.enc, enc_len, enc_take, enc_frz, enc_all] <;> rfl))) | ((with_reducible apply aw_cond_d); (focus (simp only [go_sem, Nat.reduceLT, Nat.reduceAdd, Nat.reduceLeDiff, Nat.reduceMul, Nat.reduceEqDiff, Nat.reduceBEq, reduceIte, GN.enc, enc_len, enc_take, enc_frz, enc_all] <;> rfl)); all_goals (intro hcond; try (exfalso; omega))) | ((with_reducible first | apply ae_r | apply ae_n); (focus (simp only [go_sem, Nat.reduceLT, Nat.reduceAdd, Nat.reduceLeDiff, Nat.reduceMul, Nat.reduceEqDiff, Nat.reduceBEq, reduceIte, GN.enc, enc_len, enc_take, enc_frz, enc_all] <;> rfl))) | ((with_reducible apply ard_done); (focus rfl)))
  ((apply ar_fcall rfl ok_68); (focus (simp only [go_sem, Nat.reduceLT, Nat.reduceAdd, Nat.reduceLeDiff, Nat.reduceMul, Nat.reduceEqDiff, Nat.reduceBEq, reduceIte, GN.enc, enc_len, enc_take, enc_frz, enc_all, List.map] <;> rfl)); (focus exact toValue_all c _ f3); (focus rfl); (focus rfl))
  rintro _ _ ⟨N, cs, i1, rfl, rfl, hV, hI⟩
  simp only [List.append_assoc, List.cons_append, List.nil_append] at hV hI ⊢
  obtain ⟨k', n', t', aL, aN, rfl, hc1, hc2⟩ := hV.shape
  repeat' (first | ((with_reducible first | apply ar_w T_ok | apply ar_w0 T_ok | apply ard_w T_ok | apply ard_w0 T_ok); (focus (simp (disch := omega) only [go_sem, Nat.reduceLT, Nat.reduceAdd, Nat.reduceLeDiff, Nat.reduceMul, Nat.reduceEqDiff, Nat.reduceBEq, reduceIte, GN.enc, enc_len, enc_take, enc_frz, enc_all, hc1, hc2] <;> rfl)); (focus (first | rfl | (simp [okIdsB, Nat.ble_eq]; done))); (focus rfl); (focus (first | trivial | (simp only [preOK]; omega) | exact ⟨by first | trivial | rfl | omega, by assumption, by omega⟩ | (simp [preOK, AllBytes, GN.enc, enc_len, enc_take, enc_frz, enc_all, hc1, hc2]; first | done | omega))); (focus (simp only [GN.enc, enc_len, enc_take, enc_frz, enc_all, hc1, hc2, Heap.puts, Heap.put_app, Heap.put_app0, Heap.put_len, Heap.put, List.length_append, List.length_cons, List.length_nil, Nat.zero_add, Nat.reduceAdd] <;> rfl))) | with_reducible (first | refine aw_reg_d P_mixed ?_ | refine ar_done ?_ | refine aw_seq ?_ | refine aw_reg ?_ | refine aw_block ?_ | refine aw_skip ?_ | refine aw_exit ?_ | refine aw_ret ?_ | refine at_n ?_ | refine at_e ?_ | refine at_r ?_ | refine ab_n ?_ | refine ab_r ?_ | refine ab_e ?_ | refine ab_ne rfl ?_ | refine an_e ?_ | refine an_r ?_ | refine am_e ?_ | refine am_r ?_) | ((with_reducible apply aw_cond_f); (focus (simp only [go_sem, Nat.reduceLT, Nat.reduceAdd, Nat.reduceLeDiff, Nat.reduceMul, Nat.reduceEqDiff, Nat.reduceBEq, reduceIte, GN.enc, enc_len, enc_take, enc_frz, enc_all, hc1, hc2] <;> rfl))) | ((with_reducible apply aw_cond_t); (focus (simp only [go_sem, Nat.reduceLT, Nat.reduceAdd, Nat.reduceLeDiff, Nat.reduceMul, Nat.reduceEqDiff, Nat.reduceBEq, reduceIte, GN.enc, enc_len, enc_take, enc_frz, enc_all, hc1, hc2] <;> rfl))) | ((with_reducible apply aw_cond_d); (focus (simp only [go_sem, Nat.reduceLT, Nat.reduceAdd, Nat.reduceLeDiff, Nat.reduceMul, Nat.reduceEqDiff, Nat.reduceBEq, reduceIte, GN.enc, enc_len, enc_take, enc_frz, enc_all, hc1, hc2] <;> rfl)); all_goals (intro hcond; try (exfalso; omega))) | ((with_reducible first | apply ae_r | apply ae_n); (focus (simp only [go_sem, Nat.reduceLT, Nat.reduceAdd, Nat.reduceLeDiff, Nat.reduceMul, Nat.reduceEqDiff, Nat.reduceBEq, reduceIte, GN.enc, enc_len, enc_take, enc_frz, enc_all, hc1, hc2] <;> rfl))) | ((with_reducible apply ard_done); (focus rfl)))
  have hlen : ∀ b ∈ i1, H.length + 3 ≤ b ∧ b < H.length + 3 + N.length := fun b hb => by
    have := hI.bd b hb
    simp at this; omega
  refine ⟨_, _, i1, rfl, rfl, ⟨_, rfl, LV.mono _ hV fun b hb => ?_⟩, hI.nodup, fun b hb => ?_⟩
  · have := hlen b hb
    exact at_tail3' this.1 this.2
  · have := hlen b hb; simp; omega
theorem nenc_all (v : GN) : v.enc.all AV.isCell = true := by
  obtain ⟨a, b, c⟩ := v; cases c; rfl

theorem toNodeS_ok (l : List GN) (hl : Len l) (hf : ∀ v ∈ l, v.fits) (H : Heap) : FCall P 8 [.fsl 7 (encn l)] H (RNS H l) := by
  refine fcall_walk T_ok ok_8 rfl ?_
  unfold Go.Proofs.Try.f8
  simp only [Option.getD_some, envOf, Nat.zero_add, Nat.reduceAdd]
  repeat' (first | ((with_reducible first | apply ar_w T_ok | apply ar_w0 T_ok | apply ard_w T_ok | apply ard_w0 T_ok); (focus (simp (disch := omega) only [go_sem, Nat.reduceLT, Nat.reduceAdd, Nat.reduceLeDiff, Nat.reduceMul, Nat.reduceEqDiff, Nat.reduceBEq, reduceIte, encn_get, encn_len, nenc_len, nenc_take, nenc_frz, nenc_all] <;> rfl)); (focus (first | rfl | (simp [okIdsB, Nat.ble_eq]; done))); (focus rfl); (focus (first | trivial | (simp only [preOK]; omega) | exact ⟨by first | trivial | rfl | omega, by assumption, by omega⟩ | (simp [preOK, AllBytes, encn_get, encn_len, nenc_len, nenc_take, nenc_frz, nenc_all]; first | done | omega))); (focus (simp only [encn_get, encn_len, nenc_len, nenc_take, nenc_frz, nenc_all, Heap.puts, Heap.put_app, Heap.put_app0, Heap.put_len, Heap.put, List.length_append, List.length_cons, List.length_nil, Nat.zero_add, Nat.reduceAdd] <;> rfl))) | with_reducible (first | refine aw_reg_d P_mixed ?_ | refine ar_done ?_ | refine aw_seq ?_ | refine aw_reg ?_ | refine aw_block ?_ | refine aw_skip ?_ | refine aw_exit ?_ | refine aw_ret ?_ | refine at_n ?_ | refine at_e ?_ | refine at_r ?_ | refine ab_n ?_ | refine ab_r ?_ | refine ab_e ?_ | refine ab_ne rfl ?_ | refine an_e ?_ | refine an_r ?_ | refine am_e ?_ | refine am_r ?_) | ((with_reducible apply aw_cond_f); (focus (simp only [go_sem, Nat.reduceLT, Nat.reduceAdd, Nat.reduceLeDiff, Nat.reduceMul, Nat.reduceEqDiff, Nat.reduceBEq, reduceIte, encn_get, encn_len, nenc_len, nenc_take, nenc_frz, nenc_all] <;> rfl))) | ((with_reducible apply aw_cond_t); (focus (simp only [go_sem, Nat.reduceLT, Nat.reduceAdd, Nat.reduceLeDiff, Nat.reduceMul, Nat.reduceEqDiff, Nat.reduceBEq, reduceIte, encn_get, encn_len, nenc_len, nenc_take, nenc_frz, nenc_all] <;> rfl))) | ((with_reducible apply aw_cond_d); (focus (simp only [go_sem, Nat.reduceLT, Nat.reduceAdd, Nat.reduceLeDiff, Nat.reduceMul, Nat.reduceEqDiff, Nat.reduceBEq, reduceIte, encn_get, encn_len, nenc_len, nenc_take, nenc_frz, nenc_all] <;> rfl)); all_goals (intro hcond; try (exfalso; omega))) | ((with_reducible first | apply ae_r | apply ae_n); (focus (simp only [go_sem, Nat.reduceLT, Nat.reduceAdd, Nat.reduceLeDiff, Nat.reduceMul, Nat.reduceEqDiff, Nat.reduceBEq, reduceIte, encn_get, encn_len, nenc_len, nenc_take, nenc_frz, nenc_all] <;> rfl))) | ((with_reducible apply ard_done); (focus rfl)))
  refine aw_loopn (fun kk env H1 => ∃ (i : Nat) (es : List (List AV)) (N : Heap) (ids : List Nat), i ≤ l.length ∧ kk = l.length - i ∧ env = [(0, .fsl 7 (encn l)), (3, .row H.length 0 l.length (some l.length) 7), (4, .int .i64 i)] ∧
      H1 = H ++ (.row 7 (es ++ List.replicate (l.length - i) [.int .i64 0, .str [], .int .i64 0, .int .i64 0, .str [], .nsl 5, .nsl 1]) :: N) ∧ LNs H1 (l.take i) es ids ∧ ids.Nodup ∧ ∀ b ∈ ids, H.length + 1 ≤ b ∧ b < H1.length) l.length
    [(0, .fsl 7 (encn l)), (3, .row H.length 0 l.length (some l.length) 7), (4, .int .i64 0)] _ (by simp [subP, Env.get, Weak.refl]) (heapW_refl _) rfl ⟨0, [], [], [], Nat.zero_le _, rfl, rfl, rfl, ⟨rfl, rfl⟩, .nil, fun b hb => by cases hb⟩ ?_
  rintro kk env H1 ⟨i, es, N, ids, hi, hk, rfl, rfl, hL, hnd, hbd⟩
  have hA : es.length = i := by rw [hL.len]; simp; omega
  by_cases hlt : i < l.length
  · have hmem := mem_getD (d := default) hlt
    have hff := hf _ hmem
    repeat' (first | ((with_reducible first | apply ar_w T_ok | apply ar_w0 T_ok | apply ard_w T_ok | apply ard_w0 T_ok); (focus (simp (disch := omega) only [go_sem, Nat.reduceLT, Nat.reduceAdd, Nat.reduceLeDiff, Nat.reduceMul, Nat.reduceEqDiff, Nat.reduceBEq, reduceIte, encn_get, encn_len, nenc_len, nenc_take, nenc_frz, nenc_all] <;> rfl)); (focus (first | rfl | (simp [okIdsB, Nat.ble_eq]; done))); (focus rfl); (focus (first | trivial | (simp only [preOK]; omega) | exact ⟨by first | trivial | rfl | omega, by assumption, by omega⟩ | (simp [preOK, AllBytes, encn_get, encn_len, nenc_len, nenc_take, nenc_frz, nenc_all]; first | done | omega))); (focus (simp only [encn_get, encn_len, nenc_len, nenc_take, nenc_frz, nenc_all, Heap.puts, Heap.put_app, Heap.put_app0, Heap.put_len, Heap.put, List.length_append, List.length_cons, List.length_nil, Nat.zero_add, Nat.reduceAdd] <;> rfl))) | with_reducible (first | refine aw_reg_d P_mixed ?_ | refine ar_done ?_ | refine aw_seq ?_ | refine aw_reg ?_ | refine aw_block ?_ | refine aw_skip ?_ | refine aw_exit ?_ | refine aw_ret ?_ | refine at_n ?_ | refine at_e ?_ | refine at_r ?_ | refine ab_n ?_ | refine ab_r ?_ | refine ab_e ?_ | refine ab_ne rfl ?_ | refine an_e ?_ | refine an_r ?_ | refine am_e ?_ | refine am_r ?_) | ((with_reducible apply aw_cond_f); (focus (simp only [go_sem, Nat.reduceLT, Nat.reduceAdd, Nat.reduceLeDiff, Nat.reduceMul, Nat.reduceEqDiff, Nat.reduceBEq, reduceIte, encn_get, encn_len, nenc_len, nenc_take, nenc_frz, nenc_all] <;> rfl))) | ((with_reducible apply aw_cond_t); (focus (simp only [go_sem, Nat.reduceLT, Nat.reduceAdd, Nat.reduceLeDiff, Nat.reduceMul, Nat.reduceEqDiff, Nat.reduceBEq, reduceIte, encn_get, encn_len, nenc_len, nenc_take, nenc_frz, nenc_all] <;> rfl))) | ((with_reducible apply aw_cond_d); (focus (simp only [go_sem, Nat.reduceLT, Nat.reduceAdd, Nat.reduceLeDiff, Nat.reduceMul, Nat.reduceEqDiff, Nat.reduceBEq, reduceIte, encn_get, encn_len, nenc_len, nenc_take, nenc_frz, nenc_all] <;> rfl)); all_goals (intro hcond; try (exfalso; omega))) | ((with_reducible first | apply ae_r | apply ae_n); (focus (simp only [go_sem, Nat.reduceLT, Nat.reduceAdd, Nat.reduceLeDiff, Nat.reduceMul, Nat.reduceEqDiff, Nat.reduceBEq, reduceIte, encn_get, encn_len, nenc_len, nenc_take, nenc_frz, nenc_all] <;> rfl))) | ((with_reducible apply ard_done); (focus rfl)))
    ((apply ar_fcall rfl ok_29); (focus (simp only [go_sem, Nat.reduceLT, Nat.reduceAdd, Nat.reduceLeDiff, Nat.reduceMul, Nat.reduceEqDiff, Nat.reduceBEq, reduceIte, encn_get, encn_len, nenc_len, nenc_take, nenc_frz, nenc_all, List.map] <;> rfl)); (focus exact toNode_ok _ hff _); (focus rfl); (focus rfl))
    rintro _ _ ⟨M, cs, i2, rfl, rfl, hV, hI⟩
    simp only [List.append_assoc, List.cons_append, List.nil_append] at hV hI ⊢
    have hset := set_fill (z := [AV.int .i64 0, .str [], .int .i64 0, .int .i64 0, .str [], .nsl 5, .nsl 1]) (e := cs) hA hlt
    have hget := getD_fill (z := [AV.int .i64 0, .str [], .int .i64 0, .int .i64 0, .str [], .nsl 5, .nsl 1]) (d := []) hA hlt
    obtain ⟨i', ty', k', n', t', aL, aN, rfl, hc1, hc2⟩ := hV.shape
    repeat' (first | ((with_reducible first | apply ar_w T_ok | apply ar_w0 T_ok | apply ard_w T_ok | apply ard_w0 T_ok); (focus (simp (disch := omega) only [go_sem, Nat.reduceLT, Nat.reduceAdd, Nat.reduceLeDiff, Nat.reduceMul, Nat.reduceEqDiff, Nat.reduceBEq, reduceIte, encn_get, encn_len, nenc_len, nenc_take, nenc_frz, nenc_all, hset, hget, hc1, hc2] <;> rfl)); (focus (first | rfl | (simp [okIdsB, Nat.ble_eq]; done))); (focus rfl); (focus (first | trivial | (simp only [preOK]; omega) | exact ⟨by first | trivial | rfl | omega, by assumption, by omega⟩ | (simp [preOK, AllBytes, encn_get, encn_len, nenc_len, nenc_take, nenc_frz, nenc_all, hset, hget, hc1, hc2]; first | done | omega))); (focus (simp only [encn_get, encn_len, nenc_len, nenc_take, nenc_frz, nenc_all, hset, hget, hc1, hc2, Heap.puts, Heap.put_app, Heap.put_app0, Heap.put_len, Heap.put, List.length_append, List.length_cons, List.length_nil, Nat.zero_add, Nat.reduceAdd] <;> rfl))) | with_reducible (first | refine aw_reg_d P_mixed ?_ | refine ar_done ?_ | refine aw_seq ?_ | refine aw_reg ?_ | refine aw_block ?_ | refine aw_skip ?_ | refine aw_exit ?_ | refine aw_ret ?_ | refine at_n ?_ | refine at_e ?_ | refine at_r ?_ | refine ab_n ?_ | refine ab_r ?_ | refine ab_e ?_ | refine ab_ne rfl ?_ | refine an_e ?_ | refine an_r ?_ | refine am_e ?_ | refine am_r ?_) | ((with_reducible apply aw_cond_f); (focus (simp only [go_sem, Nat.reduceLT, Nat.reduceAdd, Nat.reduceLeDiff, Nat.reduceMul, Nat.reduceEqDiff, Nat.reduceBEq, reduceIte, encn_get, encn_len, nenc_len, nenc_take, nenc_frz, nenc_all, hset, hget, hc1, hc2] <;> rfl))) | ((with_reducible apply aw_cond_t); (focus (simp only [go_sem, Nat.reduceLT, Nat.reduceAdd, Nat.reduceLeDiff, Nat.reduceMul, Nat.reduceEqDiff, Nat.reduceBEq, reduceIte, encn_get, encn_len, nenc_len, nenc_take, nenc_frz, nenc_all, hset, hget, hc1, hc2] <;> rfl))) | ((with_reducible apply aw_cond_d); (focus (simp only [go_sem, Nat.reduceLT, Nat.reduceAdd, Nat.reduceLeDiff, Nat.reduceMul, Nat.reduceEqDiff, Nat.reduceBEq, reduceIte, encn_get, encn_len, nenc_len, nenc_take, nenc_frz, nenc_all, hset, hget, hc1, hc2] <;> rfl)); all_goals (intro hcond; try (exfalso; omega))) | ((with_reducible first | apply ae_r | apply ae_n); (focus (simp only [go_sem, Nat.reduceLT, Nat.reduceAdd, Nat.reduceLeDiff, Nat.reduceMul, Nat.reduceEqDiff, Nat.reduceBEq, reduceIte, encn_get, encn_len, nenc_len, nenc_take, nenc_frz, nenc_all, hset, hget, hc1, hc2] <;> rfl))) | ((with_reducible apply ard_done); (focus rfl)))
    have hb1 : ∀ b ∈ ids, H.length + 1 ≤ b ∧ b < H.length + 1 + N.length := fun b hb => by have := hbd b hb; simp at this; omega
    have hb2 : ∀ b ∈ i2, H.length + 1 + N.length ≤ b ∧ b < H.length + 1 + (N ++ M).length := fun b hb => by have := hI.bd b hb; simp at this ⊢; omega
    refine anextn _ _ (k' := l.length - (i + 1)) (by omega) (by simp) ?_ (heapW_refl _) rfl ⟨i + 1, _, N ++ M, ids ++ i2, by omega, rfl, rfl, rfl, ?_, ?_, fun b hb => ?_⟩
    · simp [subP, Env.get, Weak.refl]
    · rw [List.take_succ_eq_append_getElem hlt, show l[i] = l.getD i default by simp [List.getD_eq_getElem?_getD, hlt]]
      refine LNs.snoc (hV.mono fun b hb => ?_) (LNs.mono _ hL fun b hb => ?_)
      · have := hb2 b hb
        exact at_tail1' (by omega) this.2
      · have := hb1 b hb
        exact at_tail1 this.1 this.2
    · rw [List.nodup_append]
      exact ⟨hnd, hI.nodup, fun x hx y hy => by have := hb1 x hx; have := hb2 y hy; omega⟩
    · rcases List.mem_append.1 hb with h | h
      · have := hb1 b h; simp; omega
      · have := hb2 b h; simp at this ⊢; omega
  · have : i = l.length := by omega
    subst this
    repeat' (first | ((with_reducible first | apply ar_w T_ok | apply ar_w0 T_ok | apply ard_w T_ok | apply ard_w0 T_ok); (focus (simp (disch := omega) only [go_sem, Nat.reduceLT, Nat.reduceAdd, Nat.reduceLeDiff, Nat.reduceMul, Nat.reduceEqDiff, Nat.reduceBEq, reduceIte, encn_get, encn_len, nenc_len, nenc_take, nenc_frz, nenc_all] <;> rfl)); (focus (first | rfl | (simp [okIdsB, Nat.ble_eq]; done))); (focus rfl); (focus (first | trivial | (simp only [preOK]; omega) | exact ⟨by first | trivial | rfl | omega, by assumption, by omega⟩ | (simp [preOK, AllBytes, encn_get, encn_len, nenc_len, nenc_take, nenc_frz, nenc_all]; first | done | omega))); (focus (simp only [encn_get, encn_len, nenc_len, nenc_take, nenc_frz, nenc_all, Heap.puts, Heap.put_app, Heap.put_app0, Heap.put_len, Heap.put, List.length_append, List.length_cons, List.length_nil, Nat.zero_add, Nat.reduceAdd] <;> rfl))) | with_reducible (first | refine aw_reg_d P_mixed ?_ | refine ar_done ?_ | refine aw_seq ?_ | refine aw_reg ?_ | refine aw_block ?_ | refine aw_skip ?_ | refine aw_exit ?_ | refine aw_ret ?_ | refine at_n ?_ | refine at_e ?_ | refine at_r ?_ | refine ab_n ?_ | refine ab_r ?_ | refine ab_e ?_ | refine ab_ne rfl ?_ | refine an_e ?_ | refine an_r ?_ | refine am_e ?_ | refine am_r ?_) | ((with_reducible apply aw_cond_f); (focus (simp only [go_sem, Nat.reduceLT, Nat.reduceAdd, Nat.reduceLeDiff, Nat.reduceMul, Nat.reduceEqDiff, Nat.reduceBEq, reduceIte, encn_get, encn_len, nenc_len, nenc_take, nenc_frz, nenc_all] <;> rfl))) | ((with_reducible apply aw_cond_t); (focus (simp only [go_sem, Nat.reduceLT, Nat.reduceAdd, Nat.reduceLeDiff, Nat.reduceMul, Nat.reduceEqDiff, Nat.reduceBEq, reduceIte, encn_get, encn_len, nenc_len, nenc_take, nenc_frz, nenc_all] <;> rfl))) | ((with_reducible apply aw_cond_d); (focus (simp only [go_sem, Nat.reduceLT, Nat.reduceAdd, Nat.reduceLeDiff, Nat.reduceMul, Nat.reduceEqDiff, Nat.reduceBEq, reduceIte, encn_get, encn_len, nenc_len, nenc_take, nenc_frz, nenc_all] <;> rfl)); all_goals (intro hcond; try (exfalso; omega))) | ((with_reducible first | apply ae_r | apply ae_n); (focus (simp only [go_sem, Nat.reduceLT, Nat.reduceAdd, Nat.reduceLeDiff, Nat.reduceMul, Nat.reduceEqDiff, Nat.reduceBEq, reduceIte, encn_get, encn_len, nenc_len, nenc_take, nenc_frz, nenc_all] <;> rfl))) | ((with_reducible apply ard_done); (focus rfl)))
    simp only [Nat.sub_self, List.replicate_zero, List.append_nil, List.take_length] at hL hbd ⊢
    refine ⟨_, H.length :: ids, rfl, .inr ⟨_, _, es, ids, rfl, ?_, hL, rfl⟩, List.nodup_cons.2 ⟨fun h => ?_, hnd⟩, fun b hb => ?_⟩
    · simp only [Heap.at_app0, Heap.at_cons_zero]
    · have := (hbd _ h).1; omega
    · rcases List.mem_cons.1 hb with h | h
      · subst h; simp
      · have := hbd b h; omega

end Go.Av
set_option linter.unusedVariables false
set_option linter.unusedSimpArgs false
namespace Go.Av
open Go
set_option maxRecDepth 10000

def mtD : Nat → Nat → List UInt8 → List UInt8
  | 0, _, out => out
  | f + 1, k, out => if k = 0 then out else mtD f (k / 10) (UInt8.ofNat (48 + k % 10) :: out)
def mt (k : Nat) : List UInt8 := 109 :: mtD k k []

theorem markText_ok (k : Nat) (h1 : 1 ≤ k) (h2 : k ≤ 4611686018427387904) : PCall P 33 [.int .i64 k] (.str (mt k)) := by
  refine pcall_of_fcall (fcall_walk T_ok ok_33 rfl ?_)
  unfold Go.Proofs.Try.f33
  simp only [Option.getD_some, envOf, Nat.zero_add, Nat.reduceAdd]
  repeat' (first | ((with_reducible first | apply ar_w T_ok | apply ar_w0 T_ok | apply ard_w T_ok | apply ard_w0 T_ok); (focus (simp (disch := omega) only [go_sem, Nat.reduceLT, Nat.reduceAdd, Nat.reduceLeDiff, Nat.reduceMul, Nat.reduceEqDiff, Nat.reduceBEq, reduceIte, List.nil_append] <;> rfl)); (focus (first | rfl | (simp [okIdsB, Nat.ble_eq]; done))); (focus rfl); (focus (first | trivial | (simp only [preOK]; omega) | exact ⟨by first | trivial | rfl | omega, by assumption, by omega⟩ | (simp [preOK, AllBytes, List.nil_append]; first | done | omega))); (focus (simp only [List.nil_append, Heap.puts, Heap.put_app, Heap.put_app0, Heap.put_len, Heap.put, List.length_append, List.length_cons, List.length_nil, Nat.zero_add, Nat.reduceAdd] <;> rfl))) | with_reducible (first | refine aw_reg_d P_mixed ?_ | refine ar_done ?_ | refine aw_seq ?_ | refine aw_reg ?_ | refine aw_block ?_ | refine aw_skip ?_ | refine aw_exit ?_ | refine aw_ret ?_ | refine at_n ?_ | refine at_e ?_ | refine at_r ?_ | refine ab_n ?_ | refine ab_r ?_ | refine ab_e ?_ | refine ab_ne rfl ?_ | refine an_e ?_ | refine an_r ?_ | refine am_e ?_ | refine am_r ?_) | ((with_reducible apply aw_cond_f); (focus (simp only [go_sem, Nat.reduceLT, Nat.reduceAdd, Nat.reduceLeDiff, Nat.reduceMul, Nat.reduceEqDiff, Nat.reduceBEq, reduceIte, List.nil_append] <;> rfl))) | ((with_reducible apply aw_cond_t); (focus (simp only [go_sem, Nat.reduceLT, Nat.reduceAdd, Nat.reduceLeDiff, Nat.reduceMul, Nat.reduceEqDiff, Nat.reduceBEq, reduceIte, List.nil_append] <;> rfl))) | ((with_reducible apply aw_cond_d); (focus (simp only [go_sem, Nat.reduceLT, Nat.reduceAdd, Nat.reduceLeDiff, Nat.reduceMul, Nat.reduceEqDiff, Nat.reduceBEq, reduceIte, List.nil_append] <;> rfl)); all_goals (intro hcond; try (exfalso; omega))) | ((with_reducible first | apply ae_r | apply ae_n); (focus (simp only [go_sem, Nat.reduceLT, Nat.reduceAdd, Nat.reduceLeDiff, Nat.reduceMul, Nat.reduceEqDiff, Nat.reduceBEq, reduceIte, List.nil_append] <;> rfl))) | ((with_reducible apply ard_done); (focus rfl)))
  refine aw_loopc (fun kk env H => ∃ (f m : Nat) (out : List UInt8), m ≤ f ∧ kk = m ∧ mtD f m out = mtD k k [] ∧ out.length + m ≤ k ∧ H = [] ∧ env = [(0, .int .i64 m), (3, .str out)]) k
      [(0, .int .i64 k), (3, .str [])] [] (by simp [subP, Env.get, Weak.refl]) rfl trivial rfl rfl ⟨k, k, [], Nat.le_refl _, rfl, rfl, by simp, rfl, rfl⟩ ?_
  rintro kk env H ⟨f, m, out, hf, hk, hgo, hlen, rfl, rfl⟩
  by_cases hlt : 0 < m
  · obtain ⟨f, rfl⟩ : ∃ f', f = f' + 1 := ⟨f - 1, by omega⟩
    rw [mtD, if_neg (by omega)] at hgo
    repeat' (first | ((with_reducible first | apply ar_w T_ok | apply ar_w0 T_ok | apply ard_w T_ok | apply ard_w0 T_ok); (focus (simp (disch := omega) only [go_sem, Nat.reduceLT, Nat.reduceAdd, Nat.reduceLeDiff, Nat.reduceMul, Nat.reduceEqDiff, Nat.reduceBEq, reduceIte, List.nil_append] <;> rfl)); (focus (first | rfl | (simp [okIdsB, Nat.ble_eq]; done))); (focus rfl); (focus (first | trivial | (simp only [preOK]; omega) | exact ⟨by first | trivial | rfl | omega, by assumption, by omega⟩ | (simp [preOK, AllBytes, List.nil_append]; first | done | omega))); (focus (simp only [List.nil_append, Heap.puts, Heap.put_app, Heap.put_app0, Heap.put_len, Heap.put, List.length_append, List.length_cons, List.length_nil, Nat.zero_add, Nat.reduceAdd] <;> rfl))) | with_reducible (first | refine aw_reg_d P_mixed ?_ | refine ar_done ?_ | refine aw_seq ?_ | refine aw_reg ?_ | refine aw_block ?_ | refine aw_skip ?_ | refine aw_exit ?_ | refine aw_ret ?_ | refine at_n ?_ | refine at_e ?_ | refine at_r ?_ | refine ab_n ?_ | refine ab_r ?_ | refine ab_e ?_ | refine ab_ne rfl ?_ | refine an_e ?_ | refine an_r ?_ | refine am_e ?_ | refine am_r ?_) | ((with_reducible apply aw_cond_f); (focus (simp only [go_sem, Nat.reduceLT, Nat.reduceAdd, Nat.reduceLeDiff, Nat.reduceMul, Nat.reduceEqDiff, Nat.reduceBEq, reduceIte, List.nil_append] <;> rfl))) | ((with_reducible apply aw_cond_t); (focus (simp only [go_sem, Nat.reduceLT, Nat.reduceAdd, Nat.reduceLeDiff, Nat.reduceMul, Nat.reduceEqDiff, Nat.reduceBEq, reduceIte, List.nil_append] <;> rfl))) | ((with_reducible apply aw_cond_d); (focus (simp only [go_sem, Nat.reduceLT, Nat.reduceAdd, Nat.reduceLeDiff, Nat.reduceMul, Nat.reduceEqDiff, Nat.reduceBEq, reduceIte, List.nil_append] <;> rfl)); all_goals (intro hcond; try (exfalso; omega))) | ((with_reducible first | apply ae_r | apply ae_n); (focus (simp only [go_sem, Nat.reduceLT, Nat.reduceAdd, Nat.reduceLeDiff, Nat.reduceMul, Nat.reduceEqDiff, Nat.reduceBEq, reduceIte, List.nil_append] <;> rfl))) | ((with_reducible apply ard_done); (focus rfl)))
    have e2 : (48 + (m : Int) % 10).toNat = 48 + m % 10 := by omega
    refine anext0 [(0, .int .i64 ((m / 10 : Nat) : Int)), (3, .str (UInt8.ofNat (48 + m % 10) :: out))] [] (k' := m / 10) (by omega) ?_ rfl trivial rfl rfl ⟨f, m / 10, _, by omega, rfl, hgo, ?_, rfl, rfl⟩
    · simp [subP, Env.get, e2, Weak.refl]
    · simp; omega
  · have : m = 0 := by omega
    subst this
    repeat' (first | ((with_reducible first | apply ar_w T_ok | apply ar_w0 T_ok | apply ard_w T_ok | apply ard_w0 T_ok); (focus (simp (disch := omega) only [go_sem, Nat.reduceLT, Nat.reduceAdd, Nat.reduceLeDiff, Nat.reduceMul, Nat.reduceEqDiff, Nat.reduceBEq, reduceIte, List.nil_append] <;> rfl)); (focus (first | rfl | (simp [okIdsB, Nat.ble_eq]; done))); (focus rfl); (focus (first | trivial | (simp only [preOK]; omega) | exact ⟨by first | trivial | rfl | omega, by assumption, by omega⟩ | (simp [preOK, AllBytes, List.nil_append]; first | done | omega))); (focus (simp only [List.nil_append, Heap.puts, Heap.put_app, Heap.put_app0, Heap.put_len, Heap.put, List.length_append, List.length_cons, List.length_nil, Nat.zero_add, Nat.reduceAdd] <;> rfl))) | with_reducible (first | refine aw_reg_d P_mixed ?_ | refine ar_done ?_ | refine aw_seq ?_ | refine aw_reg ?_ | refine aw_block ?_ | refine aw_skip ?_ | refine aw_exit ?_ | refine aw_ret ?_ | refine at_n ?_ | refine at_e ?_ | refine at_r ?_ | refine ab_n ?_ | refine ab_r ?_ | refine ab_e ?_ | refine ab_ne rfl ?_ | refine an_e ?_ | refine an_r ?_ | refine am_e ?_ | refine am_r ?_) | ((with_reducible apply aw_cond_f); (focus (simp only [go_sem, Nat.reduceLT, Nat.reduceAdd, Nat.reduceLeDiff, Nat.reduceMul, Nat.reduceEqDiff, Nat.reduceBEq, reduceIte, List.nil_append] <;> rfl))) | ((with_reducible apply aw_cond_t); (focus (simp only [go_sem, Nat.reduceLT, Nat.reduceAdd, Nat.reduceLeDiff, Nat.reduceMul, Nat.reduceEqDiff, Nat.reduceBEq, reduceIte, List.nil_append] <;> rfl))) | ((with_reducible apply aw_cond_d); (focus (simp only [go_sem, Nat.reduceLT, Nat.reduceAdd, Nat.reduceLeDiff, Nat.reduceMul, Nat.reduceEqDiff, Nat.reduceBEq, reduceIte, List.nil_append] <;> rfl)); all_goals (intro hcond; try (exfalso; omega))) | ((with_reducible first | apply ae_r | apply ae_n); (focus (simp only [go_sem, Nat.reduceLT, Nat.reduceAdd, Nat.reduceLeDiff, Nat.reduceMul, Nat.reduceEqDiff, Nat.reduceBEq, reduceIte, List.nil_append] <;> rfl))) | ((with_reducible apply ard_done); (focus rfl)))
    have : mtD f 0 out = out := by cases f <;> simp [mtD]
    rw [this] at hgo
    simp [aresV, frz, mt, hgo]

/-! ### marks on strings -/
def mtS : List (List UInt8) → Nat → List (List UInt8)
  | [], _ => []
  | _ :: r, k => mt k :: mtS r (k + 1)
theorem mtS_len : ∀ (l : List (List UInt8)) (k : Nat), (mtS l k).length = l.length
  | [], k => rfl
  | _ :: r, k => by simp [mtS, mtS_len r]
theorem mtS_getD : ∀ (l : List (List UInt8)) (k i : Nat), i < l.length → (mtS l k).getD i [] = mt (k + i)
  | _ :: r, k, 0, h => rfl
  | _ :: r, k, i + 1, h => by
    simp only [mtS, List.getD_cons_succ]
    rw [mtS_getD r (k + 1) i (by simpa using h)]
    congr 1; omega

theorem Heap.put_put (H : Heap) (b : Nat) (x y : Blk) : ∀ c, ((H.put b x).put b y).at c = (H.put b y).at c := fun c => by
  by_cases hc : c = b
  · subst hc; rw [Heap.at_put_same, Heap.at_put_same]
  · rw [Heap.at_put_ne _ _ _ _ hc, Heap.at_put_ne _ _ _ _ hc, Heap.at_put_ne _ _ _ _ hc]
theorem Heap.put_put' : ∀ (H : Heap) (b : Nat) (x y : Blk), (H.put b x).put b y = H.put b y
  | [], 0, x, y => rfl
  | [], n + 1, x, y => by simp only [Heap.put]; rw [Heap.put_put' [] n x y]
  | z :: H, 0, x, y => rfl
  | z :: H, n + 1, x, y => by simp only [Heap.put]; rw [Heap.put_put' H n x y]
theorem Heap.put_self : ∀ (H : Heap) (b : Nat), b < H.length → H.put b (H.at b) = H
  | [], b, h => by simp at h
  | z :: H, 0, h => rfl
  | z :: H, n + 1, h => by
    simp only [Heap.put]
    rw [Heap.at_cons_succ, Heap.put_self H n (by simpa using h)]

/-- what markStringS leaves: the row at b is marked -/
theorem markStringS_row (ns : List (List UInt8)) (b cap k : Nat) (H : Heap) (hat : H.at b = .row 1 (strs ns)) (hb : b < H.length) (hl : Len ns) (h1 : 1 ≤ k) (h2 : k + ns.length ≤ 4611686018427387904) :
    FCall P 35 [.row b 0 ns.length (some cap) 1, .int .i64 k] H fun r H' => r = .int .i64 ((k + ns.length : Nat) : Int) ∧ H' = H.put b (.row 1 (strs (mtS ns k))) := by
  have hset : (1 : Nat) = 1 := rfl
  have hget : (1 : Nat) = 1 := rfl
  refine fcall_walk T_ok ok_35 rfl ?_
  unfold Go.Proofs.Try.f35
  simp only [Option.getD_some, envOf, Nat.zero_add, Nat.reduceAdd]
  repeat' (first | ((with_reducible first | apply ar_w T_ok | apply ar_w0 T_ok | apply ard_w T_ok | apply ard_w0 T_ok); (focus (simp (disch := omega) only [go_sem, Nat.reduceLT, Nat.reduceAdd, Nat.reduceLeDiff, Nat.reduceMul, Nat.reduceEqDiff, Nat.reduceBEq, reduceIte, hat, strs_len, hset, hget] <;> rfl)); (focus (first | rfl | (simp [okIdsB, Nat.ble_eq]; done))); (focus rfl); (focus (first | trivial | (simp only [preOK]; omega) | exact ⟨by first | trivial | rfl | omega, by assumption, by omega⟩ | (simp [preOK, AllBytes, hat, strs_len, hset, hget]; first | done | omega))); (focus (simp only [hat, strs_len, hset, hget, Heap.puts, Heap.put_app, Heap.put_app0, Heap.put_len, Heap.put, List.length_append, List.length_cons, List.length_nil, Nat.zero_add, Nat.reduceAdd] <;> rfl))) | with_reducible (first | refine aw_reg_d P_mixed ?_ | refine ar_done ?_ | refine aw_seq ?_ | refine aw_reg ?_ | refine aw_block ?_ | refine aw_skip ?_ | refine aw_exit ?_ | refine aw_ret ?_ | refine at_n ?_ | refine at_e ?_ | refine at_r ?_ | refine ab_n ?_ | refine ab_r ?_ | refine ab_e ?_ | refine ab_ne rfl ?_ | refine an_e ?_ | refine an_r ?_ | refine am_e ?_ | refine am_r ?_) | ((with_reducible apply aw_cond_f); (focus (simp only [go_sem, Nat.reduceLT, Nat.reduceAdd, Nat.reduceLeDiff, Nat.reduceMul, Nat.reduceEqDiff, Nat.reduceBEq, reduceIte, hat, strs_len, hset, hget] <;> rfl))) | ((with_reducible apply aw_cond_t); (focus (simp only [go_sem, Nat.reduceLT, Nat.reduceAdd, Nat.reduceLeDiff, Nat.reduceMul, Nat.reduceEqDiff, Nat.reduceBEq, reduceIte, hat, strs_len, hset, hget] <;> rfl))) | ((with_reducible apply aw_cond_d); (focus (simp only [go_sem, Nat.reduceLT, Nat.reduceAdd, Nat.reduceLeDiff, Nat.reduceMul, Nat.reduceEqDiff, Nat.reduceBEq, reduceIte, hat, strs_len, hset, hget] <;> rfl)); all_goals (intro hcond; try (exfalso; omega))) | ((with_reducible first | apply ae_r | apply ae_n); (focus (simp only [go_sem, Nat.reduceLT, Nat.reduceAdd, Nat.reduceLeDiff, Nat.reduceMul, Nat.reduceEqDiff, Nat.reduceBEq, reduceIte, hat, strs_len, hset, hget] <;> rfl))) | ((with_reducible apply ard_done); (focus rfl)))
  refine aw_loopn (fun kk env H1 => ∃ (i : Nat), i ≤ ns.length ∧ kk = ns.length - i ∧ env = [(0, .row b 0 ns.length (some cap) 1), (1, .int .i64 ((k + i : Nat) : Int)), (5, .int .i64 i)] ∧
      H1 = H.put b (.row 1 (strs ((mtS ns k).take i ++ ns.drop i)))) ns.length
    [(0, .row b 0 ns.length (some cap) 1), (1, .int .i64 k), (5, .int .i64 0)] _ (by simp [subP, Env.get, Weak.refl]) (heapW_refl _) rfl ⟨0, Nat.zero_le _, rfl, rfl, by simp only [List.take_zero, List.drop_zero, List.nil_append]; rw [← hat, Heap.put_self H b hb]⟩ ?_
  rintro kk env H1 ⟨i, hi, hk, rfl, rfl⟩
  by_cases hlt : i < ns.length
  · clear hset hget
    have hget : (strs ((mtS ns k).take i ++ ns.drop i)).getD i [] = [.str (ns.getD i [])] := by
      rw [strs_get (by simp [mtS_len]; omega)]
      congr 2
      rw [List.getD_eq_getElem?_getD, List.getD_eq_getElem?_getD, List.getElem?_append_right (by simp [mtS_len]; omega)]
      simp [mtS_len, Nat.min_eq_left hi]
    have hset : (strs ((mtS ns k).take i ++ ns.drop i)).set i [.str (mt (k + i))] = strs ((mtS ns k).take (i + 1) ++ ns.drop (i + 1)) := by
      have hA : i < (mtS ns k).length := by rw [mtS_len]; exact hlt
      have hm : (mtS ns k)[i] = mt (k + i) := by
        have := mtS_getD ns k i hlt
        rw [List.getD_eq_getElem?_getD, List.getElem?_eq_getElem hA] at this
        exact this
      rw [drop_cons [] hlt, List.take_succ_eq_append_getElem hA, hm]
      simp only [strs, List.map_append, List.map_cons, List.map_nil, List.append_assoc, List.cons_append, List.nil_append]
      rw [List.set_append_right _ _ (by simp [mtS_len]; omega)]
      simp [mtS_len, Nat.min_eq_left hi]
    have hlen : (H.put b (.row 1 (strs ((mtS ns k).take i ++ ns.drop i)))).at b = .row 1 (strs ((mtS ns k).take i ++ ns.drop i)) := Heap.at_put_same _ _ _
    repeat' (first | ((with_reducible first | apply ar_w T_ok | apply ar_w0 T_ok | apply ard_w T_ok | apply ard_w0 T_ok); (focus (simp (disch := omega) only [go_sem, Nat.reduceLT, Nat.reduceAdd, Nat.reduceLeDiff, Nat.reduceMul, Nat.reduceEqDiff, Nat.reduceBEq, reduceIte, hlen, strs_len, hset, hget, Heap.put_put'] <;> rfl)); (focus (first | rfl | (simp [okIdsB, Nat.ble_eq]; done))); (focus rfl); (focus (first | trivial | (simp only [preOK]; omega) | exact ⟨by first | trivial | rfl | omega, by assumption, by omega⟩ | (simp [preOK, AllBytes, hlen, strs_len, hset, hget, Heap.put_put']; first | done | omega))); (focus (simp only [hlen, strs_len, hset, hget, Heap.put_put', Heap.puts, Heap.put_app, Heap.put_app0, Heap.put_len, Heap.put, List.length_append, List.length_cons, List.length_nil, Nat.zero_add, Nat.reduceAdd] <;> rfl))) | with_reducible (first | refine aw_reg_d P_mixed ?_ | refine ar_done ?_ | refine aw_seq ?_ | refine aw_reg ?_ | refine aw_block ?_ | refine aw_skip ?_ | refine aw_exit ?_ | refine aw_ret ?_ | refine at_n ?_ | refine at_e ?_ | refine at_r ?_ | refine ab_n ?_ | refine ab_r ?_ | refine ab_e ?_ | refine ab_ne rfl ?_ | refine an_e ?_ | refine an_r ?_ | refine am_e ?_ | refine am_r ?_) | ((with_reducible apply aw_cond_f); (focus (simp only [go_sem, Nat.reduceLT, Nat.reduceAdd, Nat.reduceLeDiff, Nat.reduceMul, Nat.reduceEqDiff, Nat.reduceBEq, reduceIte, hlen, strs_len, hset, hget, Heap.put_put'] <;> rfl))) | ((with_reducible apply aw_cond_t); (focus (simp only [go_sem, Nat.reduceLT, Nat.reduceAdd, Nat.reduceLeDiff, Nat.reduceMul, Nat.reduceEqDiff, Nat.reduceBEq, reduceIte, hlen, strs_len, hset, hget, Heap.put_put'] <;> rfl))) | ((with_reducible apply aw_cond_d); (focus (simp only [go_sem, Nat.reduceLT, Nat.reduceAdd, Nat.reduceLeDiff, Nat.reduceMul, Nat.reduceEqDiff, Nat.reduceBEq, reduceIte, hlen, strs_len, hset, hget, Heap.put_put'] <;> rfl)); all_goals (intro hcond; try (exfalso; omega))) | ((with_reducible first | apply ae_r | apply ae_n); (focus (simp only [go_sem, Nat.reduceLT, Nat.reduceAdd, Nat.reduceLeDiff, Nat.reduceMul, Nat.reduceEqDiff, Nat.reduceBEq, reduceIte, hlen, strs_len, hset, hget, Heap.put_put'] <;> rfl))) | ((with_reducible apply ard_done); (focus rfl)))
    ((apply ar_call rfl ok_33); (focus (simp only [go_sem, Nat.reduceLT, Nat.reduceAdd, Nat.reduceLeDiff, Nat.reduceMul, Nat.reduceEqDiff, Nat.reduceBEq, reduceIte, hlen, strs_len, hset, hget, Heap.put_put', List.map] <;> rfl)); (focus exact markText_ok (k + i) (by omega) (by omega)); (focus rfl); (focus rfl))
    repeat' (first | ((with_reducible first | apply ar_w T_ok | apply ar_w0 T_ok | apply ard_w T_ok | apply ard_w0 T_ok); (focus (simp (disch := omega) only [go_sem, Nat.reduceLT, Nat.reduceAdd, Nat.reduceLeDiff, Nat.reduceMul, Nat.reduceEqDiff, Nat.reduceBEq, reduceIte, hlen, strs_len, hset, hget, Heap.put_put'] <;> rfl)); (focus (first | rfl | (simp [okIdsB, Nat.ble_eq]; done))); (focus rfl); (focus (first | trivial | (simp only [preOK]; omega) | exact ⟨by first | trivial | rfl | omega, by assumption, by omega⟩ | (simp [preOK, AllBytes, hlen, strs_len, hset, hget, Heap.put_put']; first | done | omega))); (focus (simp only [hlen, strs_len, hset, hget, Heap.put_put', Heap.puts, Heap.put_app, Heap.put_app0, Heap.put_len, Heap.put, List.length_append, List.length_cons, List.length_nil, Nat.zero_add, Nat.reduceAdd] <;> rfl))) | with_reducible (first | refine aw_reg_d P_mixed ?_ | refine ar_done ?_ | refine aw_seq ?_ | refine aw_reg ?_ | refine aw_block ?_ | refine aw_skip ?_ | refine aw_exit ?_ | refine aw_ret ?_ | refine at_n ?_ | refine at_e ?_ | refine at_r ?_ | refine ab_n ?_ | refine ab_r ?_ | refine ab_e ?_ | refine ab_ne rfl ?_ | refine an_e ?_ | refine an_r ?_ | refine am_e ?_ | refine am_r ?_) | ((with_reducible apply aw_cond_f); (focus (simp only [go_sem, Nat.reduceLT, Nat.reduceAdd, Nat.reduceLeDiff, Nat.reduceMul, Nat.reduceEqDiff, Nat.reduceBEq, reduceIte, hlen, strs_len, hset, hget, Heap.put_put'] <;> rfl))) | ((with_reducible apply aw_cond_t); (focus (simp only [go_sem, Nat.reduceLT, Nat.reduceAdd, Nat.reduceLeDiff, Nat.reduceMul, Nat.reduceEqDiff, Nat.reduceBEq, reduceIte, hlen, strs_len, hset, hget, Heap.put_put'] <;> rfl))) | ((with_reducible apply aw_cond_d); (focus (simp only [go_sem, Nat.reduceLT, Nat.reduceAdd, Nat.reduceLeDiff, Nat.reduceMul, Nat.reduceEqDiff, Nat.reduceBEq, reduceIte, hlen, strs_len, hset, hget, Heap.put_put'] <;> rfl)); all_goals (intro hcond; try (exfalso; omega))) | ((with_reducible first | apply ae_r | apply ae_n); (focus (simp only [go_sem, Nat.reduceLT, Nat.reduceAdd, Nat.reduceLeDiff, Nat.reduceMul, Nat.reduceEqDiff, Nat.reduceBEq, reduceIte, hlen, strs_len, hset, hget, Heap.put_put'] <;> rfl))) | ((with_reducible apply ard_done); (focus rfl)))
    refine anextn [(0, .row b 0 ns.length (some cap) 1), (1, .int .i64 ((k + (i + 1) : Nat) : Int)), (5, .int .i64 ((i + 1 : Nat) : Int))] _ (k' := ns.length - (i + 1)) (by omega) (by rw [Heap.put_length _ _ _ hb, Heap.put_length _ _ _ hb]; exact Nat.le_refl _) ?_ (heapW_refl _) rfl
      ⟨i + 1, by omega, rfl, rfl, rfl⟩
    simp [subP, Env.get, Weak.refl, Int.add_assoc]
  · have : i = ns.length := by omega
    subst this
    repeat' (first | ((with_reducible first | apply ar_w T_ok | apply ar_w0 T_ok | apply ard_w T_ok | apply ard_w0 T_ok); (focus (simp (disch := omega) only [go_sem, Nat.reduceLT, Nat.reduceAdd, Nat.reduceLeDiff, Nat.reduceMul, Nat.reduceEqDiff, Nat.reduceBEq, reduceIte, strs_len] <;> rfl)); (focus (first | rfl | (simp [okIdsB, Nat.ble_eq]; done))); (focus rfl); (focus (first | trivial | (simp only [preOK]; omega) | exact ⟨by first | trivial | rfl | omega, by assumption, by omega⟩ | (simp [preOK, AllBytes, strs_len]; first | done | omega))); (focus (simp only [strs_len, Heap.puts, Heap.put_app, Heap.put_app0, Heap.put_len, Heap.put, List.length_append, List.length_cons, List.length_nil, Nat.zero_add, Nat.reduceAdd] <;> rfl))) | with_reducible (first | refine aw_reg_d P_mixed ?_ | refine ar_done ?_ | refine aw_seq ?_ | refine aw_reg ?_ | refine aw_block ?_ | refine aw_skip ?_ | refine aw_exit ?_ | refine aw_ret ?_ | refine at_n ?_ | refine at_e ?_ | refine at_r ?_ | refine ab_n ?_ | refine ab_r ?_ | refine ab_e ?_ | refine ab_ne rfl ?_ | refine an_e ?_ | refine an_r ?_ | refine am_e ?_ | refine am_r ?_) | ((with_reducible apply aw_cond_f); (focus (simp only [go_sem, Nat.reduceLT, Nat.reduceAdd, Nat.reduceLeDiff, Nat.reduceMul, Nat.reduceEqDiff, Nat.reduceBEq, reduceIte, strs_len] <;> rfl))) | ((with_reducible apply aw_cond_t); (focus (simp only [go_sem, Nat.reduceLT, Nat.reduceAdd, Nat.reduceLeDiff, Nat.reduceMul, Nat.reduceEqDiff, Nat.reduceBEq, reduceIte, strs_len] <;> rfl))) | ((with_reducible apply aw_cond_d); (focus (simp only [go_sem, Nat.reduceLT, Nat.reduceAdd, Nat.reduceLeDiff, Nat.reduceMul, Nat.reduceEqDiff, Nat.reduceBEq, reduceIte, strs_len] <;> rfl)); all_goals (intro hcond; try (exfalso; omega))) | ((with_reducible first | apply ae_r | apply ae_n); (focus (simp only [go_sem, Nat.reduceLT, Nat.reduceAdd, Nat.reduceLeDiff, Nat.reduceMul, Nat.reduceEqDiff, Nat.reduceBEq, reduceIte, strs_len] <;> rfl))) | ((with_reducible apply ard_done); (focus rfl)))
    refine ⟨rfl, ?_⟩
    rw [List.take_of_length_le (by rw [mtS_len]; exact Nat.le_refl _), List.drop_length, List.append_nil]

theorem markStringS_nil (k : Nat) (H : Heap) (h2 : k ≤ 4611686018427387904) :
    FCall P 35 [.nsl 1, .int .i64 k] H fun r H' => r = .int .i64 k ∧ H' = H := by
  refine fcall_walk T_ok ok_35 rfl ?_
  unfold Go.Proofs.Try.f35
  simp only [Option.getD_some, envOf, Nat.zero_add, Nat.reduceAdd]
  repeat' (first | ((with_reducible first | apply ar_w T_ok | apply ar_w0 T_ok | apply ard_w T_ok | apply ard_w0 T_ok); (focus (simp (disch := omega) only [go_sem, Nat.reduceLT, Nat.reduceAdd, Nat.reduceLeDiff, Nat.reduceMul, Nat.reduceEqDiff, Nat.reduceBEq, reduceIte, strs_len] <;> rfl)); (focus (first | rfl | (simp [okIdsB, Nat.ble_eq]; done))); (focus rfl); (focus (first | trivial | (simp only [preOK]; omega) | exact ⟨by first | trivial | rfl | omega, by assumption, by omega⟩ | (simp [preOK, AllBytes, strs_len]; first | done | omega))); (focus (simp only [strs_len, Heap.puts, Heap.put_app, Heap.put_app0, Heap.put_len, Heap.put, List.length_append, List.length_cons, List.length_nil, Nat.zero_add, Nat.reduceAdd] <;> rfl))) | with_reducible (first | refine aw_reg_d P_mixed ?_ | refine ar_done ?_ | refine aw_seq ?_ | refine aw_reg ?_ | refine aw_block ?_ | refine aw_skip ?_ | refine aw_exit ?_ | refine aw_ret ?_ | refine at_n ?_ | refine at_e ?_ | refine at_r ?_ | refine ab_n ?_ | refine ab_r ?_ | refine ab_e ?_ | refine ab_ne rfl ?_ | refine an_e ?_ | refine an_r ?_ | refine am_e ?_ | refine am_r ?_) | ((with_reducible apply aw_cond_f); (focus (simp only [go_sem, Nat.reduceLT, Nat.reduceAdd, Nat.reduceLeDiff, Nat.reduceMul, Nat.reduceEqDiff, Nat.reduceBEq, reduceIte, strs_len] <;> rfl))) | ((with_reducible apply aw_cond_t); (focus (simp only [go_sem, Nat.reduceLT, Nat.reduceAdd, Nat.reduceLeDiff, Nat.reduceMul, Nat.reduceEqDiff, Nat.reduceBEq, reduceIte, strs_len] <;> rfl))) | ((with_reducible apply aw_cond_d); (focus (simp only [go_sem, Nat.reduceLT, Nat.reduceAdd, Nat.reduceLeDiff, Nat.reduceMul, Nat.reduceEqDiff, Nat.reduceBEq, reduceIte, strs_len] <;> rfl)); all_goals (intro hcond; try (exfalso; omega))) | ((with_reducible first | apply ae_r | apply ae_n); (focus (simp only [go_sem, Nat.reduceLT, Nat.reduceAdd, Nat.reduceLeDiff, Nat.reduceMul, Nat.reduceEqDiff, Nat.reduceBEq, reduceIte, strs_len] <;> rfl))) | ((with_reducible apply ard_done); (focus rfl)))
  refine aw_loopn (fun kk env H1 => env = [(0, .nsl 1), (1, .int .i64 k), (5, .int .i64 0)] ∧ H1 = H) 0
    [(0, .nsl 1), (1, .int .i64 k), (5, .int .i64 0)] _ (by simp [subP, Env.get, Weak.refl]) (heapW_refl _) rfl ⟨rfl, rfl⟩ ?_
  rintro kk env H1 ⟨rfl, rfl⟩
  repeat' (first | ((with_reducible first | apply ar_w T_ok | apply ar_w0 T_ok | apply ard_w T_ok | apply ard_w0 T_ok); (focus (simp (disch := omega) only [go_sem, Nat.reduceLT, Nat.reduceAdd, Nat.reduceLeDiff, Nat.reduceMul, Nat.reduceEqDiff, Nat.reduceBEq, reduceIte, strs_len] <;> rfl)); (focus (first | rfl | (simp [okIdsB, Nat.ble_eq]; done))); (focus rfl); (focus (first | trivial | (simp only [preOK]; omega) | exact ⟨by first | trivial | rfl | omega, by assumption, by omega⟩ | (simp [preOK, AllBytes, strs_len]; first | done | omega))); (focus (simp only [strs_len, Heap.puts, Heap.put_app, Heap.put_app0, Heap.put_len, Heap.put, List.length_append, List.length_cons, List.length_nil, Nat.zero_add, Nat.reduceAdd] <;> rfl))) | with_reducible (first | refine aw_reg_d P_mixed ?_ | refine ar_done ?_ | refine aw_seq ?_ | refine aw_reg ?_ | refine aw_block ?_ | refine aw_skip ?_ | refine aw_exit ?_ | refine aw_ret ?_ | refine at_n ?_ | refine at_e ?_ | refine at_r ?_ | refine ab_n ?_ | refine ab_r ?_ | refine ab_e ?_ | refine ab_ne rfl ?_ | refine an_e ?_ | refine an_r ?_ | refine am_e ?_ | refine am_r ?_) | ((with_reducible apply aw_cond_f); (focus (simp only [go_sem, Nat.reduceLT, Nat.reduceAdd, Nat.reduceLeDiff, Nat.reduceMul, Nat.reduceEqDiff, Nat.reduceBEq, reduceIte, strs_len] <;> rfl))) | ((with_reducible apply aw_cond_t); (focus (simp only [go_sem, Nat.reduceLT, Nat.reduceAdd, Nat.reduceLeDiff, Nat.reduceMul, Nat.reduceEqDiff, Nat.reduceBEq, reduceIte, strs_len] <;> rfl))) | ((with_reducible apply aw_cond_d); (focus (simp only [go_sem, Nat.reduceLT, Nat.reduceAdd, Nat.reduceLeDiff, Nat.reduceMul, Nat.reduceEqDiff, Nat.reduceBEq, reduceIte, strs_len] <;> rfl)); all_goals (intro hcond; try (exfalso; omega))) | ((with_reducible first | apply ae_r | apply ae_n); (focus (simp only [go_sem, Nat.reduceLT, Nat.reduceAdd, Nat.reduceLeDiff, Nat.reduceMul, Nat.reduceEqDiff, Nat.reduceBEq, reduceIte, strs_len] <;> rfl))) | ((with_reducible apply ard_done); (focus rfl)))
  exact ⟨rfl, rfl⟩

/-- only the blocks of these ids are others -/
structure Only (H H' : Heap) (ids : List Nat) : Prop where
  len : H'.length = H.length
  same : ∀ b, b ∉ ids → H'.at b = H.at b

theorem markStringS_ok (ns : List (List UInt8)) (a : AV) (ids : List Nat) (k : Nat) (H : Heap) (hL : LS H ns a ids) (hb : ∀ b ∈ ids, b < H.length) (hl : Len ns) (h1 : 1 ≤ k) (h2 : k + ns.length ≤ 4611686018427387904) :
    FCall P 35 [a, .int .i64 k] H fun r H' => r = .int .i64 ((k + ns.length : Nat) : Int) ∧ LS H' (mtS ns k) a ids ∧ Only H H' ids := by
  rcases hL with ⟨rfl, rfl, rfl⟩ | ⟨b, cap, rfl, hat, rfl⟩
  · intro C vs p1 p2 p3 p4
    refine Calls.mono (markStringS_nil k H (by omega) C vs p1 p2 p3 p4) ?_
    rintro e w' ⟨v, r, C', H', q1, ⟨rfl, rfl⟩, q3⟩
    exact ⟨v, _, C', H', q1, ⟨rfl, .inl ⟨rfl, rfl, rfl⟩, rfl, fun _ _ => rfl⟩, q3⟩
  · have hb' := hb b (by simp)
    intro C vs p1 p2 p3 p4
    refine Calls.mono (markStringS_row ns b cap k H hat hb' hl h1 h2 C vs p1 p2 p3 p4) ?_
    rintro e w' ⟨v, r, C', H', q1, ⟨rfl, rfl⟩, q3⟩
    exact ⟨v, _, C', _, q1, ⟨rfl, .inr ⟨b, cap, by rw [mtS_len], Heap.at_put_same _ _ _, rfl⟩, Heap.put_length _ _ _ hb', fun c hc => Heap.at_put_ne _ _ _ _ (by simpa using hc)⟩, q3⟩

/-! ### marks on trees -/
mutual
def cntV : GV → Nat
  | ⟨_, _, _, l, ns⟩ => 3 + cntVs l + ns.length
def cntVs : List GV → Nat
  | [] => 0
  | v :: r => cntV v + cntVs r
end
mutual
def mkV : GV → Nat → GV
  | ⟨_, _, _, l, ns⟩, k => ⟨k, (k + 1 : Nat), mt (k + 2), mkVs l (k + 3), mtS ns (k + 3 + cntVs l)⟩
def mkVs : List GV → Nat → List GV
  | [], _ => []
  | v :: r, k => mkV v k :: mkVs r (k + cntV v)
end
theorem mkVs_len : ∀ (l : List GV) (k : Nat), (mkVs l k).length = l.length
  | [], k => rfl
  | v :: r, k => by simp [mkVs, mkVs_len r]
end Go.Av
set_option linter.unusedVariables false
set_option linter.unusedSimpArgs false
namespace Go.Av
open Go
set_option maxRecDepth 10000

theorem cntVs_append : ∀ (x y : List GV), cntVs (x ++ y) = cntVs x + cntVs y
  | [], y => by simp [cntVs]
  | v :: r, y => by simp only [List.cons_append, cntVs, cntVs_append r y]; omega
theorem mkVs_append : ∀ (x y : List GV) (k : Nat), mkVs (x ++ y) k = mkVs x k ++ mkVs y (k + cntVs x)
  | [], y, k => by simp [mkVs, cntVs]
  | v :: r, y, k => by
    simp only [List.cons_append, mkVs, cntVs]
    rw [mkVs_append r y, Nat.add_assoc]
theorem LVs.app {H : Heap} : ∀ {x y : List GV} {es : List (List AV)} {ids : List Nat}, LVs H (x ++ y) es ids ↔ ∃ e1 e2 i1 i2, es = e1 ++ e2 ∧ ids = i1 ++ i2 ∧ LVs H x e1 i1 ∧ LVs H y e2 i2
  | [], y, es, ids => by
    constructor
    · intro h; exact ⟨[], es, [], ids, rfl, rfl, ⟨rfl, rfl⟩, h⟩
    · rintro ⟨e1, e2, i1, i2, rfl, rfl, ⟨rfl, rfl⟩, h⟩; exact h
  | v :: r, y, es, ids => by
    constructor
    · rintro ⟨e, es', i1, i2, rfl, h1, h2, rfl⟩
      obtain ⟨a1, a2, b1, b2, rfl, rfl, h3, h4⟩ := LVs.app.1 h2
      exact ⟨e :: a1, a2, i1 ++ b1, b2, rfl, by simp, ⟨e, a1, i1, b1, rfl, h1, h3, rfl⟩, h4⟩
    · rintro ⟨e1, e2, i1, i2, rfl, rfl, ⟨e, es', j1, j2, rfl, h1, h2, rfl⟩, h4⟩
      exact ⟨e, es' ++ e2, j1, j2 ++ i2, rfl, h1, LVs.app.2 ⟨es', e2, j2, i2, rfl, rfl, h2, h4⟩, by simp⟩

theorem cast1 (x : Nat) : (x : Int) + 1 = ((x + 1 : Nat) : Int) := by omega
theorem getD_mid {α : Type} {x y : List α} {e d : α} {i : Nat} (h : x.length = i) : (x ++ e :: y).getD i d = e := by
  subst h; simp [List.getD_eq_getElem?_getD]
theorem set_mid {α : Type} {x y : List α} {e e' : α} {i : Nat} (h : x.length = i) : (x ++ e :: y).set i e' = x ++ e' :: y := by
  subst h; rw [List.set_append_right _ _ (Nat.le_refl _), Nat.sub_self, List.set_cons_zero]

theorem markValueS_row (l : List GV) (b cap k : Nat) (es : List (List AV)) (inner : List Nat) (H : Heap) (hat : H.at b = .row 5 es) (hL : LVs H l es inner) (hnd : (b :: inner).Nodup) (hb : ∀ c ∈ b :: inner, c < H.length) (hl : Len l) (hf : fitss l)
    (h1 : 1 ≤ k) (h2 : k + cntVs l ≤ 4611686018427387904)
    (ih : ∀ (l' : List GV) (a : AV) (ids : List Nat) (k' : Nat) (H' : Heap), sizes l' < sizes l → LVS H' l' a ids → ids.Nodup → (∀ c ∈ ids, c < H'.length) → Len l' → fitss l' → 1 ≤ k' → k' + cntVs l' ≤ 4611686018427387904 →
      FCall P 34 [a, .int .i64 k'] H' fun r H2 => r = .int .i64 ((k' + cntVs l' : Nat) : Int) ∧ LVS H2 (mkVs l' k') a ids ∧ Only H' H2 ids) :
    FCall P 34 [.row b 0 l.length (some cap) 5, .int .i64 k] H fun r H' => r = .int .i64 ((k + cntVs l : Nat) : Int) ∧ LVS H' (mkVs l k) (.row b 0 l.length (some cap) 5) (b :: inner) ∧ Only H H' (b :: inner) := by
  refine fcall_walk T_ok ok_34 rfl ?_
  unfold Go.Proofs.Try.f34
  simp only [Option.getD_some, envOf, Nat.zero_add, Nat.reduceAdd]
  repeat' (first | ((with_reducible first | apply ar_w T_ok | apply ar_w0 T_ok | apply ard_w T_ok | apply ard_w0 T_ok); (focus (simp (disch := omega) only [go_sem, Nat.reduceLT, Nat.reduceAdd, Nat.reduceLeDiff, Nat.reduceMul, Nat.reduceEqDiff, Nat.reduceBEq, reduceIte, Heap.put_put'] <;> rfl)); (focus (first | rfl | (simp [okIdsB, Nat.ble_eq]; done))); (focus rfl); (focus (first | trivial | (simp only [preOK]; omega) | exact ⟨by first | trivial | rfl | omega, by assumption, by omega⟩ | (simp [preOK, AllBytes, Heap.put_put']; first | done | omega))); (focus (simp only [Heap.put_put', Heap.puts, Heap.put_app, Heap.put_app0, Heap.put_len, Heap.put, List.length_append, List.length_cons, List.length_nil, Nat.zero_add, Nat.reduceAdd] <;> rfl))) | with_reducible (first | refine aw_reg_d P_mixed ?_ | refine ar_done ?_ | refine aw_seq ?_ | refine aw_reg ?_ | refine aw_block ?_ | refine aw_skip ?_ | refine aw_exit ?_ | refine aw_ret ?_ | refine at_n ?_ | refine at_e ?_ | refine at_r ?_ | refine ab_n ?_ | refine ab_r ?_ | refine ab_e ?_ | refine ab_ne rfl ?_ | refine an_e ?_ | refine an_r ?_ | refine am_e ?_ | refine am_r ?_) | ((with_reducible apply aw_cond_f); (focus (simp only [go_sem, Nat.reduceLT, Nat.reduceAdd, Nat.reduceLeDiff, Nat.reduceMul, Nat.reduceEqDiff, Nat.reduceBEq, reduceIte, Heap.put_put'] <;> rfl))) | ((with_reducible apply aw_cond_t); (focus (simp only [go_sem, Nat.reduceLT, Nat.reduceAdd, Nat.reduceLeDiff, Nat.reduceMul, Nat.reduceEqDiff, Nat.reduceBEq, reduceIte, Heap.put_put'] <;> rfl))) | ((with_reducible apply aw_cond_d); (focus (simp only [go_sem, Nat.reduceLT, Nat.reduceAdd, Nat.reduceLeDiff, Nat.reduceMul, Nat.reduceEqDiff, Nat.reduceBEq, reduceIte, Heap.put_put'] <;> rfl)); all_goals (intro hcond; try (exfalso; omega))) | ((with_reducible first | apply ae_r | apply ae_n); (focus (simp only [go_sem, Nat.reduceLT, Nat.reduceAdd, Nat.reduceLeDiff, Nat.reduceMul, Nat.reduceEqDiff, Nat.reduceBEq, reduceIte, Heap.put_put'] <;> rfl))) | ((with_reducible apply ard_done); (focus rfl)))
  refine aw_loopn (fun kk env H1 => ∃ (i : Nat) (es1 : List (List AV)), i ≤ l.length ∧ kk = l.length - i ∧ env = [(0, .row b 0 l.length (some cap) 5), (1, .int .i64 ((k + cntVs (l.take i) : Nat) : Int)), (5, .int .i64 i)] ∧
      H1.at b = .row 5 es1 ∧ LVs H1 (mkVs (l.take i) k ++ l.drop i) es1 inner ∧ Only H H1 (b :: inner)) l.length
    [(0, .row b 0 l.length (some cap) 5), (1, .int .i64 k), (5, .int .i64 0)] _ (by simp [subP, Env.get, Weak.refl]) (heapW_refl _) rfl ⟨0, es, Nat.zero_le _, rfl, rfl, hat, hL, rfl, fun _ _ => rfl⟩ ?_
  rintro kk env H1 ⟨i, es1, hi, hk, rfl, hat1, hL1, hO⟩
  by_cases hlt : i < l.length
  · have hmem := mem_getD (d := default) hlt
    have hff := fitss_mem hf _ hmem
    have hsz := sizes_mem hmem
    have hcnt : cntVs l = cntVs (l.take i) + cntVs (l.drop i) := by rw [← cntVs_append, List.take_append_drop]
    rw [drop_cons default hlt] at hL1 hcnt
    obtain ⟨⟨k0, n0, t0, l0, ns0⟩, hE⟩ : ∃ x, l.getD i default = x := ⟨_, rfl⟩
    rw [hE] at hL1 hff hsz hcnt
    obtain ⟨g1, g2, g3, g4, g5, g6, g7⟩ := hff
    obtain ⟨eX, e2, iX, i2', rfl, hids, hX, e, eY, iv, iY, rfl, hV, hY, rfl⟩ := LVs.app.1 hL1
    obtain ⟨aL, aN, i1, i2, rfl, hl1, hl2, rfl⟩ := LV_iff.1 hV
    have hXl : eX.length = i := by rw [hX.len, mkVs_len]; simp; omega
    simp only [cntVs, cntV] at hcnt
    have hc1 := hl1.cell
    have hc2 := hl2.cell
    have hbl : b < H1.length := by rw [hO.len]; exact hb b (by simp)
    have hgm := fun (z d : List AV) => getD_mid (y := eY) (e := z) (d := d) hXl
    have hsm := fun (z z' : List AV) => set_mid (y := eY) (e := z) (e' := z') hXl
    have hps := fun (x : Blk) => Heap.at_put_same H1 b x
    obtain ⟨m, hm⟩ : ∃ m, k + cntVs (l.take i) = m := ⟨_, rfl⟩
    rw [hm]
    repeat' (first | ((with_reducible first | apply ar_w T_ok | apply ar_w0 T_ok | apply ard_w T_ok | apply ard_w0 T_ok); (focus (simp (disch := omega) only [go_sem, Nat.reduceLT, Nat.reduceAdd, Nat.reduceLeDiff, Nat.reduceMul, Nat.reduceEqDiff, Nat.reduceBEq, reduceIte, Heap.put_put', hat1, hgm, hsm, hps, hc1, hc2, cast1] <;> rfl)); (focus (first | rfl | (simp [okIdsB, Nat.ble_eq]; done))); (focus rfl); (focus (first | trivial | (simp only [preOK]; omega) | exact ⟨by first | trivial | rfl | omega, by assumption, by omega⟩ | (simp [preOK, AllBytes, Heap.put_put', hat1, hgm, hsm, hps, hc1, hc2, cast1]; first | done | omega))); (focus (simp only [Heap.put_put', hat1, hgm, hsm, hps, hc1, hc2, cast1, Heap.puts, Heap.put_app, Heap.put_app0, Heap.put_len, Heap.put, List.length_append, List.length_cons, List.length_nil, Nat.zero_add, Nat.reduceAdd] <;> rfl))) | with_reducible (first | refine aw_reg_d P_mixed ?_ | refine ar_done ?_ | refine aw_seq ?_ | refine aw_reg ?_ | refine aw_block ?_ | refine aw_skip ?_ | refine aw_exit ?_ | refine aw_ret ?_ | refine at_n ?_ | refine at_e ?_ | refine at_r ?_ | refine ab_n ?_ | refine ab_r ?_ | refine ab_e ?_ | refine ab_ne rfl ?_ | refine an_e ?_ | refine an_r ?_ | refine am_e ?_ | refine am_r ?_) | ((with_reducible apply aw_cond_f); (focus (simp only [go_sem, Nat.reduceLT, Nat.reduceAdd, Nat.reduceLeDiff, Nat.reduceMul, Nat.reduceEqDiff, Nat.reduceBEq, reduceIte, Heap.put_put', hat1, hgm, hsm, hps, hc1, hc2, cast1] <;> rfl))) | ((with_reducible apply aw_cond_t); (focus (simp only [go_sem, Nat.reduceLT, Nat.reduceAdd, Nat.reduceLeDiff, Nat.reduceMul, Nat.reduceEqDiff, Nat.reduceBEq, reduceIte, Heap.put_put', hat1, hgm, hsm, hps, hc1, hc2, cast1] <;> rfl))) | ((with_reducible apply aw_cond_d); (focus (simp only [go_sem, Nat.reduceLT, Nat.reduceAdd, Nat.reduceLeDiff, Nat.reduceMul, Nat.reduceEqDiff, Nat.reduceBEq, reduceIte, Heap.put_put', hat1, hgm, hsm, hps, hc1, hc2, cast1] <;> rfl)); all_goals (intro hcond; try (exfalso; omega))) | ((with_reducible first | apply ae_r | apply ae_n); (focus (simp only [go_sem, Nat.reduceLT, Nat.reduceAdd, Nat.reduceLeDiff, Nat.reduceMul, Nat.reduceEqDiff, Nat.reduceBEq, reduceIte, Heap.put_put', hat1, hgm, hsm, hps, hc1, hc2, cast1] <;> rfl))) | ((with_reducible apply ard_done); (focus rfl)))
    ((apply ar_call rfl ok_33); (focus (simp only [go_sem, Nat.reduceLT, Nat.reduceAdd, Nat.reduceLeDiff, Nat.reduceMul, Nat.reduceEqDiff, Nat.reduceBEq, reduceIte, Heap.put_put', hat1, hgm, hsm, hps, hc1, hc2, cast1, List.map] <;> rfl)); (focus exact markText_ok (m + 1 + 1) (by omega) (by omega)); (focus rfl); (focus rfl))
    repeat' (first | ((with_reducible first | apply ar_w T_ok | apply ar_w0 T_ok | apply ard_w T_ok | apply ard_w0 T_ok); (focus (simp (disch := omega) only [go_sem, Nat.reduceLT, Nat.reduceAdd, Nat.reduceLeDiff, Nat.reduceMul, Nat.reduceEqDiff, Nat.reduceBEq, reduceIte, Heap.put_put', hat1, hgm, hsm, hps, hc1, hc2, cast1] <;> rfl)); (focus (first | rfl | (simp [okIdsB, Nat.ble_eq]; done))); (focus rfl); (focus (first | trivial | (simp only [preOK]; omega) | exact ⟨by first | trivial | rfl | omega, by assumption, by omega⟩ | (simp [preOK, AllBytes, Heap.put_put', hat1, hgm, hsm, hps, hc1, hc2, cast1]; first | done | omega))); (focus (simp only [Heap.put_put', hat1, hgm, hsm, hps, hc1, hc2, cast1, Heap.puts, Heap.put_app, Heap.put_app0, Heap.put_len, Heap.put, List.length_append, List.length_cons, List.length_nil, Nat.zero_add, Nat.reduceAdd] <;> rfl))) | with_reducible (first | refine aw_reg_d P_mixed ?_ | refine ar_done ?_ | refine aw_seq ?_ | refine aw_reg ?_ | refine aw_block ?_ | refine aw_skip ?_ | refine aw_exit ?_ | refine aw_ret ?_ | refine at_n ?_ | refine at_e ?_ | refine at_r ?_ | refine ab_n ?_ | refine ab_r ?_ | refine ab_e ?_ | refine ab_ne rfl ?_ | refine an_e ?_ | refine an_r ?_ | refine am_e ?_ | refine am_r ?_) | ((with_reducible apply aw_cond_f); (focus (simp only [go_sem, Nat.reduceLT, Nat.reduceAdd, Nat.reduceLeDiff, Nat.reduceMul, Nat.reduceEqDiff, Nat.reduceBEq, reduceIte, Heap.put_put', hat1, hgm, hsm, hps, hc1, hc2, cast1] <;> rfl))) | ((with_reducible apply aw_cond_t); (focus (simp only [go_sem, Nat.reduceLT, Nat.reduceAdd, Nat.reduceLeDiff, Nat.reduceMul, Nat.reduceEqDiff, Nat.reduceBEq, reduceIte, Heap.put_put', hat1, hgm, hsm, hps, hc1, hc2, cast1] <;> rfl))) | ((with_reducible apply aw_cond_d); (focus (simp only [go_sem, Nat.reduceLT, Nat.reduceAdd, Nat.reduceLeDiff, Nat.reduceMul, Nat.reduceEqDiff, Nat.reduceBEq, reduceIte, Heap.put_put', hat1, hgm, hsm, hps, hc1, hc2, cast1] <;> rfl)); all_goals (intro hcond; try (exfalso; omega))) | ((with_reducible first | apply ae_r | apply ae_n); (focus (simp only [go_sem, Nat.reduceLT, Nat.reduceAdd, Nat.reduceLeDiff, Nat.reduceMul, Nat.reduceEqDiff, Nat.reduceBEq, reduceIte, Heap.put_put', hat1, hgm, hsm, hps, hc1, hc2, cast1] <;> rfl))) | ((with_reducible apply ard_done); (focus rfl)))
    -- the list within
    have hnd' := hnd
    rw [hids] at hnd' hb
    simp only [List.nodup_cons, List.mem_append, List.nodup_append, not_or] at hnd'
    obtain ⟨⟨n1, ⟨n2, n3⟩, n4⟩, n5, ⟨⟨n6, n7, n8⟩, n9, n10⟩, n11⟩ := hnd'
    have hput : ∀ c, c ≠ b → ∀ x, (H1.put b x).at c = H1.at c := fun c hc x => Heap.at_put_ne _ _ _ _ hc
    ((apply ar_fcall rfl ok_34); (focus (simp only [go_sem, Nat.reduceLT, Nat.reduceAdd, Nat.reduceLeDiff, Nat.reduceMul, Nat.reduceEqDiff, Nat.reduceBEq, reduceIte, Heap.put_put', hat1, hgm, hsm, hps, hc1, hc2, cast1, List.map] <;> rfl)); (focus exact ih l0 aL i1 (m + 1 + 1 + 1) _ (by simp only [GV.size] at hsz; omega) (hl1.mono fun c hc => hput c (fun h => n2 (h ▸ hc)) _) n6 (fun c hc => by rw [Heap.put_length _ _ _ hbl, hO.len]; exact hb c (by simp [hc])) g4 g5 (by omega) (by omega)); (focus rfl); (focus rfl))
    rintro _ H2 ⟨rfl, hl1', hO2⟩
    have hat2 : H2.at b = .row 5 (eX ++ [.int .i64 (m : Nat), .int .i64 ((m + 1 : Nat) : Int), .str (mt (m + 1 + 1)), aL, aN] :: eY) := by
      rw [hO2.same b n2]; exact Heap.at_put_same _ _ _
    repeat' (first | ((with_reducible first | apply ar_w T_ok | apply ar_w0 T_ok | apply ard_w T_ok | apply ard_w0 T_ok); (focus (simp (disch := omega) only [go_sem, Nat.reduceLT, Nat.reduceAdd, Nat.reduceLeDiff, Nat.reduceMul, Nat.reduceEqDiff, Nat.reduceBEq, reduceIte, Heap.put_put', hat2, hgm, hsm, hps, hc1, hc2, cast1] <;> rfl)); (focus (first | rfl | (simp [okIdsB, Nat.ble_eq]; done))); (focus rfl); (focus (first | trivial | (simp only [preOK]; omega) | exact ⟨by first | trivial | rfl | omega, by assumption, by omega⟩ | (simp [preOK, AllBytes, Heap.put_put', hat2, hgm, hsm, hps, hc1, hc2, cast1]; first | done | omega))); (focus (simp only [Heap.put_put', hat2, hgm, hsm, hps, hc1, hc2, cast1, Heap.puts, Heap.put_app, Heap.put_app0, Heap.put_len, Heap.put, List.length_append, List.length_cons, List.length_nil, Nat.zero_add, Nat.reduceAdd] <;> rfl))) | with_reducible (first | refine aw_reg_d P_mixed ?_ | refine ar_done ?_ | refine aw_seq ?_ | refine aw_reg ?_ | refine aw_block ?_ | refine aw_skip ?_ | refine aw_exit ?_ | refine aw_ret ?_ | refine at_n ?_ | refine at_e ?_ | refine at_r ?_ | refine ab_n ?_ | refine ab_r ?_ | refine ab_e ?_ | refine ab_ne rfl ?_ | refine an_e ?_ | refine an_r ?_ | refine am_e ?_ | refine am_r ?_) | ((with_reducible apply aw_cond_f); (focus (simp only [go_sem, Nat.reduceLT, Nat.reduceAdd, Nat.reduceLeDiff, Nat.reduceMul, Nat.reduceEqDiff, Nat.reduceBEq, reduceIte, Heap.put_put', hat2, hgm, hsm, hps, hc1, hc2, cast1] <;> rfl))) | ((with_reducible apply aw_cond_t); (focus (simp only [go_sem, Nat.reduceLT, Nat.reduceAdd, Nat.reduceLeDiff, Nat.reduceMul, Nat.reduceEqDiff, Nat.reduceBEq, reduceIte, Heap.put_put', hat2, hgm, hsm, hps, hc1, hc2, cast1] <;> rfl))) | ((with_reducible apply aw_cond_d); (focus (simp only [go_sem, Nat.reduceLT, Nat.reduceAdd, Nat.reduceLeDiff, Nat.reduceMul, Nat.reduceEqDiff, Nat.reduceBEq, reduceIte, Heap.put_put', hat2, hgm, hsm, hps, hc1, hc2, cast1] <;> rfl)); all_goals (intro hcond; try (exfalso; omega))) | ((with_reducible first | apply ae_r | apply ae_n); (focus (simp only [go_sem, Nat.reduceLT, Nat.reduceAdd, Nat.reduceLeDiff, Nat.reduceMul, Nat.reduceEqDiff, Nat.reduceBEq, reduceIte, Heap.put_put', hat2, hgm, hsm, hps, hc1, hc2, cast1] <;> rfl))) | ((with_reducible apply ard_done); (focus rfl)))
    have s2 : ∀ c, c ∉ i1 → c ≠ b → H2.at c = H1.at c := fun c h h' => (hO2.same c h).trans (hput c h' _)
    have hlen2 : H2.length = H.length := by rw [hO2.len, Heap.put_length _ _ _ hbl, hO.len]
    ((apply ar_fcall rfl ok_35); (focus (simp only [go_sem, Nat.reduceLT, Nat.reduceAdd, Nat.reduceLeDiff, Nat.reduceMul, Nat.reduceEqDiff, Nat.reduceBEq, reduceIte, Heap.put_put', hat2, hgm, hsm, hps, hc1, hc2, cast1, List.map] <;> rfl)); (focus exact markStringS_ok ns0 aN i2 (m + 1 + 1 + 1 + cntVs l0) _ (hl2.mono fun c hc => s2 c (fun h => n8 c h c hc rfl) (fun h => n3 (h ▸ hc))) (fun c hc => by rw [hlen2]; exact hb c (by simp [hc])) g6 (by omega) (by omega)); (focus rfl); (focus rfl))
    rintro _ H3 ⟨rfl, hl2', hO3⟩
    repeat' (first | ((with_reducible first | apply ar_w T_ok | apply ar_w0 T_ok | apply ard_w T_ok | apply ard_w0 T_ok); (focus (simp (disch := omega) only [go_sem, Nat.reduceLT, Nat.reduceAdd, Nat.reduceLeDiff, Nat.reduceMul, Nat.reduceEqDiff, Nat.reduceBEq, reduceIte, Heap.put_put', hat2, hgm, hsm, hps, hc1, hc2, cast1] <;> rfl)); (focus (first | rfl | (simp [okIdsB, Nat.ble_eq]; done))); (focus rfl); (focus (first | trivial | (simp only [preOK]; omega) | exact ⟨by first | trivial | rfl | omega, by assumption, by omega⟩ | (simp [preOK, AllBytes, Heap.put_put', hat2, hgm, hsm, hps, hc1, hc2, cast1]; first | done | omega))); (focus (simp only [Heap.put_put', hat2, hgm, hsm, hps, hc1, hc2, cast1, Heap.puts, Heap.put_app, Heap.put_app0, Heap.put_len, Heap.put, List.length_append, List.length_cons, List.length_nil, Nat.zero_add, Nat.reduceAdd] <;> rfl))) | with_reducible (first | refine aw_reg_d P_mixed ?_ | refine ar_done ?_ | refine aw_seq ?_ | refine aw_reg ?_ | refine aw_block ?_ | refine aw_skip ?_ | refine aw_exit ?_ | refine aw_ret ?_ | refine at_n ?_ | refine at_e ?_ | refine at_r ?_ | refine ab_n ?_ | refine ab_r ?_ | refine ab_e ?_ | refine ab_ne rfl ?_ | refine an_e ?_ | refine an_r ?_ | refine am_e ?_ | refine am_r ?_) | ((with_reducible apply aw_cond_f); (focus (simp only [go_sem, Nat.reduceLT, Nat.reduceAdd, Nat.reduceLeDiff, Nat.reduceMul, Nat.reduceEqDiff, Nat.reduceBEq, reduceIte, Heap.put_put', hat2, hgm, hsm, hps, hc1, hc2, cast1] <;> rfl))) | ((with_reducible apply aw_cond_t); (focus (simp only [go_sem, Nat.reduceLT, Nat.reduceAdd, Nat.reduceLeDiff, Nat.reduceMul, Nat.reduceEqDiff, Nat.reduceBEq, reduceIte, Heap.put_put', hat2, hgm, hsm, hps, hc1, hc2, cast1] <;> rfl))) | ((with_reducible apply aw_cond_d); (focus (simp only [go_sem, Nat.reduceLT, Nat.reduceAdd, Nat.reduceLeDiff, Nat.reduceMul, Nat.reduceEqDiff, Nat.reduceBEq, reduceIte, Heap.put_put', hat2, hgm, hsm, hps, hc1, hc2, cast1] <;> rfl)); all_goals (intro hcond; try (exfalso; omega))) | ((with_reducible first | apply ae_r | apply ae_n); (focus (simp only [go_sem, Nat.reduceLT, Nat.reduceAdd, Nat.reduceLeDiff, Nat.reduceMul, Nat.reduceEqDiff, Nat.reduceBEq, reduceIte, Heap.put_put', hat2, hgm, hsm, hps, hc1, hc2, cast1] <;> rfl))) | ((with_reducible apply ard_done); (focus rfl)))
    have hv : l[i] = ⟨k0, n0, t0, l0, ns0⟩ := by
      rw [← hE, List.getD_eq_getElem?_getD, List.getElem?_eq_getElem hlt]; rfl
    have hc3 : k + cntVs (l.take (i + 1)) = m + 1 + 1 + 1 + cntVs l0 + ns0.length := by
      rw [List.take_succ_eq_append_getElem hlt, cntVs_append, hv]
      simp only [cntVs, cntV]; omega
    have s3 : ∀ c, c ∉ i1 → c ∉ i2 → c ≠ b → H3.at c = H1.at c := fun c h1 h2 h3 => (hO3.same c h2).trans (s2 c h1 h3)
    refine anextn [(0, .row b 0 l.length (some cap) 5), (1, .int .i64 ((k + cntVs (l.take (i + 1)) : Nat) : Int)), (5, .int .i64 ((i + 1 : Nat) : Int))] _ (k' := l.length - (i + 1)) (by omega) (by rw [hO3.len, hlen2, hO.len]; exact Nat.le_refl _) ?_ (heapW_refl _) rfl
      ⟨i + 1, _, by omega, rfl, rfl, (hO3.same b n3).trans hat2, ?_, hO3.len.trans hlen2, fun c hc => ?_⟩
    · rw [hc3]; simp [subP, Env.get, Weak.refl]
    · rw [List.take_succ_eq_append_getElem hlt, mkVs_append, hv, hm, hids, List.append_assoc]
      refine LVs.app.2 ⟨eX, _, iX, _, rfl, rfl, LVs.mono _ hX fun c hc => s3 c (fun h => n11 c hc c (.inl (.inl h)) rfl) (fun h => n11 c hc c (.inl (.inr h)) rfl) (fun h => n1 (h ▸ hc)), ?_⟩
      exact ⟨_, eY, i1 ++ i2, iY, rfl, LV_iff.2 ⟨aL, aN, i1, i2, rfl, hl1'.mono fun c hc => hO3.same c (fun h => n8 c hc c h rfl), hl2', rfl⟩,
        LVs.mono _ hY fun c hc => s3 c (fun h => n10 c (.inl h) c hc rfl) (fun h => n10 c (.inr h) c hc rfl) (fun h => n4 (h ▸ hc)), rfl⟩
    · have hc' : c ≠ b ∧ c ∉ i1 ∧ c ∉ i2 := by
        rw [hids] at hc
        simp only [List.mem_cons, List.mem_append, not_or] at hc
        exact ⟨hc.1, hc.2.2.1.1, hc.2.2.1.2⟩
      exact (s3 c hc'.2.1 hc'.2.2 hc'.1).trans (hO.same c hc)
  · have : i = l.length := by omega
    subst this
    repeat' (first | ((with_reducible first | apply ar_w T_ok | apply ar_w0 T_ok | apply ard_w T_ok | apply ard_w0 T_ok); (focus (simp (disch := omega) only [go_sem, Nat.reduceLT, Nat.reduceAdd, Nat.reduceLeDiff, Nat.reduceMul, Nat.reduceEqDiff, Nat.reduceBEq, reduceIte, Heap.put_put'] <;> rfl)); (focus (first | rfl | (simp [okIdsB, Nat.ble_eq]; done))); (focus rfl); (focus (first | trivial | (simp only [preOK]; omega) | exact ⟨by first | trivial | rfl | omega, by assumption, by omega⟩ | (simp [preOK, AllBytes, Heap.put_put']; first | done | omega))); (focus (simp only [Heap.put_put', Heap.puts, Heap.put_app, Heap.put_app0, Heap.put_len, Heap.put, List.length_append, List.length_cons, List.length_nil, Nat.zero_add, Nat.reduceAdd] <;> rfl))) | with_reducible (first | refine aw_reg_d P_mixed ?_ | refine ar_done ?_ | refine aw_seq ?_ | refine aw_reg ?_ | refine aw_block ?_ | refine aw_skip ?_ | refine aw_exit ?_ | refine aw_ret ?_ | refine at_n ?_ | refine at_e ?_ | refine at_r ?_ | refine ab_n ?_ | refine ab_r ?_ | refine ab_e ?_ | refine ab_ne rfl ?_ | refine an_e ?_ | refine an_r ?_ | refine am_e ?_ | refine am_r ?_) | ((with_reducible apply aw_cond_f); (focus (simp only [go_sem, Nat.reduceLT, Nat.reduceAdd, Nat.reduceLeDiff, Nat.reduceMul, Nat.reduceEqDiff, Nat.reduceBEq, reduceIte, Heap.put_put'] <;> rfl))) | ((with_reducible apply aw_cond_t); (focus (simp only [go_sem, Nat.reduceLT, Nat.reduceAdd, Nat.reduceLeDiff, Nat.reduceMul, Nat.reduceEqDiff, Nat.reduceBEq, reduceIte, Heap.put_put'] <;> rfl))) | ((with_reducible apply aw_cond_d); (focus (simp only [go_sem, Nat.reduceLT, Nat.reduceAdd, Nat.reduceLeDiff, Nat.reduceMul, Nat.reduceEqDiff, Nat.reduceBEq, reduceIte, Heap.put_put'] <;> rfl)); all_goals (intro hcond; try (exfalso; omega))) | ((with_reducible first | apply ae_r | apply ae_n); (focus (simp only [go_sem, Nat.reduceLT, Nat.reduceAdd, Nat.reduceLeDiff, Nat.reduceMul, Nat.reduceEqDiff, Nat.reduceBEq, reduceIte, Heap.put_put'] <;> rfl))) | ((with_reducible apply ard_done); (focus rfl)))
    rw [List.take_length, List.drop_length, List.append_nil] at hL1
    rw [List.take_length]
    exact ⟨rfl, .inr ⟨b, cap, es1, inner, by rw [mkVs_len], hat1, hL1, rfl⟩, hO⟩

theorem markValueS_nil (k : Nat) (H : Heap) (h2 : k ≤ 4611686018427387904) : FCall P 34 [.nsl 5, .int .i64 k] H fun r H' => r = .int .i64 k ∧ H' = H := by
  refine fcall_walk T_ok ok_34 rfl ?_
  unfold Go.Proofs.Try.f34
  simp only [Option.getD_some, envOf, Nat.zero_add, Nat.reduceAdd]
  repeat' (first | ((with_reducible first | apply ar_w T_ok | apply ar_w0 T_ok | apply ard_w T_ok | apply ard_w0 T_ok); (focus (simp (disch := omega) only [go_sem, Nat.reduceLT, Nat.reduceAdd, Nat.reduceLeDiff, Nat.reduceMul, Nat.reduceEqDiff, Nat.reduceBEq, reduceIte, strs_len] <;> rfl)); (focus (first | rfl | (simp [okIdsB, Nat.ble_eq]; done))); (focus rfl); (focus (first | trivial | (simp only [preOK]; omega) | exact ⟨by first | trivial | rfl | omega, by assumption, by omega⟩ | (simp [preOK, AllBytes, strs_len]; first | done | omega))); (focus (simp only [strs_len, Heap.puts, Heap.put_app, Heap.put_app0, Heap.put_len, Heap.put, List.length_append, List.length_cons, List.length_nil, Nat.zero_add, Nat.reduceAdd] <;> rfl))) | with_reducible (first | refine aw_reg_d P_mixed ?_ | refine ar_done ?_ | refine aw_seq ?_ | refine aw_reg ?_ | refine aw_block ?_ | refine aw_skip ?_ | refine aw_exit ?_ | refine aw_ret ?_ | refine at_n ?_ | refine at_e ?_ | refine at_r ?_ | refine ab_n ?_ | refine ab_r ?_ | refine ab_e ?_ | refine ab_ne rfl ?_ | refine an_e ?_ | refine an_r ?_ | refine am_e ?_ | refine am_r ?_) | ((with_reducible apply aw_cond_f); (focus (simp only [go_sem, Nat.reduceLT, Nat.reduceAdd, Nat.reduceLeDiff, Nat.reduceMul, Nat.reduceEqDiff, Nat.reduceBEq, reduceIte, strs_len] <;> rfl))) | ((with_reducible apply aw_cond_t); (focus (simp only [go_sem, Nat.reduceLT, Nat.reduceAdd, Nat.reduceLeDiff, Nat.reduceMul, Nat.reduceEqDiff, Nat.reduceBEq, reduceIte, strs_len] <;> rfl))) | ((with_reducible apply aw_cond_d); (focus (simp only [go_sem, Nat.reduceLT, Nat.reduceAdd, Nat.reduceLeDiff, Nat.reduceMul, Nat.reduceEqDiff, Nat.reduceBEq, reduceIte, strs_len] <;> rfl)); all_goals (intro hcond; try (exfalso; omega))) | ((with_reducible first | apply ae_r | apply ae_n); (focus (simp only [go_sem, Nat.reduceLT, Nat.reduceAdd, Nat.reduceLeDiff, Nat.reduceMul, Nat.reduceEqDiff, Nat.reduceBEq, reduceIte, strs_len] <;> rfl))) | ((with_reducible apply ard_done); (focus rfl)))
  refine aw_loopn (fun kk env H1 => env = [(0, .nsl 5), (1, .int .i64 k), (5, .int .i64 0)] ∧ H1 = H) 0
    [(0, .nsl 5), (1, .int .i64 k), (5, .int .i64 0)] _ (by simp [subP, Env.get, Weak.refl]) (heapW_refl _) rfl ⟨rfl, rfl⟩ ?_
  rintro kk env H1 ⟨rfl, rfl⟩
  repeat' (first | ((with_reducible first | apply ar_w T_ok | apply ar_w0 T_ok | apply ard_w T_ok | apply ard_w0 T_ok); (focus (simp (disch := omega) only [go_sem, Nat.reduceLT, Nat.reduceAdd, Nat.reduceLeDiff, Nat.reduceMul, Nat.reduceEqDiff, Nat.reduceBEq, reduceIte, strs_len] <;> rfl)); (focus (first | rfl | (simp [okIdsB, Nat.ble_eq]; done))); (focus rfl); (focus (first | trivial | (simp only [preOK]; omega) | exact ⟨by first | trivial | rfl | omega, by assumption, by omega⟩ | (simp [preOK, AllBytes, strs_len]; first | done | omega))); (focus (simp only [strs_len, Heap.puts, Heap.put_app, Heap.put_app0, Heap.put_len, Heap.put, List.length_append, List.length_cons, List.length_nil, Nat.zero_add, Nat.reduceAdd] <;> rfl))) | with_reducible (first | refine aw_reg_d P_mixed ?_ | refine ar_done ?_ | refine aw_seq ?_ | refine aw_reg ?_ | refine aw_block ?_ | refine aw_skip ?_ | refine aw_exit ?_ | refine aw_ret ?_ | refine at_n ?_ | refine at_e ?_ | refine at_r ?_ | refine ab_n ?_ | refine ab_r ?_ | refine ab_e ?_ | refine ab_ne rfl ?_ | refine an_e ?_ | refine an_r ?_ | refine am_e ?_ | refine am_r ?_) | ((with_reducible apply aw_cond_f); (focus (simp only [go_sem, Nat.reduceLT, Nat.reduceAdd, Nat.reduceLeDiff, Nat.reduceMul, Nat.reduceEqDiff, Nat.reduceBEq, reduceIte, strs_len] <;> rfl))) | ((with_reducible apply aw_cond_t); (focus (simp only [go_sem, Nat.reduceLT, Nat.reduceAdd, Nat.reduceLeDiff, Nat.reduceMul, Nat.reduceEqDiff, Nat.reduceBEq, reduceIte, strs_len] <;> rfl))) | ((with_reducible apply aw_cond_d); (focus (simp only [go_sem, Nat.reduceLT, Nat.reduceAdd, Nat.reduceLeDiff, Nat.reduceMul, Nat.reduceEqDiff, Nat.reduceBEq, reduceIte, strs_len] <;> rfl)); all_goals (intro hcond; try (exfalso; omega))) | ((with_reducible first | apply ae_r | apply ae_n); (focus (simp only [go_sem, Nat.reduceLT, Nat.reduceAdd, Nat.reduceLeDiff, Nat.reduceMul, Nat.reduceEqDiff, Nat.reduceBEq, reduceIte, strs_len] <;> rfl))) | ((with_reducible apply ard_done); (focus rfl)))
  exact ⟨rfl, rfl⟩

theorem FCall.mono {g : FuncId} {args : List AV} {H : Heap} {R R' : AV → Heap → Prop} (h : FCall P g args H R) (hr : ∀ r H', R r H' → R' r H') : FCall P g args H R' := fun C vs p1 p2 p3 p4 =>
  Calls.mono (h C vs p1 p2 p3 p4) fun e w' ⟨v, r, C', H', q1, q2, q3⟩ => ⟨v, r, C', H', q1, hr _ _ q2, q3⟩

theorem markValueS_all : ∀ (N : Nat) (l : List GV) (a : AV) (ids : List Nat) (k : Nat) (H : Heap), sizes l < N → LVS H l a ids → ids.Nodup → (∀ c ∈ ids, c < H.length) → Len l → fitss l → 1 ≤ k → k + cntVs l ≤ 4611686018427387904 →
    FCall P 34 [a, .int .i64 k] H fun r H2 => r = .int .i64 ((k + cntVs l : Nat) : Int) ∧ LVS H2 (mkVs l k) a ids ∧ Only H H2 ids
  | 0, l, a, ids, k, H, h, _, _, _, _, _, _, _ => by omega
  | N + 1, l, a, ids, k, H, h, hL, hnd, hb, hl, hf, h1, h2 => by
    rcases hL with ⟨rfl, rfl, rfl⟩ | ⟨b, cap, es, i, rfl, hat, hLs, rfl⟩
    · refine FCall.mono (markValueS_nil k H (by omega)) ?_
      rintro r H' ⟨rfl, rfl⟩
      exact ⟨rfl, .inl ⟨rfl, rfl, rfl⟩, rfl, fun _ _ => rfl⟩
    · exact markValueS_row l b cap k es i H hat hLs hnd hb hl hf h1 h2 fun l' a' ids' k' H' hs p1 p2 p3 p4 p5 p6 p7 => markValueS_all N l' a' ids' k' H' (by omega) p1 p2 p3 p4 p5 p6 p7
theorem markValueS_ok (l : List GV) (a : AV) (ids : List Nat) (k : Nat) (H : Heap) (hL : LVS H l a ids) (hnd : ids.Nodup) (hb : ∀ c ∈ ids, c < H.length) (hl : Len l) (hf : fitss l) (h1 : 1 ≤ k) (h2 : k + cntVs l ≤ 4611686018427387904) :
    FCall P 34 [a, .int .i64 k] H fun r H2 => r = .int .i64 ((k + cntVs l : Nat) : Int) ∧ LVS H2 (mkVs l k) a ids ∧ Only H H2 ids :=
  markValueS_all (sizes l + 1) l a ids k H (by omega) hL hnd hb hl hf h1 h2
end Go.Av
set_option linter.unusedVariables false
set_option linter.unusedSimpArgs false
namespace Go.Av
open Go
set_option maxRecDepth 10000

theorem heldStringS_ok (ns : List (List UInt8)) (k : Nat) (hl : Len ns) (h1 : 1 ≤ k) (h2 : k + ns.length ≤ 4611686018427387904) : PCall P 72 [.fsl 1 (strs (mtS ns k)), .int .i64 k] (.int .i64 ((k + ns.length : Nat) : Int)) := by
  have hms : (1 : Nat) = 1 := rfl
  refine pcall_of_fcall (fcall_walk T_ok ok_72 rfl ?_)
  unfold Go.Proofs.Try.f72
  simp only [Option.getD_some, envOf, Nat.zero_add, Nat.reduceAdd]
  repeat' (first | ((with_reducible first | apply ar_w T_ok | apply ar_w0 T_ok | apply ard_w T_ok | apply ard_w0 T_ok); (focus (simp (disch := omega) only [go_sem, Nat.reduceLT, Nat.reduceAdd, Nat.reduceLeDiff, Nat.reduceMul, Nat.reduceEqDiff, Nat.reduceBEq, reduceIte, hms, strs_get, strs_len, mtS_len, cast1] <;> rfl)); (focus (first | rfl | (simp [okIdsB, Nat.ble_eq]; done))); (focus rfl); (focus (first | trivial | (simp only [preOK]; omega) | exact ⟨by first | trivial | rfl | omega, by assumption, by omega⟩ | (simp [preOK, AllBytes, hms, strs_get, strs_len, mtS_len, cast1]; first | done | omega))); (focus (simp only [hms, strs_get, strs_len, mtS_len, cast1, Heap.puts, Heap.put_app, Heap.put_app0, Heap.put_len, Heap.put, List.length_append, List.length_cons, List.length_nil, Nat.zero_add, Nat.reduceAdd] <;> rfl))) | with_reducible (first | refine aw_reg_d P_mixed ?_ | refine ar_done ?_ | refine aw_seq ?_ | refine aw_reg ?_ | refine aw_block ?_ | refine aw_skip ?_ | refine aw_exit ?_ | refine aw_ret ?_ | refine at_n ?_ | refine at_e ?_ | refine at_r ?_ | refine ab_n ?_ | refine ab_r ?_ | refine ab_e ?_ | refine ab_ne rfl ?_ | refine an_e ?_ | refine an_r ?_ | refine am_e ?_ | refine am_r ?_) | ((with_reducible apply aw_cond_f); (focus (simp only [go_sem, Nat.reduceLT, Nat.reduceAdd, Nat.reduceLeDiff, Nat.reduceMul, Nat.reduceEqDiff, Nat.reduceBEq, reduceIte, hms, strs_get, strs_len, mtS_len, cast1] <;> rfl))) | ((with_reducible apply aw_cond_t); (focus (simp only [go_sem, Nat.reduceLT, Nat.reduceAdd, Nat.reduceLeDiff, Nat.reduceMul, Nat.reduceEqDiff, Nat.reduceBEq, reduceIte, hms, strs_get, strs_len, mtS_len, cast1] <;> rfl))) | ((with_reducible apply aw_cond_d); (focus (simp only [go_sem, Nat.reduceLT, Nat.reduceAdd, Nat.reduceLeDiff, Nat.reduceMul, Nat.reduceEqDiff, Nat.reduceBEq, reduceIte, hms, strs_get, strs_len, mtS_len, cast1] <;> rfl)); all_goals (intro hcond; try (exfalso; omega))) | ((with_reducible first | apply ae_r | apply ae_n); (focus (simp only [go_sem, Nat.reduceLT, Nat.reduceAdd, Nat.reduceLeDiff, Nat.reduceMul, Nat.reduceEqDiff, Nat.reduceBEq, reduceIte, hms, strs_get, strs_len, mtS_len, cast1] <;> rfl))) | ((with_reducible apply ard_done); (focus rfl)))
  refine aw_loopc (fun kk env H => ∃ (i : Nat), i ≤ ns.length ∧ kk = ns.length - i ∧ H = [] ∧ env = [(0, .fsl 1 (strs (mtS ns k))), (1, .int .i64 ((k + i : Nat) : Int)), (5, .int .i64 i)]) ns.length
      [(0, .fsl 1 (strs (mtS ns k))), (1, .int .i64 k), (5, .int .i64 0)] [] (by simp [subP, Env.get, Weak.refl]) rfl trivial rfl rfl ⟨0, Nat.zero_le _, rfl, rfl, rfl⟩ ?_
  rintro kk env H ⟨i, hi, hk, rfl, rfl⟩
  by_cases hlt : i < ns.length
  · clear hms
    have hms := mtS_getD ns k i hlt
    have hlt' : i < (mtS ns k).length := by rw [mtS_len]; exact hlt
    repeat' (first | ((with_reducible first | apply ar_w T_ok | apply ar_w0 T_ok | apply ard_w T_ok | apply ard_w0 T_ok); (focus (simp (disch := omega) only [go_sem, Nat.reduceLT, Nat.reduceAdd, Nat.reduceLeDiff, Nat.reduceMul, Nat.reduceEqDiff, Nat.reduceBEq, reduceIte, hms, strs_get, strs_len, mtS_len, cast1] <;> rfl)); (focus (first | rfl | (simp [okIdsB, Nat.ble_eq]; done))); (focus rfl); (focus (first | trivial | (simp only [preOK]; omega) | exact ⟨by first | trivial | rfl | omega, by assumption, by omega⟩ | (simp [preOK, AllBytes, hms, strs_get, strs_len, mtS_len, cast1]; first | done | omega))); (focus (simp only [hms, strs_get, strs_len, mtS_len, cast1, Heap.puts, Heap.put_app, Heap.put_app0, Heap.put_len, Heap.put, List.length_append, List.length_cons, List.length_nil, Nat.zero_add, Nat.reduceAdd] <;> rfl))) | with_reducible (first | refine aw_reg_d P_mixed ?_ | refine ar_done ?_ | refine aw_seq ?_ | refine aw_reg ?_ | refine aw_block ?_ | refine aw_skip ?_ | refine aw_exit ?_ | refine aw_ret ?_ | refine at_n ?_ | refine at_e ?_ | refine at_r ?_ | refine ab_n ?_ | refine ab_r ?_ | refine ab_e ?_ | refine ab_ne rfl ?_ | refine an_e ?_ | refine an_r ?_ | refine am_e ?_ | refine am_r ?_) | ((with_reducible apply aw_cond_f); (focus (simp only [go_sem, Nat.reduceLT, Nat.reduceAdd, Nat.reduceLeDiff, Nat.reduceMul, Nat.reduceEqDiff, Nat.reduceBEq, reduceIte, hms, strs_get, strs_len, mtS_len, cast1] <;> rfl))) | ((with_reducible apply aw_cond_t); (focus (simp only [go_sem, Nat.reduceLT, Nat.reduceAdd, Nat.reduceLeDiff, Nat.reduceMul, Nat.reduceEqDiff, Nat.reduceBEq, reduceIte, hms, strs_get, strs_len, mtS_len, cast1] <;> rfl))) | ((with_reducible apply aw_cond_d); (focus (simp only [go_sem, Nat.reduceLT, Nat.reduceAdd, Nat.reduceLeDiff, Nat.reduceMul, Nat.reduceEqDiff, Nat.reduceBEq, reduceIte, hms, strs_get, strs_len, mtS_len, cast1] <;> rfl)); all_goals (intro hcond; try (exfalso; omega))) | ((with_reducible first | apply ae_r | apply ae_n); (focus (simp only [go_sem, Nat.reduceLT, Nat.reduceAdd, Nat.reduceLeDiff, Nat.reduceMul, Nat.reduceEqDiff, Nat.reduceBEq, reduceIte, hms, strs_get, strs_len, mtS_len, cast1] <;> rfl))) | ((with_reducible apply ard_done); (focus rfl)))
    ((apply ard_call rfl ok_33); (focus (simp only [go_sem, Nat.reduceLT, Nat.reduceAdd, Nat.reduceLeDiff, Nat.reduceMul, Nat.reduceEqDiff, Nat.reduceBEq, reduceIte, hms, strs_get, strs_len, mtS_len, cast1, List.map] <;> rfl)); (focus exact markText_ok (k + i) (by omega) (by omega)); (focus rfl); (focus rfl))
    repeat' (first | ((with_reducible first | apply ar_w T_ok | apply ar_w0 T_ok | apply ard_w T_ok | apply ard_w0 T_ok); (focus (simp (disch := omega) only [go_sem, Nat.reduceLT, Nat.reduceAdd, Nat.reduceLeDiff, Nat.reduceMul, Nat.reduceEqDiff, Nat.reduceBEq, reduceIte, hms, strs_get, strs_len, mtS_len, cast1] <;> rfl)); (focus (first | rfl | (simp [okIdsB, Nat.ble_eq]; done))); (focus rfl); (focus (first | trivial | (simp only [preOK]; omega) | exact ⟨by first | trivial | rfl | omega, by assumption, by omega⟩ | (simp [preOK, AllBytes, hms, strs_get, strs_len, mtS_len, cast1]; first | done | omega))); (focus (simp only [hms, strs_get, strs_len, mtS_len, cast1, Heap.puts, Heap.put_app, Heap.put_app0, Heap.put_len, Heap.put, List.length_append, List.length_cons, List.length_nil, Nat.zero_add, Nat.reduceAdd] <;> rfl))) | with_reducible (first | refine aw_reg_d P_mixed ?_ | refine ar_done ?_ | refine aw_seq ?_ | refine aw_reg ?_ | refine aw_block ?_ | refine aw_skip ?_ | refine aw_exit ?_ | refine aw_ret ?_ | refine at_n ?_ | refine at_e ?_ | refine at_r ?_ | refine ab_n ?_ | refine ab_r ?_ | refine ab_e ?_ | refine ab_ne rfl ?_ | refine an_e ?_ | refine an_r ?_ | refine am_e ?_ | refine am_r ?_) | ((with_reducible apply aw_cond_f); (focus (simp only [go_sem, Nat.reduceLT, Nat.reduceAdd, Nat.reduceLeDiff, Nat.reduceMul, Nat.reduceEqDiff, Nat.reduceBEq, reduceIte, hms, strs_get, strs_len, mtS_len, cast1] <;> rfl))) | ((with_reducible apply aw_cond_t); (focus (simp only [go_sem, Nat.reduceLT, Nat.reduceAdd, Nat.reduceLeDiff, Nat.reduceMul, Nat.reduceEqDiff, Nat.reduceBEq, reduceIte, hms, strs_get, strs_len, mtS_len, cast1] <;> rfl))) | ((with_reducible apply aw_cond_d); (focus (simp only [go_sem, Nat.reduceLT, Nat.reduceAdd, Nat.reduceLeDiff, Nat.reduceMul, Nat.reduceEqDiff, Nat.reduceBEq, reduceIte, hms, strs_get, strs_len, mtS_len, cast1] <;> rfl)); all_goals (intro hcond; try (exfalso; omega))) | ((with_reducible first | apply ae_r | apply ae_n); (focus (simp only [go_sem, Nat.reduceLT, Nat.reduceAdd, Nat.reduceLeDiff, Nat.reduceMul, Nat.reduceEqDiff, Nat.reduceBEq, reduceIte, hms, strs_get, strs_len, mtS_len, cast1] <;> rfl))) | ((with_reducible apply ard_done); (focus rfl)))
    refine anext0 [(0, .fsl 1 (strs (mtS ns k))), (1, .int .i64 ((k + (i + 1) : Nat) : Int)), (5, .int .i64 (i + 1 : Nat))] [] (k' := ns.length - (i + 1)) (by omega) ?_ rfl trivial rfl rfl ⟨i + 1, by omega, rfl, rfl, rfl⟩
    simp [subP, Env.get, Weak.refl, Int.add_assoc]
  · have : i = ns.length := by omega
    subst this
    repeat' (first | ((with_reducible first | apply ar_w T_ok | apply ar_w0 T_ok | apply ard_w T_ok | apply ard_w0 T_ok); (focus (simp (disch := omega) only [go_sem, Nat.reduceLT, Nat.reduceAdd, Nat.reduceLeDiff, Nat.reduceMul, Nat.reduceEqDiff, Nat.reduceBEq, reduceIte, hms, strs_get, strs_len, mtS_len, cast1] <;> rfl)); (focus (first | rfl | (simp [okIdsB, Nat.ble_eq]; done))); (focus rfl); (focus (first | trivial | (simp only [preOK]; omega) | exact ⟨by first | trivial | rfl | omega, by assumption, by omega⟩ | (simp [preOK, AllBytes, hms, strs_get, strs_len, mtS_len, cast1]; first | done | omega))); (focus (simp only [hms, strs_get, strs_len, mtS_len, cast1, Heap.puts, Heap.put_app, Heap.put_app0, Heap.put_len, Heap.put, List.length_append, List.length_cons, List.length_nil, Nat.zero_add, Nat.reduceAdd] <;> rfl))) | with_reducible (first | refine aw_reg_d P_mixed ?_ | refine ar_done ?_ | refine aw_seq ?_ | refine aw_reg ?_ | refine aw_block ?_ | refine aw_skip ?_ | refine aw_exit ?_ | refine aw_ret ?_ | refine at_n ?_ | refine at_e ?_ | refine at_r ?_ | refine ab_n ?_ | refine ab_r ?_ | refine ab_e ?_ | refine ab_ne rfl ?_ | refine an_e ?_ | refine an_r ?_ | refine am_e ?_ | refine am_r ?_) | ((with_reducible apply aw_cond_f); (focus (simp only [go_sem, Nat.reduceLT, Nat.reduceAdd, Nat.reduceLeDiff, Nat.reduceMul, Nat.reduceEqDiff, Nat.reduceBEq, reduceIte, hms, strs_get, strs_len, mtS_len, cast1] <;> rfl))) | ((with_reducible apply aw_cond_t); (focus (simp only [go_sem, Nat.reduceLT, Nat.reduceAdd, Nat.reduceLeDiff, Nat.reduceMul, Nat.reduceEqDiff, Nat.reduceBEq, reduceIte, hms, strs_get, strs_len, mtS_len, cast1] <;> rfl))) | ((with_reducible apply aw_cond_d); (focus (simp only [go_sem, Nat.reduceLT, Nat.reduceAdd, Nat.reduceLeDiff, Nat.reduceMul, Nat.reduceEqDiff, Nat.reduceBEq, reduceIte, hms, strs_get, strs_len, mtS_len, cast1] <;> rfl)); all_goals (intro hcond; try (exfalso; omega))) | ((with_reducible first | apply ae_r | apply ae_n); (focus (simp only [go_sem, Nat.reduceLT, Nat.reduceAdd, Nat.reduceLeDiff, Nat.reduceMul, Nat.reduceEqDiff, Nat.reduceBEq, reduceIte, hms, strs_get, strs_len, mtS_len, cast1] <;> rfl))) | ((with_reducible apply ard_done); (focus rfl)))
    rfl

theorem mkVs_getD : ∀ (l : List GV) (k i : Nat), i < l.length → (mkVs l k).getD i default = mkV (l.getD i default) (k + cntVs (l.take i))
  | v :: r, k, 0, h => by simp [mkVs, cntVs]
  | v :: r, k, i + 1, h => by
    simp only [mkVs, List.getD_cons_succ, List.take_succ_cons, cntVs]
    rw [mkVs_getD r (k + cntV v) i (by simpa using h)]
    congr 1; omega
theorem take_cnt {l : List GV} {i : Nat} (h : i < l.length) : cntVs (l.take (i + 1)) = cntVs (l.take i) + cntV (l.getD i default) := by
  rw [List.take_succ_eq_append_getElem h, cntVs_append, List.getD_eq_getElem?_getD, List.getElem?_eq_getElem h]
  simp [cntVs]
theorem cnt_take_le {l : List GV} {i : Nat} (h : i < l.length) : cntVs (l.take i) + cntV (l.getD i default) ≤ cntVs l := by
  rw [← take_cnt h]
  have := cntVs_append (l.take (i + 1)) (l.drop (i + 1))
  rw [List.take_append_drop] at this
  omega

theorem heldValueS_ok (l : List GV) (k : Nat) (hl : Len l) (hf : fitss l) (h1 : 1 ≤ k) (h2 : k + cntVs l ≤ 4611686018427387904)
    (ih : ∀ (l' : List GV) (k' : Nat), sizes l' < sizes l → Len l' → fitss l' → 1 ≤ k' → k' + cntVs l' ≤ 4611686018427387904 → PCall P 71 [.fsl 5 (encs (mkVs l' k')), .int .i64 k'] (.int .i64 ((k' + cntVs l' : Nat) : Int))) :
    PCall P 71 [.fsl 5 (encs (mkVs l k)), .int .i64 k] (.int .i64 ((k + cntVs l : Nat) : Int)) := by
  refine pcall_of_fcall (fcall_walk T_ok ok_71 rfl ?_)
  unfold Go.Proofs.Try.f71
  simp only [Option.getD_some, envOf, Nat.zero_add, Nat.reduceAdd]
  repeat' (first | ((with_reducible first | apply ar_w T_ok | apply ar_w0 T_ok | apply ard_w T_ok | apply ard_w0 T_ok); (focus (simp (disch := omega) only [go_sem, Nat.reduceLT, Nat.reduceAdd, Nat.reduceLeDiff, Nat.reduceMul, Nat.reduceEqDiff, Nat.reduceBEq, reduceIte, encs_get, encs_len, mkVs_len, cast1] <;> rfl)); (focus (first | rfl | (simp [okIdsB, Nat.ble_eq]; done))); (focus rfl); (focus (first | trivial | (simp only [preOK]; omega) | exact ⟨by first | trivial | rfl | omega, by assumption, by omega⟩ | (simp [preOK, AllBytes, encs_get, encs_len, mkVs_len, cast1]; first | done | omega))); (focus (simp only [encs_get, encs_len, mkVs_len, cast1, Heap.puts, Heap.put_app, Heap.put_app0, Heap.put_len, Heap.put, List.length_append, List.length_cons, List.length_nil, Nat.zero_add, Nat.reduceAdd] <;> rfl))) | with_reducible (first | refine aw_reg_d P_mixed ?_ | refine ar_done ?_ | refine aw_seq ?_ | refine aw_reg ?_ | refine aw_block ?_ | refine aw_skip ?_ | refine aw_exit ?_ | refine aw_ret ?_ | refine at_n ?_ | refine at_e ?_ | refine at_r ?_ | refine ab_n ?_ | refine ab_r ?_ | refine ab_e ?_ | refine ab_ne rfl ?_ | refine an_e ?_ | refine an_r ?_ | refine am_e ?_ | refine am_r ?_) | ((with_reducible apply aw_cond_f); (focus (simp only [go_sem, Nat.reduceLT, Nat.reduceAdd, Nat.reduceLeDiff, Nat.reduceMul, Nat.reduceEqDiff, Nat.reduceBEq, reduceIte, encs_get, encs_len, mkVs_len, cast1] <;> rfl))) | ((with_reducible apply aw_cond_t); (focus (simp only [go_sem, Nat.reduceLT, Nat.reduceAdd, Nat.reduceLeDiff, Nat.reduceMul, Nat.reduceEqDiff, Nat.reduceBEq, reduceIte, encs_get, encs_len, mkVs_len, cast1] <;> rfl))) | ((with_reducible apply aw_cond_d); (focus (simp only [go_sem, Nat.reduceLT, Nat.reduceAdd, Nat.reduceLeDiff, Nat.reduceMul, Nat.reduceEqDiff, Nat.reduceBEq, reduceIte, encs_get, encs_len, mkVs_len, cast1] <;> rfl)); all_goals (intro hcond; try (exfalso; omega))) | ((with_reducible first | apply ae_r | apply ae_n); (focus (simp only [go_sem, Nat.reduceLT, Nat.reduceAdd, Nat.reduceLeDiff, Nat.reduceMul, Nat.reduceEqDiff, Nat.reduceBEq, reduceIte, encs_get, encs_len, mkVs_len, cast1] <;> rfl))) | ((with_reducible apply ard_done); (focus rfl)))
  refine aw_loopc (fun kk env H => ∃ (i : Nat), i ≤ l.length ∧ kk = l.length - i ∧ H = [] ∧ env = [(0, .fsl 5 (encs (mkVs l k))), (1, .int .i64 ((k + cntVs (l.take i) : Nat) : Int)), (5, .int .i64 i)]) l.length
      [(0, .fsl 5 (encs (mkVs l k))), (1, .int .i64 k), (5, .int .i64 0)] [] (by simp [subP, Env.get, Weak.refl]) rfl trivial rfl rfl ⟨0, Nat.zero_le _, rfl, rfl, rfl⟩ ?_
  rintro kk env H ⟨i, hi, hk, rfl, rfl⟩
  by_cases hlt : i < l.length
  · have hmem := mem_getD (d := default) hlt
    have hff := fitss_mem hf _ hmem
    have hsz := sizes_mem hmem
    have hmk := mkVs_getD l k i hlt
    have hct := cnt_take_le hlt
    have htk := take_cnt hlt
    have hlt' : i < (mkVs l k).length := by rw [mkVs_len]; exact hlt
    obtain ⟨⟨k0, n0, t0, l0, ns0⟩, hE⟩ : ∃ x, l.getD i default = x := ⟨_, rfl⟩
    rw [hE] at hff hsz hmk hct htk
    obtain ⟨g1, g2, g3, g4, g5, g6, g7⟩ := hff
    obtain ⟨m, hm⟩ : ∃ m, k + cntVs (l.take i) = m := ⟨_, rfl⟩
    rw [hm] at hmk ⊢
    simp only [cntV] at hct htk
    repeat' (first | ((with_reducible first | apply ar_w T_ok | apply ar_w0 T_ok | apply ard_w T_ok | apply ard_w0 T_ok); (focus (simp (disch := omega) only [go_sem, Nat.reduceLT, Nat.reduceAdd, Nat.reduceLeDiff, Nat.reduceMul, Nat.reduceEqDiff, Nat.reduceBEq, reduceIte, hmk, mkV, GV.enc, encs_get, encs_len, mkVs_len, cast1] <;> rfl)); (focus (first | rfl | (simp [okIdsB, Nat.ble_eq]; done))); (focus rfl); (focus (first | trivial | (simp only [preOK]; omega) | exact ⟨by first | trivial | rfl | omega, by assumption, by omega⟩ | (simp [preOK, AllBytes, hmk, mkV, GV.enc, encs_get, encs_len, mkVs_len, cast1]; first | done | omega))); (focus (simp only [hmk, mkV, GV.enc, encs_get, encs_len, mkVs_len, cast1, Heap.puts, Heap.put_app, Heap.put_app0, Heap.put_len, Heap.put, List.length_append, List.length_cons, List.length_nil, Nat.zero_add, Nat.reduceAdd] <;> rfl))) | with_reducible (first | refine aw_reg_d P_mixed ?_ | refine ar_done ?_ | refine aw_seq ?_ | refine aw_reg ?_ | refine aw_block ?_ | refine aw_skip ?_ | refine aw_exit ?_ | refine aw_ret ?_ | refine at_n ?_ | refine at_e ?_ | refine at_r ?_ | refine ab_n ?_ | refine ab_r ?_ | refine ab_e ?_ | refine ab_ne rfl ?_ | refine an_e ?_ | refine an_r ?_ | refine am_e ?_ | refine am_r ?_) | ((with_reducible apply aw_cond_f); (focus (simp only [go_sem, Nat.reduceLT, Nat.reduceAdd, Nat.reduceLeDiff, Nat.reduceMul, Nat.reduceEqDiff, Nat.reduceBEq, reduceIte, hmk, mkV, GV.enc, encs_get, encs_len, mkVs_len, cast1] <;> rfl))) | ((with_reducible apply aw_cond_t); (focus (simp only [go_sem, Nat.reduceLT, Nat.reduceAdd, Nat.reduceLeDiff, Nat.reduceMul, Nat.reduceEqDiff, Nat.reduceBEq, reduceIte, hmk, mkV, GV.enc, encs_get, encs_len, mkVs_len, cast1] <;> rfl))) | ((with_reducible apply aw_cond_d); (focus (simp only [go_sem, Nat.reduceLT, Nat.reduceAdd, Nat.reduceLeDiff, Nat.reduceMul, Nat.reduceEqDiff, Nat.reduceBEq, reduceIte, hmk, mkV, GV.enc, encs_get, encs_len, mkVs_len, cast1] <;> rfl)); all_goals (intro hcond; try (exfalso; omega))) | ((with_reducible first | apply ae_r | apply ae_n); (focus (simp only [go_sem, Nat.reduceLT, Nat.reduceAdd, Nat.reduceLeDiff, Nat.reduceMul, Nat.reduceEqDiff, Nat.reduceBEq, reduceIte, hmk, mkV, GV.enc, encs_get, encs_len, mkVs_len, cast1] <;> rfl))) | ((with_reducible apply ard_done); (focus rfl)))
    ((apply ard_call rfl ok_33); (focus (simp only [go_sem, Nat.reduceLT, Nat.reduceAdd, Nat.reduceLeDiff, Nat.reduceMul, Nat.reduceEqDiff, Nat.reduceBEq, reduceIte, hmk, mkV, GV.enc, encs_get, encs_len, mkVs_len, cast1, List.map] <;> rfl)); (focus exact markText_ok (m + 1 + 1) (by omega) (by omega)); (focus rfl); (focus rfl))
    repeat' (first | ((with_reducible first | apply ar_w T_ok | apply ar_w0 T_ok | apply ard_w T_ok | apply ard_w0 T_ok); (focus (simp (disch := omega) only [go_sem, Nat.reduceLT, Nat.reduceAdd, Nat.reduceLeDiff, Nat.reduceMul, Nat.reduceEqDiff, Nat.reduceBEq, reduceIte, hmk, mkV, GV.enc, encs_get, encs_len, mkVs_len, cast1] <;> rfl)); (focus (first | rfl | (simp [okIdsB, Nat.ble_eq]; done))); (focus rfl); (focus (first | trivial | (simp only [preOK]; omega) | exact ⟨by first | trivial | rfl | omega, by assumption, by omega⟩ | (simp [preOK, AllBytes, hmk, mkV, GV.enc, encs_get, encs_len, mkVs_len, cast1]; first | done | omega))); (focus (simp only [hmk, mkV, GV.enc, encs_get, encs_len, mkVs_len, cast1, Heap.puts, Heap.put_app, Heap.put_app0, Heap.put_len, Heap.put, List.length_append, List.length_cons, List.length_nil, Nat.zero_add, Nat.reduceAdd] <;> rfl))) | with_reducible (first | refine aw_reg_d P_mixed ?_ | refine ar_done ?_ | refine aw_seq ?_ | refine aw_reg ?_ | refine aw_block ?_ | refine aw_skip ?_ | refine aw_exit ?_ | refine aw_ret ?_ | refine at_n ?_ | refine at_e ?_ | refine at_r ?_ | refine ab_n ?_ | refine ab_r ?_ | refine ab_e ?_ | refine ab_ne rfl ?_ | refine an_e ?_ | refine an_r ?_ | refine am_e ?_ | refine am_r ?_) | ((with_reducible apply aw_cond_f); (focus (simp only [go_sem, Nat.reduceLT, Nat.reduceAdd, Nat.reduceLeDiff, Nat.reduceMul, Nat.reduceEqDiff, Nat.reduceBEq, reduceIte, hmk, mkV, GV.enc, encs_get, encs_len, mkVs_len, cast1] <;> rfl))) | ((with_reducible apply aw_cond_t); (focus (simp only [go_sem, Nat.reduceLT, Nat.reduceAdd, Nat.reduceLeDiff, Nat.reduceMul, Nat.reduceEqDiff, Nat.reduceBEq, reduceIte, hmk, mkV, GV.enc, encs_get, encs_len, mkVs_len, cast1] <;> rfl))) | ((with_reducible apply aw_cond_d); (focus (simp only [go_sem, Nat.reduceLT, Nat.reduceAdd, Nat.reduceLeDiff, Nat.reduceMul, Nat.reduceEqDiff, Nat.reduceBEq, reduceIte, hmk, mkV, GV.enc, encs_get, encs_len, mkVs_len, cast1] <;> rfl)); all_goals (intro hcond; try (exfalso; omega))) | ((with_reducible first | apply ae_r | apply ae_n); (focus (simp only [go_sem, Nat.reduceLT, Nat.reduceAdd, Nat.reduceLeDiff, Nat.reduceMul, Nat.reduceEqDiff, Nat.reduceBEq, reduceIte, hmk, mkV, GV.enc, encs_get, encs_len, mkVs_len, cast1] <;> rfl))) | ((with_reducible apply ard_done); (focus rfl)))
    ((apply ar_call rfl ok_71); (focus (simp only [go_sem, Nat.reduceLT, Nat.reduceAdd, Nat.reduceLeDiff, Nat.reduceMul, Nat.reduceEqDiff, Nat.reduceBEq, reduceIte, hmk, mkV, GV.enc, encs_get, encs_len, mkVs_len, cast1, List.map] <;> rfl)); (focus exact ih l0 (m + 3) (by simp only [GV.size] at hsz; omega) g4 g5 (by omega) (by omega)); (focus rfl); (focus rfl))
    repeat' (first | ((with_reducible first | apply ar_w T_ok | apply ar_w0 T_ok | apply ard_w T_ok | apply ard_w0 T_ok); (focus (simp (disch := omega) only [go_sem, Nat.reduceLT, Nat.reduceAdd, Nat.reduceLeDiff, Nat.reduceMul, Nat.reduceEqDiff, Nat.reduceBEq, reduceIte, hmk, mkV, GV.enc, encs_get, encs_len, mkVs_len, cast1] <;> rfl)); (focus (first | rfl | (simp [okIdsB, Nat.ble_eq]; done))); (focus rfl); (focus (first | trivial | (simp only [preOK]; omega) | exact ⟨by first | trivial | rfl | omega, by assumption, by omega⟩ | (simp [preOK, AllBytes, hmk, mkV, GV.enc, encs_get, encs_len, mkVs_len, cast1]; first | done | omega))); (focus (simp only [hmk, mkV, GV.enc, encs_get, encs_len, mkVs_len, cast1, Heap.puts, Heap.put_app, Heap.put_app0, Heap.put_len, Heap.put, List.length_append, List.length_cons, List.length_nil, Nat.zero_add, Nat.reduceAdd] <;> rfl))) | with_reducible (first | refine aw_reg_d P_mixed ?_ | refine ar_done ?_ | refine aw_seq ?_ | refine aw_reg ?_ | refine aw_block ?_ | refine aw_skip ?_ | refine aw_exit ?_ | refine aw_ret ?_ | refine at_n ?_ | refine at_e ?_ | refine at_r ?_ | refine ab_n ?_ | refine ab_r ?_ | refine ab_e ?_ | refine ab_ne rfl ?_ | refine an_e ?_ | refine an_r ?_ | refine am_e ?_ | refine am_r ?_) | ((with_reducible apply aw_cond_f); (focus (simp only [go_sem, Nat.reduceLT, Nat.reduceAdd, Nat.reduceLeDiff, Nat.reduceMul, Nat.reduceEqDiff, Nat.reduceBEq, reduceIte, hmk, mkV, GV.enc, encs_get, encs_len, mkVs_len, cast1] <;> rfl))) | ((with_reducible apply aw_cond_t); (focus (simp only [go_sem, Nat.reduceLT, Nat.reduceAdd, Nat.reduceLeDiff, Nat.reduceMul, Nat.reduceEqDiff, Nat.reduceBEq, reduceIte, hmk, mkV, GV.enc, encs_get, encs_len, mkVs_len, cast1] <;> rfl))) | ((with_reducible apply aw_cond_d); (focus (simp only [go_sem, Nat.reduceLT, Nat.reduceAdd, Nat.reduceLeDiff, Nat.reduceMul, Nat.reduceEqDiff, Nat.reduceBEq, reduceIte, hmk, mkV, GV.enc, encs_get, encs_len, mkVs_len, cast1] <;> rfl)); all_goals (intro hcond; try (exfalso; omega))) | ((with_reducible first | apply ae_r | apply ae_n); (focus (simp only [go_sem, Nat.reduceLT, Nat.reduceAdd, Nat.reduceLeDiff, Nat.reduceMul, Nat.reduceEqDiff, Nat.reduceBEq, reduceIte, hmk, mkV, GV.enc, encs_get, encs_len, mkVs_len, cast1] <;> rfl))) | ((with_reducible apply ard_done); (focus rfl)))
    ((apply ar_call rfl ok_72); (focus (simp only [go_sem, Nat.reduceLT, Nat.reduceAdd, Nat.reduceLeDiff, Nat.reduceMul, Nat.reduceEqDiff, Nat.reduceBEq, reduceIte, hmk, mkV, GV.enc, encs_get, encs_len, mkVs_len, cast1, List.map] <;> rfl)); (focus exact heldStringS_ok ns0 (m + 3 + cntVs l0) g6 (by omega) (by omega)); (focus rfl); (focus rfl))
    repeat' (first | ((with_reducible first | apply ar_w T_ok | apply ar_w0 T_ok | apply ard_w T_ok | apply ard_w0 T_ok); (focus (simp (disch := omega) only [go_sem, Nat.reduceLT, Nat.reduceAdd, Nat.reduceLeDiff, Nat.reduceMul, Nat.reduceEqDiff, Nat.reduceBEq, reduceIte, hmk, mkV, GV.enc, encs_get, encs_len, mkVs_len, cast1] <;> rfl)); (focus (first | rfl | (simp [okIdsB, Nat.ble_eq]; done))); (focus rfl); (focus (first | trivial | (simp only [preOK]; omega) | exact ⟨by first | trivial | rfl | omega, by assumption, by omega⟩ | (simp [preOK, AllBytes, hmk, mkV, GV.enc, encs_get, encs_len, mkVs_len, cast1]; first | done | omega))); (focus (simp only [hmk, mkV, GV.enc, encs_get, encs_len, mkVs_len, cast1, Heap.puts, Heap.put_app, Heap.put_app0, Heap.put_len, Heap.put, List.length_append, List.length_cons, List.length_nil, Nat.zero_add, Nat.reduceAdd] <;> rfl))) | with_reducible (first | refine aw_reg_d P_mixed ?_ | refine ar_done ?_ | refine aw_seq ?_ | refine aw_reg ?_ | refine aw_block ?_ | refine aw_skip ?_ | refine aw_exit ?_ | refine aw_ret ?_ | refine at_n ?_ | refine at_e ?_ | refine at_r ?_ | refine ab_n ?_ | refine ab_r ?_ | refine ab_e ?_ | refine ab_ne rfl ?_ | refine an_e ?_ | refine an_r ?_ | refine am_e ?_ | refine am_r ?_) | ((with_reducible apply aw_cond_f); (focus (simp only [go_sem, Nat.reduceLT, Nat.reduceAdd, Nat.reduceLeDiff, Nat.reduceMul, Nat.reduceEqDiff, Nat.reduceBEq, reduceIte, hmk, mkV, GV.enc, encs_get, encs_len, mkVs_len, cast1] <;> rfl))) | ((with_reducible apply aw_cond_t); (focus (simp only [go_sem, Nat.reduceLT, Nat.reduceAdd, Nat.reduceLeDiff, Nat.reduceMul, Nat.reduceEqDiff, Nat.reduceBEq, reduceIte, hmk, mkV, GV.enc, encs_get, encs_len, mkVs_len, cast1] <;> rfl))) | ((with_reducible apply aw_cond_d); (focus (simp only [go_sem, Nat.reduceLT, Nat.reduceAdd, Nat.reduceLeDiff, Nat.reduceMul, Nat.reduceEqDiff, Nat.reduceBEq, reduceIte, hmk, mkV, GV.enc, encs_get, encs_len, mkVs_len, cast1] <;> rfl)); all_goals (intro hcond; try (exfalso; omega))) | ((with_reducible first | apply ae_r | apply ae_n); (focus (simp only [go_sem, Nat.reduceLT, Nat.reduceAdd, Nat.reduceLeDiff, Nat.reduceMul, Nat.reduceEqDiff, Nat.reduceBEq, reduceIte, hmk, mkV, GV.enc, encs_get, encs_len, mkVs_len, cast1] <;> rfl))) | ((with_reducible apply ard_done); (focus rfl)))
    refine anext0 [(0, .fsl 5 (encs (mkVs l k))), (1, .int .i64 ((k + cntVs (l.take (i + 1)) : Nat) : Int)), (5, .int .i64 (i + 1 : Nat))] [] (k' := l.length - (i + 1)) (by omega) ?_ rfl trivial rfl rfl ⟨i + 1, by omega, rfl, rfl, rfl⟩
    rw [show k + cntVs (l.take (i + 1)) = m + 3 + cntVs l0 + ns0.length by omega]
    simp [subP, Env.get, Weak.refl]
  · have : i = l.length := by omega
    subst this
    repeat' (first | ((with_reducible first | apply ar_w T_ok | apply ar_w0 T_ok | apply ard_w T_ok | apply ard_w0 T_ok); (focus (simp (disch := omega) only [go_sem, Nat.reduceLT, Nat.reduceAdd, Nat.reduceLeDiff, Nat.reduceMul, Nat.reduceEqDiff, Nat.reduceBEq, reduceIte, encs_get, encs_len, mkVs_len, cast1] <;> rfl)); (focus (first | rfl | (simp [okIdsB, Nat.ble_eq]; done))); (focus rfl); (focus (first | trivial | (simp only [preOK]; omega) | exact ⟨by first | trivial | rfl | omega, by assumption, by omega⟩ | (simp [preOK, AllBytes, encs_get, encs_len, mkVs_len, cast1]; first | done | omega))); (focus (simp only [encs_get, encs_len, mkVs_len, cast1, Heap.puts, Heap.put_app, Heap.put_app0, Heap.put_len, Heap.put, List.length_append, List.length_cons, List.length_nil, Nat.zero_add, Nat.reduceAdd] <;> rfl))) | with_reducible (first | refine aw_reg_d P_mixed ?_ | refine ar_done ?_ | refine aw_seq ?_ | refine aw_reg ?_ | refine aw_block ?_ | refine aw_skip ?_ | refine aw_exit ?_ | refine aw_ret ?_ | refine at_n ?_ | refine at_e ?_ | refine at_r ?_ | refine ab_n ?_ | refine ab_r ?_ | refine ab_e ?_ | refine ab_ne rfl ?_ | refine an_e ?_ | refine an_r ?_ | refine am_e ?_ | refine am_r ?_) | ((with_reducible apply aw_cond_f); (focus (simp only [go_sem, Nat.reduceLT, Nat.reduceAdd, Nat.reduceLeDiff, Nat.reduceMul, Nat.reduceEqDiff, Nat.reduceBEq, reduceIte, encs_get, encs_len, mkVs_len, cast1] <;> rfl))) | ((with_reducible apply aw_cond_t); (focus (simp only [go_sem, Nat.reduceLT, Nat.reduceAdd, Nat.reduceLeDiff, Nat.reduceMul, Nat.reduceEqDiff, Nat.reduceBEq, reduceIte, encs_get, encs_len, mkVs_len, cast1] <;> rfl))) | ((with_reducible apply aw_cond_d); (focus (simp only [go_sem, Nat.reduceLT, Nat.reduceAdd, Nat.reduceLeDiff, Nat.reduceMul, Nat.reduceEqDiff, Nat.reduceBEq, reduceIte, encs_get, encs_len, mkVs_len, cast1] <;> rfl)); all_goals (intro hcond; try (exfalso; omega))) | ((with_reducible first | apply ae_r | apply ae_n); (focus (simp only [go_sem, Nat.reduceLT, Nat.reduceAdd, Nat.reduceLeDiff, Nat.reduceMul, Nat.reduceEqDiff, Nat.reduceBEq, reduceIte, encs_get, encs_len, mkVs_len, cast1] <;> rfl))) | ((with_reducible apply ard_done); (focus rfl)))
    simp [aresV, frz, List.take_length]

theorem heldValueS_all : ∀ (N : Nat) (l : List GV) (k : Nat), sizes l < N → Len l → fitss l → 1 ≤ k → k + cntVs l ≤ 4611686018427387904 → PCall P 71 [.fsl 5 (encs (mkVs l k)), .int .i64 k] (.int .i64 ((k + cntVs l : Nat) : Int))
  | 0, l, k, h, _, _, _, _ => by omega
  | N + 1, l, k, h, h1, h2, h3, h4 => heldValueS_ok l k h1 h2 h3 h4 fun l' k' hs p1 p2 p3 p4 => heldValueS_all N l' k' (by omega) p1 p2 p3 p4
end Go.Av
