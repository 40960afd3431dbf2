/- Drawn values and texts that are read, within bounds of their sizes. -/
import Derived.Test.YtfdafamjgnbecaaSec
import Derived.Test.YtfdafamjgnbecaaAvd
set_option linter.unusedVariables false
set_option linter.unusedSimpArgs false
set_option linter.unusedVariables false
set_option linter.unusedSimpArgs false
namespace Go.Av
open Go
set_option maxRecDepth 10000
set_option maxHeartbeats 1000000
/-- a list that grows at its end -/
def LA (n : Nat) (H : Heap) (sz : Nat) (es : List (List AV)) (a : AV) : Prop := (es = [] ∧ a = .nsl sz) ∨ ∃ t, a = .asl t es.length sz es ∧ H.at t = .tok es.length ∧ n ≤ t
theorem LA.mono {n n' : Nat} {H H' : Heap} {sz : Nat} {es : List (List AV)} {a : AV} (h : LA n H sz es a) (hn : n' ≤ n) (hh : ∀ t, n ≤ t → H.at t = .tok es.length → H'.at t = .tok es.length) : LA n' H' sz es a := by
  rcases h with h | ⟨t, h1, h2, h3⟩
  · exact .inl h
  · exact .inr ⟨t, h1, hh t h3 h2, by omega⟩
theorem LA.mono' {n : Nat} {H H' : Heap} {sz : Nat} {es : List (List AV)} {a : AV} (h : LA n H sz es a) (hh : ∀ t e sz' xs, a = .asl t e sz' xs → n ≤ t → H.at t = .tok es.length → H'.at t = .tok es.length) : LA n H' sz es a := by
  rcases h with h | ⟨t, h1, h2, h3⟩
  · exact .inl h
  · exact .inr ⟨t, h1, hh t _ _ _ h1 h3 h2, h3⟩
/-- two lists that grow apart from each other -/
def dis (a a' : AV) : Prop := ∀ t e sz xs e' sz' xs', a = .asl t e sz xs → a' ≠ .asl t e' sz' xs'
theorem LA.cell {n : Nat} {H : Heap} {sz : Nat} {es : List (List AV)} {a : AV} (h : LA n H sz es a) : a.isCell = true := by
  rcases h with ⟨_, rfl⟩ | ⟨t, rfl, _⟩ <;> rfl
theorem LA.frz {n : Nat} {H : Heap} {sz : Nat} {es : List (List AV)} {a : AV} (h : LA n H sz es a) : Av.frz a = some (.fsl sz es) := by
  rcases h with ⟨rfl, rfl⟩ | ⟨t, rfl, _⟩ <;> rfl
/-- a value whose lists grow at their ends -/
def LVal (n : Nat) (H : Heap) (r : AV) (v : GV) : Prop := ∃ aL aN, r = .agg [.int .i64 v.k, .int .i64 v.n, .str v.t, aL, aN] ∧ LA n H 5 (encs v.l) aL ∧ LA n H 1 (strs v.ns) aN
theorem LVal.frz {n : Nat} {H : Heap} {r : AV} {v : GV} (h : LVal n H r v) : Av.frz r = some (.agg v.enc) := by
  obtain ⟨aL, aN, rfl, hL, hN⟩ := h
  obtain ⟨k, x, t, l, ns⟩ := v
  simp only [Av.frz, frzL, hL.frz, hN.frz, GV.enc]; rfl
/-- the reader has gone on; what else was there is as it was -/
def RdF (H0 H : Heap) (b : Nat) (bs : List UInt8) (p c : Nat) : Prop := ∃ p', p ≤ p' ∧ p' ≤ p + c ∧ H.at b = rdB bs p' ∧ H0.length ≤ H.length ∧ ∀ q, q < H0.length → q ≠ b → H.at q = H0.at q
theorem fitss_snoc : ∀ {l : List GV} {v : GV}, fitss l → v.fits → fitss (l ++ [v])
  | [], v, _, h => ⟨h, trivial⟩
  | w :: l, v, h, h2 => ⟨h.1, fitss_snoc h.2 h2⟩
theorem FCall.toD {g : FuncId} {args : List AV} {H : Heap} {b : Nat} {bs : List UInt8} {p c : Nat} {R : GV → Prop} (hbl : b < H.length) (h : FCall P g args H fun r H' => ∃ v : GV, v.fits ∧ R v ∧ LVal H.length H' r v ∧ RdF H H' b bs p c) :
    FCall P g args H fun r H' => ∃ ws Bs, (∃ (v : GV) (p' : Nat), r = .agg v.enc ∧ v.fits ∧ R v ∧ ws = [(b, rdB bs p')] ∧ p ≤ p' ∧ p' ≤ p + c ∧ ∀ x ∈ Bs, x = Blk.dead) ∧ H' = H.puts ws ++ Bs := by
  refine FCall.kill (R := fun r H' => ∃ v : GV, v.fits ∧ R v ∧ r = .agg v.enc ∧ RdF H H' b bs p c) ?_ ?_
  · refine FCall.give (FCall.mono h ?_)
    rintro r H' ⟨v, h1, h2, h3, h4⟩
    exact ⟨.agg v.enc, [], bor_frz h3.frz, by simp, v, h1, h2, rfl, h4⟩
  · rintro r H' ⟨v, h1, h2, rfl, p', h3, h4, h5, h6, h7⟩
    refine ⟨H.puts [(b, rdB bs p')] ++ List.replicate (H'.length - H.length) .dead, ?_, fun q => ?_, _, _, ⟨v, p', rfl, h1, h2, rfl, h3, h4, fun x hx => (List.mem_replicate.1 hx).2⟩, rfl⟩
    · show (H.put b _ ++ _).length = _
      rw [List.length_append, Heap.put_length _ _ _ hbl, List.length_replicate]; omega
    · show WeakB _ (Heap.at (H.put b _ ++ _) q)
      rcases Nat.lt_or_ge q H.length with hq | hq
      · rw [Heap.at_old _ _ (by rw [Heap.put_length _ _ _ hbl]; exact hq)]
        by_cases hqb : q = b
        · subst hqb; rw [Heap.at_put_same, h5]; exact .refl _
        · rw [Heap.at_put_ne _ _ _ _ hqb, h7 q hq hqb]; exact .refl _
      · have : Heap.at (H.put b (rdB bs p') ++ List.replicate (H'.length - H.length) .dead) q = .dead := by
          obtain ⟨i, rfl⟩ : ∃ i, q = H.length + i := ⟨q - H.length, by omega⟩
          rw [Heap.at_putB hbl]
          unfold Heap.at
          rw [List.getD_eq_getElem?_getD]
          cases hx : (List.replicate (H'.length - H.length) Blk.dead)[i]? with
          | none => rfl
          | some x => exact (List.mem_replicate.1 (List.mem_of_getElem? hx)).2
        rw [this]; exact .dead _
theorem sizes_le {S : Nat} : ∀ {l : List GV}, (∀ u ∈ l, u.size ≤ S) → sizes l ≤ 1 + l.length * S
  | [], _ => by simp [sizes]
  | v :: l, h => by
    have h1 := sizes_le (l := l) fun u hu => h u (List.mem_cons_of_mem _ hu)
    have h2 := h v (List.mem_cons_self ..)
    simp only [sizes, List.length_cons, Nat.add_mul]; omega
def fitsB (S : Nat) (l : List GV) : Prop := fitss l ∧ ∀ u ∈ l, u.size ≤ S
theorem fitsB_snoc {S : Nat} {l : List GV} {v : GV} (h : fitsB S l) (hf : v.fits) (hs : v.size ≤ S) : fitsB S (l ++ [v]) :=
  ⟨fitss_snoc h.1 hf, fun x hx => by
    rcases List.mem_append.1 hx with hx | hx
    · exact h.2 x hx
    · simp at hx; subst hx; exact hs⟩
theorem fitsB_size {S : Nat} {l : List GV} (h : fitsB S l) (hl : l.length ≤ 3) (k n : Int) (t : List UInt8) (ns : List (List UInt8)) : (⟨k, n, t, l, ns⟩ : GV).size ≤ 2 + 3 * S := by
  have := sizes_le h.2
  have h2 : l.length * S ≤ 3 * S := Nat.mul_le_mul_right _ hl
  simp only [GV.size]; omega
def ints8 : List Int := [0, 1, 2, 2, 3, 3, 4, 5]
theorem ints8_in (i : Nat) (h : i < 8) : 0 ≤ ints8.getD i 0 ∧ ints8.getD i 0 ≤ 5 := by
  match i, h with
  | 0, _ => decide
  | 1, _ => decide
  | 2, _ => decide
  | 3, _ => decide
  | 4, _ => decide
  | 5, _ => decide
  | 6, _ => decide
  | 7, _ => decide
def names5 : List (List UInt8) := [[97], [98], [99], [114, 101, 102], [120, 49]]
theorem names5_in (i : Nat) (h : i < 5) : Len (names5.getD i []) := by
  match i, h with
  | 0, _ => decide
  | 1, _ => decide
  | 2, _ => decide
  | 3, _ => decide
  | 4, _ => decide
def ints7 : List Int := [0, 1, -1, 7, 42, 2147483647, -2147483647]
theorem ints7_in (i : Nat) (h : i < 7) : -2147483647 ≤ ints7.getD i 0 ∧ ints7.getD i 0 ≤ 2147483647 := by
  match i, h with
  | 0, _ => decide
  | 1, _ => decide
  | 2, _ => decide
  | 3, _ => decide
  | 4, _ => decide
  | 5, _ => decide
  | 6, _ => decide
theorem l13Value_step (bs : List UInt8) (hl : Len bs) (b : Nat) (deep : Int) (c S : Nat) (hd : deep ≤ 1000) (hd2 : -1000 ≤ deep)
    (ih : 2 ≤ deep → ∀ (H : Heap) (p : Nat), H.at b = rdB bs p → b < H.length → p + c ≤ 900000000 → FCall P 77 [.ptr b 0 0, .int .i64 (deep - 1)] H fun r H' => ∃ v : GV, v.fits ∧ (v.l.length ≤ 3 ∧ v.size ≤ S) ∧ v.ns.length ≤ 3 ∧ LVal H.length H' r v ∧ RdF H H' b bs p c)
    (H : Heap) (p : Nat) (hb : H.at b = rdB bs p) (hbl : b < H.length) (hp : p + (9 + 3 * c) ≤ 900000000) :
    FCall P 77 [.ptr b 0 0, .int .i64 deep] H fun r H' => ∃ v : GV, v.fits ∧ (v.l.length ≤ 3 ∧ v.size ≤ 2 + 3 * S) ∧ v.ns.length ≤ 3 ∧ LVal H.length H' r v ∧ RdF H H' b bs p (9 + 3 * c) := by
  refine fcall_walk T_ok ok_77 rfl ?_
  unfold Go.Proofs.Try.f77
  simp only [Option.getD_some, envOf, Nat.zero_add, Nat.reduceAdd]
  refine aw_seq ?_
  (all_goals (have X1 := @hb; (repeat' (first | refine gr ?_ | fail)); all_goals try clear X1))
  refine aw_seq ?_
  refine aw_reg ?_
  (have X1 := @hb; (refine ga ?_); all_goals try clear X1)
  refine ar_bs (intsAV ints8) rfl rfl rfl ?_
  have hb1 : ∀ L, Heap.at (H ++ L) b = rdB bs p := fun L => (Heap.at_old _ _ hbl).trans hb
  (have X1 := @hb; ((apply ar_fcall rfl ok_76); (focus exact eva); (focus exact one_ok bs ints8 p b _ _ _ (by first | exact hb1 _ | (rw [List.append_assoc]; exact hb1 _)) (by simp; omega) hl (by omega) (by decide) (by decide)); (focus rfl); (focus rfl)); all_goals try clear X1)
  rintro _ _ ⟨rfl, rfl⟩
  have hk8 := ints8_in (pickN bs p 8) (pickN_lt bs p 8 (by omega))
  obtain ⟨k, hk⟩ : ∃ k, ints8.getD (pickN bs p ints8.length) 0 = k := ⟨_, rfl⟩
  have hk8 : 0 ≤ k ∧ k ≤ 5 := by rw [← hk]; exact hk8
  rw [hk]
  obtain ⟨G, hG⟩ : ∃ G, ((H ++ [Blk.row 5 [zvAV]]) ++ [Blk.tok 8]).put b (rdB bs (p + 1)) = G := ⟨_, rfl⟩
  have hGl : G.length = H.length + 2 := by rw [← hG, Heap.put_length _ _ _ (by simp; omega)]; simp
  have hGb : G.at b = rdB bs (p + 1) := by rw [← hG]; exact Heap.at_put_same _ _ _
  have hGr : G.at H.length = .row 5 [zvAV] := by rw [← hG, Heap.at_put_ne _ _ _ _ (by omega), List.append_assoc]; exact Heap.at_app _ _ 0
  have hGo : ∀ q, q < H.length → q ≠ b → G.at q = H.at q := fun q h1 h2 => by rw [← hG, Heap.at_put_ne _ _ _ _ h2, List.append_assoc]; exact Heap.at_old _ _ h1
  rw [hG]
  (all_goals (have X1 := @hGb; (repeat' (first | refine gr ?_ | fail)); all_goals try clear X1))
  refine aw_seq_mid (fun env H' => ∃ (k : Int) (p' : Nat), env = [(0, .ptr b 0 0), (1, .int .i64 deep), (4, .ptr H.length 0 0), (5, .int .i64 k)] ∧ (0 ≤ k ∧ k ≤ 5) ∧ (deep ≤ 1 → k ≤ 3) ∧ (p ≤ p' ∧ p' ≤ p + 2) ∧ H'.at b = rdB bs p' ∧ H'.at H.length = .row 5 [zvAV] ∧ H.length < H'.length ∧ ∀ q, q < H.length → q ≠ b → H'.at q = H.at q) ?_ ?_
  · (all_goals (have X1 := @hGb; (repeat' (first | refine gg ?_ | (refine gd ?_ ?_ <;> (intro hcond; try (exfalso; omega))) | (refine gc ?_ ?_ <;> intro hcs) | fail)); all_goals try clear X1))
    · (have X1 := @hGb; ((apply ar_fcall rfl ok_49); (focus exact eva); (focus exact pick_ok bs 4 (p + 1) b G hGb (by omega) hl (by omega) (by decide)); (focus rfl); (focus rfl)); all_goals try clear X1)
      rintro _ _ ⟨rfl, rfl⟩
      have h4 := pickV_range bs (p + 1) 4
      (all_goals (have X1 := @hGb; (repeat' (first | refine gg ?_ | (refine gd ?_ ?_ <;> (intro hcond; try (exfalso; omega))) | (refine gc ?_ ?_ <;> intro hcs) | fail)); all_goals try clear X1))
      refine amidn [(0, .ptr b 0 0), (1, .int .i64 deep), (4, .ptr H.length 0 0), (5, .int .i64 (pickV bs (p + 1) 4))] _ (by rw [Heap.put_length _ _ _ (by omega)]; exact Nat.le_refl _) sb (heapW_refl _) rfl ⟨_, p + 2, rfl, ⟨h4.1, by have := h4.2 (by omega); omega⟩, fun _ => by have := h4.2 (by omega); omega, by omega, Heap.at_put_same _ _ _, (Heap.at_put_ne _ _ _ _ (by omega)).trans hGr, by rw [Heap.put_length _ _ _ (by omega)]; omega, fun q h1 h2 => (Heap.at_put_ne _ _ _ _ h2).trans (hGo q h1 h2)⟩
    all_goals exact amidn [(0, .ptr b 0 0), (1, .int .i64 deep), (4, .ptr H.length 0 0), (5, .int .i64 k)] _ (Nat.le_refl _) sb (heapW_refl _) rfl ⟨k, p + 1, rfl, hk8, fun h => by omega, by omega, hGb, hGr, by omega, hGo⟩
  clear hGo hGr hGb hGl hG G hk8 hk k
  rintro env G ⟨k, p1, rfl, hk8, hk3, hp1, hGb, hGr, hGl, hGo⟩
  refine aw_seq ?_
  (all_goals (have X1 := @hGb; (repeat' (first | refine gr ?_ | fail)); all_goals try clear X1))
  obtain ⟨vv, hvv⟩ : ∃ vv, G.length = vv := ⟨_, rfl⟩
  obtain ⟨F, hF⟩ : ∃ F, G ++ [Blk.row 5 [[.int .i64 k, .int .i64 0, .str [], .nsl 5, .nsl 1]]] = F := ⟨_, rfl⟩
  have hFl : F.length = vv + 1 := by rw [← hF, List.length_append, hvv]; rfl
  have hFb : F.at b = rdB bs p1 := by rw [← hF]; exact (Heap.at_old _ _ (by omega)).trans hGb
  have hFr : F.at H.length = .row 5 [zvAV] := by rw [← hF]; exact (Heap.at_old _ _ hGl).trans hGr
  have hFv : F.at vv = .row 5 [[.int .i64 k, .int .i64 0, .str [], .nsl 5, .nsl 1]] := by rw [← hF, ← hvv]; exact Heap.at_app _ _ 0
  have hFo : ∀ q, q < H.length → q ≠ b → F.at q = H.at q := fun q h1 h2 => by rw [← hF]; exact (Heap.at_old _ _ (by omega)).trans (hGo q h1 h2)
  rw [hF, hvv]
  have hvl : H.length < vv := by omega
  clear hF hGb hGr hGo
  refine aw_seq_mid (fun env H' => ∃ (v : GV) (aL aN : AV) (p2 : Nat), env = [(4, .ptr H.length 0 0), (6, .ptr vv 0 0)] ∧ v.fits ∧ (v.l.length ≤ 3 ∧ v.size ≤ 2 + 3 * S) ∧ v.ns.length ≤ 3 ∧ H'.at vv = .row 5 [[.int .i64 v.k, .int .i64 v.n, .str v.t, aL, aN]] ∧ LA (vv + 1) H' 5 (encs v.l) aL ∧ LA (vv + 1) H' 1 (strs v.ns) aN ∧
      (p ≤ p2 ∧ p2 ≤ p + (9 + 3 * c)) ∧ H'.at b = rdB bs p2 ∧ H'.at H.length = .row 5 [zvAV] ∧ vv < H'.length ∧ ∀ q, q < H.length → q ≠ b → H'.at q = H.at q) ?_ ?_
  · have i64k : I64 k := by constructor <;> omega
    (all_goals (have X1 := @hFv; (repeat' (first | refine gg ?_ | (refine gd ?_ ?_ <;> (intro hcond; try (exfalso; omega))) | (refine gc ?_ ?_ <;> intro hcs) | fail)); all_goals try clear X1))
    · -- yes or no
      have h2 := pickV_range bs p1 2
      have h2' := h2.2 (by omega)
      (have X1 := @hFv; ((apply ar_fcall rfl ok_49); (focus exact eva); (focus exact pick_ok bs 2 p1 b F hFb (by omega) hl (by omega) (by decide)); (focus rfl); (focus rfl)); all_goals try clear X1)
      rintro _ _ ⟨rfl, rfl⟩
      have hXv := (Heap.at_put_ne F b vv (rdB bs (p1 + 1)) (by omega)).trans hFv
      have hXl := Heap.put_length F b (rdB bs (p1 + 1)) (by omega)
      (all_goals (have X1 := @hXv; (repeat' (first | refine gg ?_ | (refine gd ?_ ?_ <;> (intro hcond; try (exfalso; omega))) | (refine gc ?_ ?_ <;> intro hcs) | fail)); all_goals try clear X1))
      refine amidn [(4, .ptr H.length 0 0), (6, .ptr vv 0 0)] _ (by rw [Heap.put_length _ _ _ (by omega)]; omega) sb (heapW_refl _) rfl ⟨⟨k, pickV bs p1 2, [], [], []⟩, .nsl 5, .nsl 1, p1 + 1, rfl, ⟨i64k, ⟨by omega, by omega⟩, by simp [Len], by simp [Len], trivial, by simp [Len], by simp⟩, ⟨by simp [GV.l], by simp [GV.size, sizes]⟩, by simp [GV.ns], Heap.at_put_same _ _ _, .inl ⟨rfl, rfl⟩, .inl ⟨rfl, rfl⟩, by omega, (Heap.at_put_ne _ _ _ _ (by omega)).trans (Heap.at_put_same _ _ _), (Heap.at_put_ne _ _ _ _ (by omega)).trans ((Heap.at_put_ne _ _ _ _ (by omega)).trans hFr), by rw [Heap.put_length _ _ _ (by omega)]; omega, fun q h1 h2 => (Heap.at_put_ne _ _ _ _ (by omega)).trans ((Heap.at_put_ne _ _ _ _ h2).trans (hFo q h1 h2))⟩
    · -- a number
      have hF1 := (Heap.at_old F [Blk.tok 7] (b := b) (by omega)).trans hFb
      have h7 := ints7_in (pickN bs p1 7) (pickN_lt bs p1 7 (by omega))
      (have X1 := @hFv; ((apply ar_fcall rfl ok_76); (focus exact eva); (focus exact one_ok bs ints7 p1 b F.length 7 _ hF1 (by simp; omega) hl (by omega) (by decide) (by decide)); (focus rfl); (focus rfl)); all_goals try clear X1)
      rintro _ _ ⟨rfl, rfl⟩
      have h7' : -2147483647 ≤ ints7.getD (pickN bs p1 ints7.length) 0 ∧ ints7.getD (pickN bs p1 ints7.length) 0 ≤ 2147483647 := h7
      obtain ⟨z, hz⟩ : ∃ z, ints7.getD (pickN bs p1 ints7.length) 0 = z := ⟨_, rfl⟩
      rw [hz] at h7' ⊢
      have hFl2 : (F ++ [Blk.tok 7]).length = vv + 2 := by rw [List.length_append, hFl]; rfl
      have hXv := (Heap.at_put_ne (F ++ [Blk.tok 7]) b vv (rdB bs (p1 + 1)) (by omega)).trans ((Heap.at_old F [Blk.tok 7] (b := vv) (by omega)).trans hFv)
      have hXl := Heap.put_length (F ++ [Blk.tok 7]) b (rdB bs (p1 + 1)) (by omega)
      (all_goals (have X1 := @hXv; (repeat' (first | refine gg ?_ | (refine gd ?_ ?_ <;> (intro hcond; try (exfalso; omega))) | (refine gc ?_ ?_ <;> intro hcs) | fail)); all_goals try clear X1))
      refine amidn [(4, .ptr H.length 0 0), (6, .ptr vv 0 0)] _ (by rw [Heap.put_length _ _ _ (by omega)]; omega) sb (heapW_refl _) rfl ⟨⟨k, z, [], [], []⟩, .nsl 5, .nsl 1, p1 + 1, rfl, ⟨i64k, ⟨by omega, by omega⟩, by simp [Len], by simp [Len], trivial, by simp [Len], by simp⟩, ⟨by simp [GV.l], by simp [GV.size, sizes]⟩, by simp [GV.ns], Heap.at_put_same _ _ _, .inl ⟨rfl, rfl⟩, .inl ⟨rfl, rfl⟩, by omega, (Heap.at_put_ne _ _ _ _ (by omega)).trans (Heap.at_put_same _ _ _), (Heap.at_put_ne _ _ _ _ (by omega)).trans ((Heap.at_put_ne _ _ _ _ (by omega)).trans ((Heap.at_old _ _ (by omega)).trans hFr)), by rw [Heap.put_length _ _ _ (by omega)]; omega, fun q h1 h2 => (Heap.at_put_ne _ _ _ _ (by omega)).trans ((Heap.at_put_ne _ _ _ _ h2).trans ((Heap.at_old _ _ (by omega)).trans (hFo q h1 h2)))⟩
    · -- a text
      (have X1 := @hFv; ((apply ar_fcall rfl ok_100); (focus exact eva); (focus exact l13Text_ok bs p1 b F hFb (by omega) hl (by omega)); (focus rfl); (focus rfl)); all_goals try clear X1)
      rintro _ _ ⟨s, rfl, hs, N, rfl⟩
      have hXl := Heap.put_length F b (rdB bs (p1 + 1)) (by omega)
      have hXv := (Heap.at_old (F.put b (rdB bs (p1 + 1))) N (b := vv) (by omega)).trans ((Heap.at_put_ne F b vv (rdB bs (p1 + 1)) (by omega)).trans hFv)
      have hXl2 : vv + 1 ≤ (F.put b (rdB bs (p1 + 1)) ++ N).length := by rw [List.length_append]; omega
      (all_goals (have X1 := @hXv; (repeat' (first | refine gg ?_ | (refine gd ?_ ?_ <;> (intro hcond; try (exfalso; omega))) | (refine gc ?_ ?_ <;> intro hcs) | fail)); all_goals try clear X1))
      refine amidn [(4, .ptr H.length 0 0), (6, .ptr vv 0 0)] _ (by rw [Heap.put_length _ _ _ (by omega)]; omega) sb (heapW_refl _) rfl ⟨⟨k, 0, s, [], []⟩, .nsl 5, .nsl 1, p1 + 1, rfl, ⟨i64k, ⟨by omega, by omega⟩, by simp [Len]; omega, by simp [Len], trivial, by simp [Len], by simp⟩, ⟨by simp [GV.l], by simp [GV.size, sizes]⟩, by simp [GV.ns], Heap.at_put_same _ _ _, .inl ⟨rfl, rfl⟩, .inl ⟨rfl, rfl⟩, by omega, (Heap.at_put_ne _ _ _ _ (by omega)).trans ((Heap.at_old _ _ (by omega)).trans (Heap.at_put_same _ _ _)), (Heap.at_put_ne _ _ _ _ (by omega)).trans ((Heap.at_old _ _ (by omega)).trans ((Heap.at_put_ne _ _ _ _ (by omega)).trans hFr)), by rw [Heap.put_length _ _ _ (by omega)]; omega, fun q h1 h2 => (Heap.at_put_ne _ _ _ _ (by omega)).trans ((Heap.at_old _ _ (by omega)).trans ((Heap.at_put_ne _ _ _ _ h2).trans (hFo q h1 h2)))⟩
    · -- a list
      have hd2' : 2 ≤ deep := by rcases Int.lt_or_le 1 deep with h | h; omega; have := hk3 h; simp at *; omega
      (have X1 := @hFv; ((apply ar_fcall rfl ok_49); (focus exact eva); (focus exact pick_ok bs 4 p1 b F hFb (by omega) hl (by omega) (by decide)); (focus rfl); (focus rfl)); all_goals try clear X1)
      rintro _ _ ⟨rfl, rfl⟩
      have h4 := pickN_lt bs p1 4 (by omega)
      rw [show pickV bs p1 4 = ((pickN bs p1 4 : Nat) : Int) from pickN_eq bs p1 4]
      generalize pickN bs p1 4 = n0 at *
      have hXl := Heap.put_length F b (rdB bs (p1 + 1)) (by omega)
      (all_goals (have X1 := @hFv; (repeat' (first | refine gr ?_ | fail)); all_goals try clear X1))
      refine aw_block ?_
      refine aw_loopn (fun kk env H6 => ∃ (l' : List GV) (aL : AV) (p' : Nat), l'.length + kk = n0 ∧ env = [(0, .ptr b 0 0), (1, .int .i64 deep), (4, .ptr H.length 0 0), (6, .ptr vv 0 0), (7, .int .i64 (kk : Int))] ∧ fitsB S l' ∧ H6.at vv = .row 5 [[.int .i64 k, .int .i64 0, .str [], aL, .nsl 1]] ∧ LA (vv + 1) H6 5 (encs l') aL ∧
          (p ≤ p' ∧ p' ≤ p1 + 1 + l'.length * c) ∧ H6.at b = rdB bs p' ∧ H6.at H.length = .row 5 [zvAV] ∧ vv < H6.length ∧ ∀ q, q < H.length → q ≠ b → H6.at q = H.at q) n0
        [(0, .ptr b 0 0), (1, .int .i64 deep), (4, .ptr H.length 0 0), (6, .ptr vv 0 0), (7, .int .i64 (n0 : Int))] _ sb (heapW_refl _) rfl ⟨[], .nsl 5, p1 + 1, by simp, rfl, ⟨trivial, by simp⟩, (Heap.at_put_ne _ _ _ _ (by omega)).trans hFv, .inl ⟨rfl, rfl⟩, by omega, Heap.at_put_same _ _ _, (Heap.at_put_ne _ _ _ _ (by omega)).trans hFr, by omega, fun q h1 h2 => (Heap.at_put_ne _ _ _ _ h2).trans (hFo q h1 h2)⟩ ?_
      rintro kk env H6 ⟨l', aL, p', hlk, rfl, hfl, r1, hLA, hp', r2, r3, r4, r5⟩
      have hmul : l'.length * c ≤ 3 * c := Nat.mul_le_mul_right _ (by omega)
      rcases Nat.eq_zero_or_pos kk with rfl | hkk
      · (all_goals (have X1 := @hFv; (repeat' (first | refine gg ?_ | (refine gd ?_ ?_ <;> (intro hcond; try (exfalso; omega))) | (refine gc ?_ ?_ <;> intro hcs) | fail)); all_goals try clear X1))
        refine amidn [(4, .ptr H.length 0 0), (6, .ptr vv 0 0)] _ (by omega) sb (heapW_refl _) rfl ⟨⟨k, 0, [], l', []⟩, aL, .nsl 1, p', rfl, ⟨i64k, ⟨by omega, by omega⟩, by simp [Len], by simp [Len]; omega, hfl.1, by simp [Len], by simp⟩, ⟨by simp [GV.l]; omega, fitsB_size hfl (by omega) ..⟩, by simp [GV.ns], r1, hLA, .inl ⟨rfl, rfl⟩, by omega, r2, r3, r4, r5⟩
      · have hcL := hLA.cell
        have hsL := solid_of_cell hcL
        have hclL := cells_of_cell hcL
        (all_goals (have X1 := @r1; have X2 := @hcL; have X3 := @hsL; have X4 := @hclL; (repeat' (first | refine gg ?_ | (refine gd ?_ ?_ <;> (intro hcond; try (exfalso; omega))) | (refine gc ?_ ?_ <;> intro hcs) | fail)); all_goals try clear X1 X2 X3 X4))
        have hl2 : l'.length ≤ 2 := by omega
        have hmul2 : l'.length * c + c ≤ 3 * c := by
          have : (l'.length + 1) * c ≤ 3 * c := Nat.mul_le_mul_right _ (by omega)
          rw [Nat.add_mul] at this; omega
        (have X1 := @r1; have X2 := @hcL; have X3 := @hsL; have X4 := @hclL; ((apply ard_ocall (log := [b]) (F := fun r ws Bs => ∃ (v : GV) (p2 : Nat), r = .agg v.enc ∧ v.fits ∧ ((v.l.length ≤ 3 ∧ v.size ≤ S) ∧ v.ns.length ≤ 3) ∧ ws = [(b, rdB bs p2)] ∧ p' ≤ p2 ∧ p2 ≤ p' + c ∧ ∀ x ∈ Bs, x = Blk.dead) rfl ok_77); (focus exact eva); (focus exact fun H1 e1 e2 => FCall.toD (R := fun v => (v.l.length ≤ 3 ∧ v.size ≤ S) ∧ v.ns.length ≤ 3) (by rw [e1]; omega) (FCall.mono (ih hd2' H1 p' ((e2 b (by simp)).trans r2) (by rw [e1]; omega) (by omega)) (by rintro r H' ⟨v, a1, a2, a3, a4, a5⟩; exact ⟨v, a1, ⟨a2, a3⟩, a4, a5⟩))); (focus rfl); (focus rfl); (focus (simp only [List.length_cons, List.length_nil, Nat.zero_add, Nat.reduceAdd]; kernel_rfl))); all_goals try clear X1 X2 X3 X4)
        · (refine orderOK_pre 6 [(0, 2), (0, 3), (0, 4), (0, 5), (1, 2), (1, 3), (1, 4), (1, 5), (2, 3), (2, 4)] rfl rfl rfl rfl rfl ?_)
          refine ep ?_; try exact trivial
          all_goals first | (simp; done) | (simp; omega) | skip
        · simp only [blwL, AV.blw, Bool.and_true, Nat.blt_eq]; omega
        · intro q hq; simp at hq; subst hq; exact ⟨by omega, by rw [r2]; rfl⟩
        · intro q hq; simp at hq; subst hq; exact ⟨_, _, r2⟩
        · rintro r ws Bs ⟨u, p2, rfl, huf, hu3, rfl, h1, h2, hBs⟩
          obtain ⟨uk, un, ut, ul, uns⟩ := u
          refine ⟨rfl, fun q hq => ?_, fun x hx => ?_⟩
          · simp at hq; subst hq; exact ⟨by simp, rfl⟩
          · rw [hBs x hx]; rfl
        rintro r ws Bs ⟨u, p2, rfl, huf, hu3, rfl, hp21, hp22, hBs⟩
        obtain ⟨uk, un, ut, ul, uns⟩ := u
        obtain ⟨M, hM⟩ : ∃ M, H6.puts [(b, rdB bs p2)] ++ Bs = M := ⟨_, rfl⟩
        have hM' : H6.put b (rdB bs p2) ++ Bs = M := hM
        have hpl := Heap.put_length H6 b (rdB bs p2) (by omega)
        have hMl : H6.length ≤ M.length := by rw [← hM', List.length_append]; omega
        have hMb : M.at b = rdB bs p2 := by rw [← hM', Heap.at_old _ _ (by omega)]; exact Heap.at_put_same _ _ _
        have hMo : ∀ q, q < H6.length → q ≠ b → M.at q = H6.at q := fun q h1 h2 => by rw [← hM', Heap.at_old _ _ (by omega)]; exact Heap.at_put_ne _ _ _ _ h2
        have hMv := (hMo vv r4 (by omega)).trans r1
        have htok : ∀ t, vv + 1 ≤ t → H6.at t = .tok (encs l').length → M.at t = .tok (encs l').length := fun t h1 h2 => (hMo t (at_lt (by rw [h2]; simp)) (by omega)).trans h2
        have hLM := hLA.mono (Nat.le_refl _) htok
        rw [hM]
        have hea : encs (l' ++ [⟨uk, un, ut, ul, uns⟩]) = encs l' ++ [[.int .i64 uk, .int .i64 un, .str ut, .fsl 5 (encs ul), .fsl 1 (strs uns)]] := by rw [encs_eq, encs_eq, List.map_append]; rfl
        have hfl2 : fitsB S (l' ++ [⟨uk, un, ut, ul, uns⟩]) := fitsB_snoc hfl huf hu3.1.2
        have q1 := fun L => (Heap.at_old M L (b := vv) (by omega)).trans hMv
        have q2 := fun L x => Heap.put_old M L vv x (by omega)
        rcases hLM with ⟨hn, rfl⟩ | ⟨tk, rfl, htk, htk2⟩
        · have hl0 : l' = [] := List.eq_nil_of_length_eq_zero (by rw [← encs_len, hn]; rfl)
          (all_goals (have X1 := @GV.enc.eq_1; have X2 := @q1; have X3 := @q2; (repeat' (first | refine gg ?_ | (refine gd ?_ ?_ <;> (intro hcond; try (exfalso; omega))) | (refine gc ?_ ?_ <;> intro hcs) | fail)); all_goals try clear X1 X2 X3))
          refine ard_done_of [(0, 2), (0, 3), (0, 4), (0, 5), (0, 6), (1, 2), (1, 3), (1, 4), (1, 5), (1, 6), (2, 3), (2, 4)] rfl rfl rfl rfl ?_ ?_
          · refine ep ?_; try exact trivial
            have o1 : vv ≠ b := by omega
            repeat' apply And.intro
            all_goals first | (simp [o1, o1.symm]; done) | (simp only [List.all_append, List.all_cons, List.all_nil, Bool.and_true, Bool.and_eq_true]; refine ⟨by simp [o1, o1.symm], ?_⟩; apply all_newWr'; intro k x h1 h2; simp; omega) | (apply all_newWr'; intro k x h1 h2; simp at h1 h2 ⊢; done) | (apply all_newWr'; intro k x h1 h2; simp at h1 h2 ⊢; omega) | (simp; omega) | skip
          (all_goals (have X1 := @GV.enc.eq_1; have X2 := @q1; have X3 := @q2; (repeat' (first | refine gg ?_ | (refine gd ?_ ?_ <;> (intro hcond; try (exfalso; omega))) | (refine gc ?_ ?_ <;> intro hcs) | fail)); all_goals try clear X1 X2 X3))
          have hz1 := fun x => Heap.put_length M vv x (by omega)
          refine anextn [(0, .ptr b 0 0), (1, .int .i64 deep), (4, .ptr H.length 0 0), (6, .ptr vv 0 0), (7, .int .i64 ((kk - 1 : Nat) : Int))] _ (k' := kk - 1) (by omega) (by simp only [List.length_append, hz1]; omega) (by rw [show ((kk - 1 : Nat) : Int) = (kk : Int) - 1 by omega]; simp [subP, Env.get, Weak.refl]) (heapW_refl _) rfl
            ⟨l' ++ [⟨uk, un, ut, ul, uns⟩], _, p2, by simp; omega, rfl, hfl2, (Heap.at_old _ _ (by simp only [hz1]; omega)).trans (Heap.at_put_same _ _ _), ?_, by rw [List.length_append, List.length_singleton, Nat.add_mul]; omega, (Heap.at_old _ _ (by simp only [hz1]; omega)).trans ((Heap.at_put_ne _ _ _ _ (by omega)).trans hMb), (Heap.at_old _ _ (by simp only [hz1]; omega)).trans ((Heap.at_put_ne _ _ _ _ (by omega)).trans ((hMo _ (by omega) (by omega)).trans r3)), by simp only [List.length_append, hz1]; omega, fun q h1 h2 => (Heap.at_old _ _ (by simp only [hz1]; omega)).trans ((Heap.at_put_ne _ _ _ _ (by omega)).trans ((hMo q (by omega) h2).trans (r5 q h1 h2)))⟩
          rw [hea, hn]
          exact .inr ⟨M.length + 1, rfl, Heap.at_putB (by omega) _ _ 1, by omega⟩
        · have htl : tk < M.length := at_lt (by rw [htk]; simp)
          have hel : (encs l').length = l'.length := encs_len _
          have q3 := fun L => (Heap.at_old M L htl).trans htk
          have q4 := fun L x => Heap.put_old M L tk x htl
          have q5 := fun x L => ((Heap.at_old (M.put tk x) L (b := vv) (by rw [Heap.put_length _ _ _ htl]; omega)).trans (Heap.at_put_ne M tk vv x (by omega))).trans hMv
          have q6 := fun x L y => Heap.put_old (M.put tk x) L vv y (by rw [Heap.put_length _ _ _ htl]; omega)
          (all_goals (have X1 := @GV.enc.eq_1; have X2 := @q3; have X3 := @q4; have X4 := @q5; have X5 := @q6; (repeat' (first | refine gg ?_ | (refine gd ?_ ?_ <;> (intro hcond; try (exfalso; omega))) | (refine gc ?_ ?_ <;> intro hcs) | fail)); all_goals try clear X1 X2 X3 X4 X5))
          refine ard_done_of [(0, 2), (0, 3), (0, 4), (0, 5), (0, 6), (1, 2), (1, 3), (1, 4), (1, 5), (1, 6), (2, 3), (2, 4)] rfl rfl rfl rfl ?_ ?_
          · refine ep ?_; try exact trivial
            have o1 : vv ≠ b := by omega
            repeat' apply And.intro
            all_goals first | (simp [o1, o1.symm]; done) | (simp only [List.all_append, List.all_cons, List.all_nil, Bool.and_true, Bool.and_eq_true]; refine ⟨by simp [o1, o1.symm], ?_⟩; apply all_newWr'; intro k x h1 h2; simp; omega) | (apply all_newWr'; intro k x h1 h2; simp at h1 h2 ⊢; done) | (apply all_newWr'; intro k x h1 h2; simp at h1 h2 ⊢; omega) | (simp; omega) | skip
          (all_goals (have X1 := @GV.enc.eq_1; have X2 := @q3; have X3 := @q4; have X4 := @q5; have X5 := @q6; (repeat' (first | refine gg ?_ | (refine gd ?_ ?_ <;> (intro hcond; try (exfalso; omega))) | (refine gc ?_ ?_ <;> intro hcs) | fail)); all_goals try clear X1 X2 X3 X4 X5))
          have hz2 : ∀ x y, ((M.put tk x).put vv y).length = M.length := fun x y => by rw [Heap.put_length _ _ _ (by rw [Heap.put_length _ _ _ htl]; omega), Heap.put_length _ _ _ htl]
          have hz3 := fun x => Heap.put_length M tk x htl
          refine anextn [(0, .ptr b 0 0), (1, .int .i64 deep), (4, .ptr H.length 0 0), (6, .ptr vv 0 0), (7, .int .i64 ((kk - 1 : Nat) : Int))] _ (k' := kk - 1) (by omega) (by simp only [List.length_append, hz2, hz3]; omega) (by rw [show ((kk - 1 : Nat) : Int) = (kk : Int) - 1 by omega]; simp [subP, Env.get, Weak.refl]) (heapW_refl _) rfl
            ⟨l' ++ [⟨uk, un, ut, ul, uns⟩], _, p2, by simp; omega, rfl, hfl2, (Heap.at_old _ _ (by simp only [hz2, hz3]; omega)).trans (Heap.at_put_same _ _ _), ?_, by rw [List.length_append, List.length_singleton, Nat.add_mul]; omega, (Heap.at_old _ _ (by simp only [hz2, hz3]; omega)).trans (((Heap.at_put_ne _ _ _ _ (by omega)).trans (Heap.at_put_ne _ _ _ _ (by omega))).trans hMb), (Heap.at_old _ _ (by simp only [hz2, hz3]; omega)).trans (((Heap.at_put_ne _ _ _ _ (by omega)).trans (Heap.at_put_ne _ _ _ _ (by omega))).trans ((hMo _ (by omega) (by omega)).trans r3)), by simp only [List.length_append, hz2, hz3]; omega, fun q h1 h2 => (Heap.at_old _ _ (by simp only [hz2, hz3]; omega)).trans (((Heap.at_put_ne _ _ _ _ (by omega)).trans (Heap.at_put_ne _ _ _ _ (by omega))).trans ((hMo q (by omega) h2).trans (r5 q h1 h2)))⟩
          rw [hea]
          refine .inr ⟨tk, by rw [List.length_append]; rfl, ?_, by omega⟩
          rw [Heap.at_old _ _ (by rw [hz2]; exact htl), Heap.at_put_ne _ _ _ _ (by omega), Heap.at_put_same, List.length_append]; rfl
    · -- a tree
      have hd2' : 2 ≤ deep := by rcases Int.lt_or_le 1 deep with h | h; omega; have := hk3 h; simp at *; omega
      (have X1 := @hFv; ((apply ar_fcall rfl ok_49); (focus exact eva); (focus exact pick_ok bs 4 p1 b F hFb (by omega) hl (by omega) (by decide)); (focus rfl); (focus rfl)); all_goals try clear X1)
      rintro _ _ ⟨rfl, rfl⟩
      have h4 := pickN_lt bs p1 4 (by omega)
      rw [show pickV bs p1 4 = ((pickN bs p1 4 : Nat) : Int) from pickN_eq bs p1 4]
      generalize pickN bs p1 4 = n0 at *
      have hXl := Heap.put_length F b (rdB bs (p1 + 1)) (by omega)
      have hn0c : n0 * (c + 1) ≤ 3 * (c + 1) := Nat.mul_le_mul_right _ (by omega)
      (all_goals (have X1 := @hFv; (repeat' (first | refine gr ?_ | fail)); all_goals try clear X1))
      refine aw_block ?_
      refine aw_loopn (fun kk env H6 => ∃ (l' : List GV) (ns' : List (List UInt8)) (aL aN : AV) (p' : Nat), (l'.length + kk ≤ n0 ∧ ns'.length = l'.length) ∧ env = [(0, .ptr b 0 0), (1, .int .i64 deep), (4, .ptr H.length 0 0), (6, .ptr vv 0 0), (8, .int .i64 (kk : Int))] ∧ (fitsB S l' ∧ ∀ s ∈ ns', Len s) ∧ H6.at vv = .row 5 [[.int .i64 k, .int .i64 0, .str [], aL, aN]] ∧ LA (vv + 1) H6 5 (encs l') aL ∧ LA (vv + 1) H6 1 (strs ns') aN ∧ dis aL aN ∧
          (p ≤ p' ∧ p' + kk * (c + 1) ≤ p1 + 1 + n0 * (c + 1)) ∧ H6.at b = rdB bs p' ∧ H6.at H.length = .row 5 [zvAV] ∧ vv < H6.length ∧ ∀ q, q < H.length → q ≠ b → H6.at q = H.at q) n0
        [(0, .ptr b 0 0), (1, .int .i64 deep), (4, .ptr H.length 0 0), (6, .ptr vv 0 0), (8, .int .i64 (n0 : Int))] _ sb (heapW_refl _) rfl ⟨[], [], .nsl 5, .nsl 1, p1 + 1, by simp, rfl, ⟨⟨trivial, by simp⟩, by simp⟩, (Heap.at_put_ne _ _ _ _ (by omega)).trans hFv, .inl ⟨rfl, rfl⟩, .inl ⟨rfl, rfl⟩, (fun _ _ _ _ _ _ _ h => by cases h), by omega, Heap.at_put_same _ _ _, (Heap.at_put_ne _ _ _ _ (by omega)).trans hFr, by omega, fun q h1 h2 => (Heap.at_put_ne _ _ _ _ h2).trans (hFo q h1 h2)⟩ ?_
      rintro kk env H6 ⟨l', ns', aL, aN, p', ⟨hlk, hnl⟩, rfl, ⟨hfl, hfn⟩, r1, hLA, hNA, hdis, hp', r2, r3, r4, r5⟩
      rcases Nat.eq_zero_or_pos kk with rfl | hkk
      · (all_goals (have X1 := @hFv; (repeat' (first | refine gg ?_ | (refine gd ?_ ?_ <;> (intro hcond; try (exfalso; omega))) | (refine gc ?_ ?_ <;> intro hcs) | fail)); all_goals try clear X1))
        refine amidn [(4, .ptr H.length 0 0), (6, .ptr vv 0 0)] _ (by omega) sb (heapW_refl _) rfl ⟨⟨k, 0, [], l', ns'⟩, aL, aN, p', rfl, ⟨i64k, ⟨by omega, by omega⟩, by simp [Len], by simp [Len]; omega, hfl.1, by simp [Len]; omega, hfn⟩, ⟨by simp [GV.l]; omega, fitsB_size hfl (by omega) ..⟩, by simp [GV.ns]; omega, r1, hLA, hNA, by omega, r2, r3, r4, r5⟩
      · have hkc : kk * (c + 1) = (kk - 1) * (c + 1) + (c + 1) := by
          conv => lhs; rw [show kk = (kk - 1) + 1 by omega, Nat.add_mul, Nat.one_mul]
        have hcL := hLA.cell
        have hsL := solid_of_cell hcL
        have hclL := cells_of_cell hcL
        have hcN := hNA.cell
        have hsN := solid_of_cell hcN
        have hclN := cells_of_cell hcN
        (all_goals (have X1 := @r1; have X2 := @hcL; have X3 := @hsL; have X4 := @hclL; (repeat' (first | refine gg ?_ | (refine gd ?_ ?_ <;> (intro hcond; try (exfalso; omega))) | (refine gc ?_ ?_ <;> intro hcs) | fail)); all_goals try clear X1 X2 X3 X4))
        have hH1 := (Heap.at_old H6 [Blk.tok 5] (b := b) (by omega)).trans r2
        (have X1 := @r1; have X2 := @hcL; have X3 := @hsL; have X4 := @hclL; ((apply ar_fcall rfl ok_50); (focus exact eva); (focus exact of_ok bs names5 p' b H6.length 5 _ hH1 (by simp; omega) hl (by omega) (by decide) (by decide)); (focus rfl); (focus rfl)); all_goals try clear X1 X2 X3 X4)
        rintro _ _ ⟨rfl, rfl⟩
        have hsl : Len (names5.getD (pickN bs p' names5.length) []) := names5_in _ (pickN_lt bs p' 5 (by omega))
        obtain ⟨s, hs⟩ : ∃ s, names5.getD (pickN bs p' names5.length) [] = s := ⟨_, rfl⟩
        rw [hs] at hsl ⊢
        obtain ⟨X, hX⟩ : ∃ X, (H6 ++ [Blk.tok 5]).put b (rdB bs (p' + 1)) = X := ⟨_, rfl⟩
        have hXl6 : X.length = H6.length + 1 := by rw [← hX, Heap.put_length _ _ _ (by simp; omega)]; simp
        have hXb : X.at b = rdB bs (p' + 1) := by rw [← hX]; exact Heap.at_put_same _ _ _
        have hXo : ∀ q, q < H6.length → q ≠ b → X.at q = H6.at q := fun q h1 h2 => by rw [← hX, Heap.at_put_ne _ _ _ _ h2]; exact Heap.at_old _ _ h1
        have r1x := (hXo vv r4 (by omega)).trans r1
        have htokN : ∀ t, vv + 1 ≤ t → H6.at t = .tok (strs ns').length → X.at t = .tok (strs ns').length := fun t h1 h2 => (hXo t (at_lt (by rw [h2]; simp)) (by omega)).trans h2
        have htokL : ∀ t, vv + 1 ≤ t → H6.at t = .tok (encs l').length → X.at t = .tok (encs l').length := fun t h1 h2 => (hXo t (at_lt (by rw [h2]; simp)) (by omega)).trans h2
        have hNX := hNA.mono (Nat.le_refl _) htokN
        have hLX := hLA.mono (Nat.le_refl _) htokL
        have hNf := hNX.frz
        rw [hX]
        (all_goals (have X1 := @r1x; have X2 := @hcL; have X3 := @hsL; have X4 := @hclL; have X5 := @hcN; have X6 := @hsN; have X7 := @hclN; (repeat' (first | refine gg ?_ | (refine gd ?_ ?_ <;> (intro hcond; try (exfalso; omega))) | (refine gc ?_ ?_ <;> intro hcs) | fail)); all_goals try clear X1 X2 X3 X4 X5 X6 X7))
        refine ar_call rfl ok_101 (args := [.fsl 1 (strs ns'), .str s]) (show frzL [aN, .str s] = _ by simp only [frzL, hNf]; rfl) (l2Has_ok ns' s (by simp [Len]; omega)) rfl rfl ?_
        (all_goals (have X1 := @r1x; have X2 := @hcL; have X3 := @hsL; have X4 := @hclL; have X5 := @hcN; have X6 := @hsN; have X7 := @hclN; (repeat' (first | refine gr ?_ | fail)); all_goals try clear X1 X2 X3 X4 X5 X6 X7))
        (have X1 := @r1x; have X2 := @hcL; have X3 := @hsL; have X4 := @hclL; have X5 := @hcN; have X6 := @hsN; have X7 := @hclN; (refine gc ?_ ?_ <;> intro hcs); all_goals try clear X1 X2 X3 X4 X5 X6 X7)
        · refine aw_seq_mid (fun env Y => ∃ aN2, env = [(0, .ptr b 0 0), (1, .int .i64 deep), (4, .ptr H.length 0 0), (6, .ptr vv 0 0), (8, .int .i64 (kk : Int))] ∧ Y.at vv = .row 5 [[.int .i64 k, .int .i64 0, .str [], aL, aN2]] ∧ LA (vv + 1) Y 5 (encs l') aL ∧ LA (vv + 1) Y 1 (strs (ns' ++ [s])) aN2 ∧ dis aL aN2 ∧ Y.at b = rdB bs (p' + 1) ∧ Y.at H.length = .row 5 [zvAV] ∧ H6.length ≤ Y.length ∧ ∀ q, q < H.length → q ≠ b → Y.at q = H.at q) ?_ ?_
          · have hsn := strs_len ns'
            have htkn : strs (ns' ++ [s]) = strs ns' ++ [[.str s]] := by simp [strs]
            have q1 := fun L => (Heap.at_old X L (b := vv) (by omega)).trans r1x
            have q2 := fun L x => Heap.put_old X L vv x (by omega)
            have hz1 := fun x => Heap.put_length X vv x (by omega)
            rcases hNX with ⟨hn, rfl⟩ | ⟨tk, rfl, htk, htk2⟩
            · have hn0 : ns' = [] := List.eq_nil_of_length_eq_zero (by rw [← hsn, hn]; rfl)
              (all_goals (have X1 := @r1x; have X2 := @q1; have X3 := @q2; have X4 := @hcL; have X5 := @hsL; have X6 := @hclL; (repeat' (first | refine gg ?_ | (refine gd ?_ ?_ <;> (intro hcond; try (exfalso; omega))) | (refine gc ?_ ?_ <;> intro hcs) | fail)); all_goals try clear X1 X2 X3 X4 X5 X6))
              refine amidn [(0, .ptr b 0 0), (1, .int .i64 deep), (4, .ptr H.length 0 0), (6, .ptr vv 0 0), (8, .int .i64 (kk : Int))] _ (by simp only [List.length_append, hz1]; omega) sb (heapW_refl _) rfl ⟨_, rfl, (Heap.at_old _ _ (by simp only [hz1]; omega)).trans (Heap.at_put_same _ _ _), hLX.mono (Nat.le_refl _) fun t h1 h2 => (Heap.at_old _ _ (by simp only [hz1]; exact at_lt (by rw [h2]; simp))).trans ((Heap.at_put_ne _ _ _ _ (by omega)).trans h2), ?_, ?_, (Heap.at_old _ _ (by simp only [hz1]; omega)).trans ((Heap.at_put_ne _ _ _ _ (by omega)).trans hXb), (Heap.at_old _ _ (by simp only [hz1]; omega)).trans ((Heap.at_put_ne _ _ _ _ (by omega)).trans ((hXo _ (by omega) (by omega)).trans r3)), by simp only [List.length_append, hz1]; omega, fun q h1 h2 => (Heap.at_old _ _ (by simp only [hz1]; omega)).trans ((Heap.at_put_ne _ _ _ _ (by omega)).trans ((hXo q (by omega) h2).trans (r5 q h1 h2)))⟩
              · rw [htkn, hn]
                exact .inr ⟨X.length + 1, rfl, Heap.at_putB (by omega) _ _ 1, by omega⟩
              · rcases hLX with ⟨_, rfl⟩ | ⟨t9, rfl, ht9, _⟩
                · intro _ _ _ _ _ _ _ h; cases h
                · intro t e sz xs e' sz' xs' h h'
                  have h5 := at_lt (by rw [ht9]; simp : X.at t9 ≠ .dead)
                  cases h; cases h'; omega
            · have htl : tk < X.length := at_lt (by rw [htk]; simp)
              have q3 := fun L => (Heap.at_old X L htl).trans htk
              have q4 := fun L x => Heap.put_old X L tk x htl
              have q5 := fun x L => ((Heap.at_old (X.put tk x) L (b := vv) (by rw [Heap.put_length _ _ _ htl]; omega)).trans (Heap.at_put_ne X tk vv x (by omega))).trans r1x
              have q6 := fun x L y => Heap.put_old (X.put tk x) L vv y (by rw [Heap.put_length _ _ _ htl]; omega)
              have hz2 : ∀ x y, ((X.put tk x).put vv y).length = X.length := fun x y => by rw [Heap.put_length _ _ _ (by rw [Heap.put_length _ _ _ htl]; omega), Heap.put_length _ _ _ htl]
              have hz3 := fun x => Heap.put_length X tk x htl
              (all_goals (have X1 := @r1x; have X2 := @q3; have X3 := @q4; have X4 := @q5; have X5 := @q6; have X6 := @hcL; have X7 := @hsL; have X8 := @hclL; (repeat' (first | refine gg ?_ | (refine gd ?_ ?_ <;> (intro hcond; try (exfalso; omega))) | (refine gc ?_ ?_ <;> intro hcs) | fail)); all_goals try clear X1 X2 X3 X4 X5 X6 X7 X8))
              have htkL : tk ≠ b := by omega
              refine amidn [(0, .ptr b 0 0), (1, .int .i64 deep), (4, .ptr H.length 0 0), (6, .ptr vv 0 0), (8, .int .i64 (kk : Int))] _ (by simp only [List.length_append, hz2, hz3]; omega) sb (heapW_refl _) rfl ⟨_, rfl, (Heap.at_old _ _ (by simp only [hz2, hz3]; omega)).trans (Heap.at_put_same _ _ _), hLX.mono' fun t e sz xs h0 h1 h2 => ?_, ?_, ?_, (Heap.at_old _ _ (by simp only [hz2, hz3]; omega)).trans ((Heap.at_put_ne _ _ _ _ (by omega)).trans ((Heap.at_put_ne _ _ _ _ (by omega)).trans hXb)), (Heap.at_old _ _ (by simp only [hz2, hz3]; omega)).trans ((Heap.at_put_ne _ _ _ _ (by omega)).trans ((Heap.at_put_ne _ _ _ _ (by omega)).trans ((hXo _ (by omega) (by omega)).trans r3))), by simp only [List.length_append, hz2, hz3]; omega, fun q h1 h2 => (Heap.at_old _ _ (by simp only [hz2, hz3]; omega)).trans ((Heap.at_put_ne _ _ _ _ (by omega)).trans ((Heap.at_put_ne _ _ _ _ (by omega)).trans ((hXo q (by omega) h2).trans (r5 q h1 h2))))⟩
              · have hne9 : t ≠ tk := fun e9 => hdis t _ _ _ _ _ _ h0 (by rw [e9])
                exact (Heap.at_old _ _ (by simp only [hz2]; exact at_lt (by rw [h2]; simp))).trans ((Heap.at_put_ne _ _ _ _ (by omega)).trans ((Heap.at_put_ne _ _ _ _ hne9).trans h2))
              · rw [htkn]
                refine .inr ⟨tk, by rw [List.length_append]; rfl, ?_, by omega⟩
                rw [Heap.at_old _ _ (by rw [hz2]; exact htl), Heap.at_put_ne _ _ _ _ (by omega), Heap.at_put_same, List.length_append]; rfl
              · intro t e sz xs e' sz' xs' h h'
                cases h'
                exact hdis _ _ _ _ _ _ _ h rfl
          · rintro env Y ⟨aN2, rfl, y1, hLY, hNY, hdisY, y2, y3, y6, y5⟩
            have y4 : vv < Y.length := by omega
            have hfn2 : ∀ x ∈ ns' ++ [s], Len x := by
              intro x hx
              rcases List.mem_append.1 hx with hx | hx
              · exact hfn x hx
              · simp at hx; subst hx; exact hsl
            have hcN2 := hNY.cell
            have hsN2 := solid_of_cell hcN2
            have hclN2 := cells_of_cell hcN2
            (all_goals (have X1 := @y1; have X2 := @hcL; have X3 := @hsL; have X4 := @hclL; have X5 := @hcN2; have X6 := @hsN2; have X7 := @hclN2; (repeat' (first | refine gg ?_ | (refine gd ?_ ?_ <;> (intro hcond; try (exfalso; omega))) | (refine gc ?_ ?_ <;> intro hcs) | fail)); all_goals try clear X1 X2 X3 X4 X5 X6 X7))
            (have X1 := @y1; have X2 := @hcL; have X3 := @hsL; have X4 := @hclL; have X5 := @hcN2; have X6 := @hsN2; have X7 := @hclN2; ((apply ard_ocall (log := [b]) (F := fun r ws Bs => ∃ (v : GV) (p2 : Nat), r = .agg v.enc ∧ v.fits ∧ ((v.l.length ≤ 3 ∧ v.size ≤ S) ∧ v.ns.length ≤ 3) ∧ ws = [(b, rdB bs p2)] ∧ p' + 1 ≤ p2 ∧ p2 ≤ (p' + 1) + c ∧ ∀ x ∈ Bs, x = Blk.dead) rfl ok_77); (focus exact eva); (focus exact fun H1 e1 e2 => FCall.toD (R := fun v => (v.l.length ≤ 3 ∧ v.size ≤ S) ∧ v.ns.length ≤ 3) (by rw [e1]; omega) (FCall.mono (ih hd2' H1 (p' + 1) ((e2 b (by simp)).trans y2) (by rw [e1]; omega) (by omega)) (by rintro r H' ⟨v, a1, a2, a3, a4, a5⟩; exact ⟨v, a1, ⟨a2, a3⟩, a4, a5⟩))); (focus rfl); (focus rfl); (focus (simp only [List.length_cons, List.length_nil, Nat.zero_add, Nat.reduceAdd]; kernel_rfl))); all_goals try clear X1 X2 X3 X4 X5 X6 X7)
            · (refine orderOK_pre 6 [(0, 2), (0, 3), (0, 4), (0, 5), (1, 2), (1, 3), (1, 4), (1, 5), (2, 3), (2, 4)] rfl rfl rfl rfl rfl ?_)
              refine ep ?_; try exact trivial
              all_goals first | (simp; done) | (simp; omega) | skip
            · simp only [blwL, AV.blw, Bool.and_true, Nat.blt_eq]; omega
            · intro q hq; simp at hq; subst hq; exact ⟨by omega, by rw [y2]; rfl⟩
            · intro q hq; simp at hq; subst hq; exact ⟨_, _, y2⟩
            · rintro r ws Bs ⟨u, p2, rfl, huf, hu3, rfl, h1, h2, hBs⟩
              obtain ⟨uk, un, ut, ul, uns⟩ := u
              refine ⟨rfl, fun q hq => ?_, fun x hx => ?_⟩
              · simp at hq; subst hq; exact ⟨by simp, rfl⟩
              · rw [hBs x hx]; rfl
            rintro r ws Bs ⟨u, p2, rfl, huf, hu3, rfl, hp21, hp22, hBs⟩
            obtain ⟨uk, un, ut, ul, uns⟩ := u
            obtain ⟨M, hM⟩ : ∃ M, Y.puts [(b, rdB bs p2)] ++ Bs = M := ⟨_, rfl⟩
            have hM' : Y.put b (rdB bs p2) ++ Bs = M := hM
            have hpl := Heap.put_length Y b (rdB bs p2) (by omega)
            have hMl : Y.length ≤ M.length := by rw [← hM', List.length_append]; omega
            have hMb : M.at b = rdB bs p2 := by rw [← hM', Heap.at_old _ _ (by omega)]; exact Heap.at_put_same _ _ _
            have hMo : ∀ q, q < Y.length → q ≠ b → M.at q = Y.at q := fun q h1 h2 => by rw [← hM', Heap.at_old _ _ (by omega)]; exact Heap.at_put_ne _ _ _ _ h2
            have hMv := (hMo vv y4 (by omega)).trans y1
            have htok : ∀ t, vv + 1 ≤ t → Y.at t = .tok (encs l').length → M.at t = .tok (encs l').length := fun t h1 h2 => (hMo t (at_lt (by rw [h2]; simp)) (by omega)).trans h2
            have hLM := hLY.mono (Nat.le_refl _) htok
            rw [hM]
            have hea : encs (l' ++ [⟨uk, un, ut, ul, uns⟩]) = encs l' ++ [[.int .i64 uk, .int .i64 un, .str ut, .fsl 5 (encs ul), .fsl 1 (strs uns)]] := by rw [encs_eq, encs_eq, List.map_append]; rfl
            have hfl2 : fitsB S (l' ++ [⟨uk, un, ut, ul, uns⟩]) := fitsB_snoc hfl huf hu3.1.2
            have q1 := fun L => (Heap.at_old M L (b := vv) (by omega)).trans hMv
            have q2 := fun L x => Heap.put_old M L vv x (by omega)
            rcases hLM with ⟨hn, rfl⟩ | ⟨tk, rfl, htk, htk2⟩
            · have hl0 : l' = [] := List.eq_nil_of_length_eq_zero (by rw [← encs_len, hn]; rfl)
              (all_goals (have X1 := @GV.enc.eq_1; have X2 := @q1; have X3 := @q2; (repeat' (first | refine gg ?_ | (refine gd ?_ ?_ <;> (intro hcond; try (exfalso; omega))) | (refine gc ?_ ?_ <;> intro hcs) | fail)); all_goals try clear X1 X2 X3))
              refine ard_done_of [(0, 2), (0, 3), (0, 4), (0, 5), (0, 6), (1, 2), (1, 3), (1, 4), (1, 5), (1, 6), (2, 3), (2, 4)] rfl rfl rfl rfl ?_ ?_
              · refine ep ?_; try exact trivial
                have o1 : vv ≠ b := by omega
                repeat' apply And.intro
                all_goals first | (simp [o1, o1.symm]; done) | (simp only [List.all_append, List.all_cons, List.all_nil, Bool.and_true, Bool.and_eq_true]; refine ⟨by simp [o1, o1.symm], ?_⟩; apply all_newWr'; intro k x h1 h2; simp; omega) | (apply all_newWr'; intro k x h1 h2; simp at h1 h2 ⊢; done) | (apply all_newWr'; intro k x h1 h2; simp at h1 h2 ⊢; omega) | (simp; omega) | skip
              (all_goals (have X1 := @GV.enc.eq_1; have X2 := @q1; have X3 := @q2; (repeat' (first | refine gg ?_ | (refine gd ?_ ?_ <;> (intro hcond; try (exfalso; omega))) | (refine gc ?_ ?_ <;> intro hcs) | fail)); all_goals try clear X1 X2 X3))
              have hz1 := fun x => Heap.put_length M vv x (by omega)
              refine anextn [(0, .ptr b 0 0), (1, .int .i64 deep), (4, .ptr H.length 0 0), (6, .ptr vv 0 0), (8, .int .i64 ((kk - 1 : Nat) : Int))] _ (k' := kk - 1) (by omega) (by simp only [List.length_append, hz1]; omega) (by rw [show ((kk - 1 : Nat) : Int) = (kk : Int) - 1 by omega]; simp [subP, Env.get, Weak.refl]) (heapW_refl _) rfl
                ⟨l' ++ [⟨uk, un, ut, ul, uns⟩], ns' ++ [s], _, aN2, p2, by simp; omega, rfl, ⟨hfl2, hfn2⟩, (Heap.at_old _ _ (by simp only [hz1]; omega)).trans (Heap.at_put_same _ _ _), ?_, ?_, ?_, by omega, (Heap.at_old _ _ (by simp only [hz1]; omega)).trans ((Heap.at_put_ne _ _ _ _ (by omega)).trans hMb), (Heap.at_old _ _ (by simp only [hz1]; omega)).trans ((Heap.at_put_ne _ _ _ _ (by omega)).trans ((hMo _ (by omega) (by omega)).trans y3)), by simp only [List.length_append, hz1]; omega, fun q h1 h2 => (Heap.at_old _ _ (by simp only [hz1]; omega)).trans ((Heap.at_put_ne _ _ _ _ (by omega)).trans ((hMo q (by omega) h2).trans (y5 q h1 h2)))⟩
              · rw [hea, hn]
                exact .inr ⟨M.length + 1, rfl, Heap.at_putB (by omega) _ _ 1, by omega⟩
              · refine hNY.mono (Nat.le_refl _) fun t h1 h2 => ?_
                have h5 := at_lt (by rw [h2]; simp : Y.at t ≠ .dead)
                exact (Heap.at_old _ _ (by simp only [hz1]; omega)).trans ((Heap.at_put_ne _ _ _ _ (by omega)).trans ((hMo t h5 (by omega)).trans h2))
              · rcases hNY with ⟨_, rfl⟩ | ⟨t9, rfl, ht9, _⟩
                · intro _ _ _ _ _ _ _ _ h; cases h
                · intro t e sz xs e' sz' xs' h h'
                  have h5 := at_lt (by rw [ht9]; simp : Y.at t9 ≠ .dead)
                  cases h; cases h'; omega
            · have htl : tk < M.length := at_lt (by rw [htk]; simp)
              have hel : (encs l').length = l'.length := encs_len _
              have q3 := fun L => (Heap.at_old M L htl).trans htk
              have q4 := fun L x => Heap.put_old M L tk x htl
              have q5 := fun x L => ((Heap.at_old (M.put tk x) L (b := vv) (by rw [Heap.put_length _ _ _ htl]; omega)).trans (Heap.at_put_ne M tk vv x (by omega))).trans hMv
              have q6 := fun x L y => Heap.put_old (M.put tk x) L vv y (by rw [Heap.put_length _ _ _ htl]; omega)
              (all_goals (have X1 := @GV.enc.eq_1; have X2 := @q3; have X3 := @q4; have X4 := @q5; have X5 := @q6; (repeat' (first | refine gg ?_ | (refine gd ?_ ?_ <;> (intro hcond; try (exfalso; omega))) | (refine gc ?_ ?_ <;> intro hcs) | fail)); all_goals try clear X1 X2 X3 X4 X5))
              refine ard_done_of [(0, 2), (0, 3), (0, 4), (0, 5), (0, 6), (1, 2), (1, 3), (1, 4), (1, 5), (1, 6), (2, 3), (2, 4)] rfl rfl rfl rfl ?_ ?_
              · refine ep ?_; try exact trivial
                have o1 : vv ≠ b := by omega
                repeat' apply And.intro
                all_goals first | (simp [o1, o1.symm]; done) | (simp only [List.all_append, List.all_cons, List.all_nil, Bool.and_true, Bool.and_eq_true]; refine ⟨by simp [o1, o1.symm], ?_⟩; apply all_newWr'; intro k x h1 h2; simp; omega) | (apply all_newWr'; intro k x h1 h2; simp at h1 h2 ⊢; done) | (apply all_newWr'; intro k x h1 h2; simp at h1 h2 ⊢; omega) | (simp; omega) | skip
              (all_goals (have X1 := @GV.enc.eq_1; have X2 := @q3; have X3 := @q4; have X4 := @q5; have X5 := @q6; (repeat' (first | refine gg ?_ | (refine gd ?_ ?_ <;> (intro hcond; try (exfalso; omega))) | (refine gc ?_ ?_ <;> intro hcs) | fail)); all_goals try clear X1 X2 X3 X4 X5))
              have hz2 : ∀ x y, ((M.put tk x).put vv y).length = M.length := fun x y => by rw [Heap.put_length _ _ _ (by rw [Heap.put_length _ _ _ htl]; omega), Heap.put_length _ _ _ htl]
              have hz3 := fun x => Heap.put_length M tk x htl
              refine anextn [(0, .ptr b 0 0), (1, .int .i64 deep), (4, .ptr H.length 0 0), (6, .ptr vv 0 0), (8, .int .i64 ((kk - 1 : Nat) : Int))] _ (k' := kk - 1) (by omega) (by simp only [List.length_append, hz2, hz3]; omega) (by rw [show ((kk - 1 : Nat) : Int) = (kk : Int) - 1 by omega]; simp [subP, Env.get, Weak.refl]) (heapW_refl _) rfl
                ⟨l' ++ [⟨uk, un, ut, ul, uns⟩], ns' ++ [s], _, aN2, p2, by simp; omega, rfl, ⟨hfl2, hfn2⟩, (Heap.at_old _ _ (by simp only [hz2, hz3]; omega)).trans (Heap.at_put_same _ _ _), ?_, ?_, ?_, by omega, (Heap.at_old _ _ (by simp only [hz2, hz3]; omega)).trans (((Heap.at_put_ne _ _ _ _ (by omega)).trans (Heap.at_put_ne _ _ _ _ (by omega))).trans hMb), (Heap.at_old _ _ (by simp only [hz2, hz3]; omega)).trans (((Heap.at_put_ne _ _ _ _ (by omega)).trans (Heap.at_put_ne _ _ _ _ (by omega))).trans ((hMo _ (by omega) (by omega)).trans y3)), by simp only [List.length_append, hz2, hz3]; omega, fun q h1 h2 => (Heap.at_old _ _ (by simp only [hz2, hz3]; omega)).trans (((Heap.at_put_ne _ _ _ _ (by omega)).trans (Heap.at_put_ne _ _ _ _ (by omega))).trans ((hMo q (by omega) h2).trans (y5 q h1 h2)))⟩
              · rw [hea]
                refine .inr ⟨tk, by rw [List.length_append]; rfl, ?_, by omega⟩
                rw [Heap.at_old _ _ (by rw [hz2]; exact htl), Heap.at_put_ne _ _ _ _ (by omega), Heap.at_put_same, List.length_append]; rfl
              · refine hNY.mono' fun t e sz xs h0 h1 h2 => ?_
                have h5 := at_lt (by rw [h2]; simp : Y.at t ≠ .dead)
                have hne9 : t ≠ tk := fun e9 => hdisY tk _ _ _ _ _ _ rfl (by rw [h0, e9])
                exact (Heap.at_old _ _ (by simp only [hz2]; omega)).trans ((Heap.at_put_ne _ _ _ _ (by omega)).trans ((Heap.at_put_ne _ _ _ _ hne9).trans ((hMo t h5 (by omega)).trans h2)))
              · intro t e sz xs e' sz' xs' h h'
                cases h
                exact hdisY _ _ _ _ _ _ _ rfl h'
        ·
          (all_goals (have X1 := @r1x; (repeat' (first | refine gg ?_ | (refine gd ?_ ?_ <;> (intro hcond; try (exfalso; omega))) | (refine gc ?_ ?_ <;> intro hcs) | fail)); all_goals try clear X1))
          refine anextn [(0, .ptr b 0 0), (1, .int .i64 deep), (4, .ptr H.length 0 0), (6, .ptr vv 0 0), (8, .int .i64 ((kk - 1 : Nat) : Int))] _ (k' := kk - 1) (by omega) (by omega) (by rw [show ((kk - 1 : Nat) : Int) = (kk : Int) - 1 by omega]; simp [subP, Env.get, Weak.refl]) (heapW_refl _) rfl
            ⟨l', ns', aL, aN, p' + 1, by omega, rfl, ⟨hfl, hfn⟩, r1x, hLX, hNX, hdis, by omega, hXb, (hXo _ (by omega) (by omega)).trans r3, by omega, fun q h1 h2 => (hXo q (by omega) h2).trans (r5 q h1 h2)⟩
    · -- nothing
      refine amidn [(4, .ptr H.length 0 0), (6, .ptr vv 0 0)] _ (Nat.le_refl _) sb (heapW_refl _) rfl ⟨⟨k, 0, [], [], []⟩, .nsl 5, .nsl 1, p1, rfl, ⟨i64k, ⟨by omega, by omega⟩, by simp [Len], by simp [Len], trivial, by simp [Len], by simp⟩, ⟨by simp [GV.l], by simp [GV.size, sizes]⟩, by simp [GV.ns], hFv, .inl ⟨rfl, rfl⟩, .inl ⟨rfl, rfl⟩, by omega, hFb, hFr, by omega, hFo⟩
  · rintro env F' ⟨v, aL, aN, p2, rfl, hvf, hv3, hn3, hFv', hL, hN, hp2, hFb', hFr', hFl', hFo'⟩
    have hcL := hL.cell
    have hcN := hN.cell
    have hsL := solid_of_cell hcL
    have hsN := solid_of_cell hcN
    have hclL := cells_of_cell hcL
    have hclN := cells_of_cell hcN
    have hfin := fun x => Heap.at_put_same F' H.length x
    (all_goals (have X1 := @hFv'; have X2 := @hFr'; have X3 := @hcL; have X4 := @hcN; have X5 := @hsL; have X6 := @hsN; have X7 := @hclL; have X8 := @hclN; have X9 := @hfin; (repeat' (first | refine gg ?_ | (refine gd ?_ ?_ <;> (intro hcond; try (exfalso; omega))) | (refine gc ?_ ?_ <;> intro hcs) | fail)); all_goals try clear X1 X2 X3 X4 X5 X6 X7 X8 X9))
    refine ⟨v, hvf, hv3, hn3, ⟨aL, aN, rfl, hL.mono (by omega) fun t ht h => (Heap.at_put_ne _ _ _ _ (by omega)).trans h, hN.mono (by omega) fun t ht h => (Heap.at_put_ne _ _ _ _ (by omega)).trans h⟩, p2, hp2.1, hp2.2, (Heap.at_put_ne _ _ _ _ (by omega)).trans hFb', by rw [Heap.put_length _ _ _ (by omega)]; omega, fun q h1 h2 => (Heap.at_put_ne _ _ _ _ (by omega)).trans (hFo' q h1 h2)⟩
end Go.Av
set_option linter.unusedVariables false
set_option linter.unusedSimpArgs false
namespace Go.Av
open Go
set_option maxRecDepth 10000
set_option maxHeartbeats 1000000
def szD : Nat → Nat
  | 0 => 2
  | d + 1 => 2 + 3 * szD d
def cst : Nat → Nat
  | 0 => 9
  | d + 1 => 9 + 3 * cst d
theorem l13Value_all (bs : List UInt8) (hl : Len bs) (b : Nat) : ∀ (d : Nat) (deep : Int), deep ≤ d + 1 → d ≤ 100 → -1000 ≤ deep → ∀ (H : Heap) (p : Nat), H.at b = rdB bs p → b < H.length → p + cst d ≤ 900000000 →
    FCall P 77 [.ptr b 0 0, .int .i64 deep] H fun r H' => ∃ v : GV, v.fits ∧ (v.l.length ≤ 3 ∧ v.size ≤ szD d) ∧ v.ns.length ≤ 3 ∧ LVal H.length H' r v ∧ RdF H H' b bs p (cst d)
  | 0, deep, hd, _, hd2, H, p, hb, hbl, hp => by
    have := l13Value_step bs hl b deep 0 0 (by omega) hd2 (fun h => by omega) H p hb hbl (by simpa [cst] using hp)
    simpa [cst, szD] using this
  | d + 1, deep, hd, hdd, hd2, H, p, hb, hbl, hp =>
    l13Value_step bs hl b deep (cst d) (szD d) (by omega) hd2 (fun h2 H p hb hbl hp => l13Value_all bs hl b d (deep - 1) (by omega) (by omega) (by omega) H p hb hbl hp) H p hb hbl hp
theorem LA.nil_or {n : Nat} {H : Heap} {sz : Nat} {es : List (List AV)} {a : AV} (h : LA n H sz es a) : (es = [] ∧ a = .nsl sz) ∨ ∃ t, a = .asl t es.length sz es ∧ H.at t = .tok es.length := by
  rcases h with h | ⟨t, h1, h2, _⟩
  · exact .inl h
  · exact .inr ⟨t, h1, h2⟩
def ints5 : List Int := [1, 2, 3, 3, 6]
theorem ints5_in (i : Nat) (h : i < 5) : 1 ≤ ints5.getD i 0 ∧ ints5.getD i 0 ≤ 6 := by
  match i, h with
  | 0, _ => decide
  | 1, _ => decide
  | 2, _ => decide
  | 3, _ => decide
  | 4, _ => decide
def ints6 : List Int := [-1, 8, 6, 7, 4, 5]
theorem ints6_in (i : Nat) (h : i < 6) : I64 (ints6.getD i 0) := by
  match i, h with
  | 0, _ => decide
  | 1, _ => decide
  | 2, _ => decide
  | 3, _ => decide
  | 4, _ => decide
  | 5, _ => decide
def ints3 : List Int := [2, 2147483648, -5]
theorem ints3_in (i : Nat) (h : i < 3) : I64 (ints3.getD i 0) := by
  match i, h with
  | 0, _ => decide
  | 1, _ => decide
  | 2, _ => decide
def names3 : List (List UInt8) := [[97], [98], [49]]
theorem names3_in (i : Nat) (h : i < 3) : Len (names3.getD i []) := by
  match i, h with
  | 0, _ => decide
  | 1, _ => decide
  | 2, _ => decide
/-- where v stands: its cells, and what else is there -/
structure Vat (H0 : Heap) (vv b : Nat) (bs : List UInt8) (p : Nat) (Y : Heap) (v : GV) (aL aN : AV) : Prop where
  row : Y.at vv = .row 5 [[.int .i64 v.k, .int .i64 v.n, .str v.t, aL, aN]]
  la : LA H0.length Y 5 (encs v.l) aL
  na : LA H0.length Y 1 (strs v.ns) aN
  fits : v.fits
  lt : vv < Y.length
  res : Y.at H0.length = .row 5 [zvAV]
  rd : Y.at b = rdB bs p
  old : ∀ q, q < H0.length → q ≠ b → Y.at q = H0.at q
  ne : vv ≠ b ∧ H0.length ≠ b ∧ H0.length ≠ vv ∧ b < H0.length ∧ H0.length < vv
structure VatF (H0 : Heap) (vv b : Nat) (bs : List UInt8) (p : Nat) (Y : Heap) (v : GV) (aL aN : AV) : Prop where
  row : Y.at vv = .row 5 [[.int .i64 v.k, .int .i64 v.n, .str v.t, aL, aN]]
  lc : aL.isCell = true ∧ aN.isCell = true
  lf : Av.frz aL = some (.fsl 5 (encs v.l))
  nf : Av.frz aN = some (.fsl 1 (strs v.ns))
  fits : v.fits
  lt : vv < Y.length
  res : Y.at H0.length = .row 5 [zvAV]
  rd : Y.at b = rdB bs p
  old : ∀ q, q < H0.length → q ≠ b → Y.at q = H0.at q
  ne : vv ≠ b ∧ H0.length ≠ b ∧ H0.length ≠ vv ∧ b < H0.length ∧ H0.length < vv
theorem Vat.toF {H0 : Heap} {vv b : Nat} {bs : List UInt8} {p : Nat} {Y : Heap} {v : GV} {aL aN : AV} (h : Vat H0 vv b bs p Y v aL aN) : VatF H0 vv b bs p Y v aL aN :=
  ⟨h.row, ⟨h.la.cell, h.na.cell⟩, h.la.frz, h.na.frz, h.fits, h.lt, h.res, h.rd, h.old, h.ne⟩
theorem LA.app {n : Nat} {H : Heap} {sz : Nat} {es : List (List AV)} {a : AV} (h : LA n H sz es a) (L : Heap) : LA n (H ++ L) sz es a :=
  h.mono (Nat.le_refl _) fun t _ h2 => (Heap.at_old _ _ (at_lt (by rw [h2]; simp))).trans h2
theorem LA.put {n : Nat} {H : Heap} {sz : Nat} {es : List (List AV)} {a : AV} (h : LA n H sz es a) {q : Nat} {s2 : Nat} {e2 : List (List AV)} (hq : H.at q = .row s2 e2) (x : Blk) : LA n (H.put q x) sz es a :=
  h.mono (Nat.le_refl _) fun t _ h2 => (Heap.at_put_ne _ _ _ _ (fun e => by rw [e, hq] at h2; cases h2)).trans h2
theorem Vat.app {H0 : Heap} {vv b : Nat} {bs : List UInt8} {p : Nat} {Y : Heap} {v : GV} {aL aN : AV} (h : Vat H0 vv b bs p Y v aL aN) (L : Heap) : Vat H0 vv b bs p (Y ++ L) v aL aN := by
  have hne := h.ne
  have hlt := h.lt
  exact ⟨(Heap.at_old _ _ h.lt).trans h.row, h.la.app L, h.na.app L, h.fits, by rw [List.length_append]; omega, (Heap.at_old _ _ (by omega)).trans h.res, (Heap.at_old _ _ (by omega)).trans h.rd, fun q h1 h2 => (Heap.at_old _ _ (by omega)).trans (h.old q h1 h2), h.ne⟩
theorem Vat.step {H0 : Heap} {vv b : Nat} {bs : List UInt8} {p : Nat} {Y : Heap} {v : GV} {aL aN : AV} (h : Vat H0 vv b bs p Y v aL aN) (p' : Nat) : Vat H0 vv b bs p' (Y.put b (rdB bs p')) v aL aN := by
  have hne := h.ne
  have hlt := h.lt
  exact ⟨(Heap.at_put_ne _ _ _ _ hne.1).trans h.row, h.la.put h.rd _, h.na.put h.rd _, h.fits, by rw [Heap.put_length _ _ _ (by omega)]; omega, (Heap.at_put_ne _ _ _ _ hne.2.1).trans h.res, Heap.at_put_same _ _ _, fun q h1 h2 => (Heap.at_put_ne _ _ _ _ h2).trans (h.old q h1 h2), h.ne⟩
theorem Vat.set {H0 : Heap} {vv b : Nat} {bs : List UInt8} {p : Nat} {Y : Heap} {v : GV} {aL aN : AV} (h : Vat H0 vv b bs p Y v aL aN) (v' : GV) {aL' aN' : AV} (hL : LA H0.length Y 5 (encs v'.l) aL') (hN : LA H0.length Y 1 (strs v'.ns) aN') (hf : v'.fits) :
    Vat H0 vv b bs p (Y.put vv (.row 5 [[.int .i64 v'.k, .int .i64 v'.n, .str v'.t, aL', aN']])) v' aL' aN' := by
  have hne := h.ne
  have hlt := h.lt
  exact ⟨Heap.at_put_same _ _ _, hL.put h.row _, hN.put h.row _, hf, by rw [Heap.put_length _ _ _ hlt]; omega, (Heap.at_put_ne _ _ _ _ (by omega)).trans h.res, (Heap.at_put_ne _ _ _ _ (by omega)).trans h.rd, fun q h1 h2 => (Heap.at_put_ne _ _ _ _ (by omega)).trans (h.old q h1 h2), h.ne⟩

theorem sizes_snoc : ∀ (l : List GV) (v : GV), sizes (l ++ [v]) = sizes l + v.size
  | [], v => by simp [sizes]; omega
  | w :: l, v => by
    have := sizes_snoc l v
    simp only [List.cons_append, sizes, this]; omega
theorem zeroV_size : zeroV.size = 2 := by simp [zeroV, GV.size, sizes]
theorem l13AnyValue_ok (bs : List UInt8) (hl : Len bs) (b p : Nat) (H : Heap) (hb : H.at b = rdB bs p) (hbl : b < H.length) (hp : p ≤ 800000000) :
    FCall P 51 [.ptr b 0 0] H fun r H' => ∃ v : GV, (v.fits ∧ v.size ≤ 1000000) ∧ r = .agg v.enc ∧ RdF H H' b bs p 20000 := by
  refine FCall.give ?_
  refine fcall_walk T_ok ok_51 rfl ?_
  unfold Go.Proofs.Try.f51
  simp only [Option.getD_some, envOf, Nat.zero_add, Nat.reduceAdd]
  (all_goals (have X1 := @hb; (repeat' (first | refine gg ?_ | (refine gd ?_ ?_ <;> (intro hcond; try (exfalso; omega))) | (refine gc ?_ ?_ <;> intro hcs) | fail)); all_goals try clear X1))
  have hb1 := (Heap.at_old (H ++ [Blk.row 5 [zvAV]]) [Blk.tok 5] (b := b) (by simp; omega)).trans ((Heap.at_old H _ hbl).trans hb)
  simp only [List.append_assoc, List.cons_append, List.nil_append] at hb1
  (have X1 := @hb; ((apply ar_fcall rfl ok_76); (focus exact eva); (focus exact one_ok bs ints5 p b _ _ _ hb1 (by simp; omega) hl (by omega) (by decide) (by decide)); (focus rfl); (focus rfl)); all_goals try clear X1)
  rintro _ _ ⟨rfl, rfl⟩
  have h5 := ints5_in (pickN bs p ints5.length) (pickN_lt bs p 5 (by omega))
  generalize ints5.getD (pickN bs p ints5.length) 0 = dp at *
  obtain ⟨X, hX⟩ : ∃ X, (H ++ [Blk.row 5 [zvAV], Blk.tok 5]).put b (rdB bs (p + 1)) = X := ⟨_, rfl⟩
  have hXl : X.length = H.length + 2 := by rw [← hX, Heap.put_length _ _ _ (by simp; omega)]; simp
  have hXb : X.at b = rdB bs (p + 1) := by rw [← hX]; exact Heap.at_put_same _ _ _
  have hXr : X.at H.length = .row 5 [zvAV] := by rw [← hX, Heap.at_put_ne _ _ _ _ (by omega)]; exact Heap.at_app _ _ 0
  have hXo : ∀ q, q < H.length → q ≠ b → X.at q = H.at q := fun q h1 h2 => by rw [← hX, Heap.at_put_ne _ _ _ _ h2]; exact Heap.at_old _ _ h1
  rw [hX]
  (have X1 := @hb; ((apply ar_fcall rfl ok_77); (focus exact eva); (focus exact l13Value_all bs hl b 5 dp (by omega) (by omega) (by omega) X (p + 1) hXb (by omega) (by simp [cst]; omega)); (focus rfl); (focus rfl)); all_goals try clear X1)
  rintro _ Y ⟨v, hvf, hv3, hn3, ⟨aL, aN, rfl, hL, hN⟩, p1, hp1, hp1', hYb, hYl, hYo⟩
  have hc5 : cst 5 = 3276 := by decide
  rw [hc5] at hp1'
  have hcL := hL.cell
  have hcN := hN.cell
  have hsL := solid_of_cell hcL
  have hsN := solid_of_cell hcN
  have hclL := cells_of_cell hcL
  have hclN := cells_of_cell hcN
  (all_goals (have X1 := @hcL; have X2 := @hcN; have X3 := @hsL; have X4 := @hsN; have X5 := @hclL; have X6 := @hclN; (repeat' (first | refine gr ?_ | fail)); all_goals try clear X1 X2 X3 X4 X5 X6))
  obtain ⟨vv, hvv⟩ : ∃ vv, Y.length = vv := ⟨_, rfl⟩
  have hV : Vat H vv b bs p1 (Y ++ [Blk.row 5 [[.int .i64 v.k, .int .i64 v.n, .str v.t, aL, aN]]]) v aL aN :=
    ⟨by rw [← hvv]; exact Heap.at_app _ _ 0, (hL.mono (by omega) fun t _ h => h).app _, (hN.mono (by omega) fun t _ h => h).app _, hvf, by rw [List.length_append, hvv]; simp, (Heap.at_old _ _ (by omega)).trans ((hYo _ (by omega) (by omega)).trans hXr), (Heap.at_old _ _ (by omega)).trans hYb, fun q h1 h2 => (Heap.at_old _ _ (by omega)).trans ((hYo q (by omega) h2).trans (hXo q h1 h2)), by omega⟩
  rw [hvv]
  generalize (Y ++ [Blk.row 5 [[.int .i64 v.k, .int .i64 v.n, .str v.t, aL, aN]]]) = F at *
  refine aw_seq_mid (fun env Z => ∃ (v : GV) (aL aN : AV) (p2 : Nat), env = [(2, .ptr H.length 0 0), (3, .ptr vv 0 0)] ∧ (p ≤ p2 ∧ p2 ≤ p + 20000 ∧ v.size ≤ 1000000) ∧ VatF H vv b bs p2 Z v aL aN) ?_ ?_
  · obtain ⟨vk, vn, vt, vl, vns⟩ := v
    obtain ⟨f1, f2, f3, f4, f5, f6, f7⟩ := hvf
    have hszv : sizes vl ≤ 728 := by
      have h1 := hv3.2
      have h2 : szD 5 = 728 := by decide
      simp only [GV.size, h2] at h1; omega
    have hVl := hV.lt
    have hne := hV.ne
    (all_goals (have X1 := @hcL; have X2 := @hcN; have X3 := @hsL; have X4 := @hsN; have X5 := @hclL; have X6 := @hclN; (repeat' (first | refine gg ?_ | (refine gd ?_ ?_ <;> (intro hcond; try (exfalso; omega))) | (refine gc ?_ ?_ <;> intro hcs) | fail)); all_goals try clear X1 X2 X3 X4 X5 X6))
    (have X1 := @hcL; have X2 := @hcN; have X3 := @hsL; have X4 := @hsN; have X5 := @hclL; have X6 := @hclN; ((apply ar_fcall rfl ok_49); (focus exact eva); (focus exact pick_ok bs 16 p1 b F hV.rd (by omega) hl (by omega) (by decide)); (focus rfl); (focus rfl)); all_goals try clear X1 X2 X3 X4 X5 X6)
    rintro _ _ ⟨rfl, rfl⟩
    rw [show pickV bs p1 16 = ((pickN bs p1 16 : Nat) : Int) from pickN_eq bs p1 16]
    have h16 := pickN_lt bs p1 16 (by omega)
    generalize pickN bs p1 16 = w at *
    have hV2 := hV.step (p1 + 1)
    have hVl2 := Heap.put_length F b (rdB bs (p1 + 1)) (by omega)
    generalize F.put b (rdB bs (p1 + 1)) = G at *
    have hVr := hV2.row
    (all_goals (have X1 := @hVr; have X2 := @hcL; have X3 := @hcN; have X4 := @hsL; have X5 := @hsN; have X6 := @hclL; have X7 := @hclN; (repeat' (first | refine gg ?_ | (refine gd ?_ ?_ <;> (intro hcond; try (exfalso; omega))) | (refine gc ?_ ?_ <;> intro hcs) | fail)); all_goals try clear X1 X2 X3 X4 X5 X6 X7))
    · have hV3 := hV2.app [Blk.tok 6]
      (have X1 := @hVr; have X2 := @hcL; have X3 := @hcN; have X4 := @hsL; have X5 := @hsN; have X6 := @hclL; have X7 := @hclN; ((apply ar_fcall rfl ok_76); (focus exact eva); (focus exact one_ok bs ints6 (p1 + 1) b _ _ _ hV3.rd (by have := hV3.lt; omega) hl (by omega) (by decide) (by decide)); (focus rfl); (focus rfl)); all_goals try clear X1 X2 X3 X4 X5 X6 X7)
      rintro _ _ ⟨rfl, rfl⟩
      have hz := ints6_in (pickN bs (p1 + 1) ints6.length) (pickN_lt bs (p1 + 1) 6 (by omega))
      generalize ints6.getD (pickN bs (p1 + 1) ints6.length) 0 = z at *
      have hV4 := hV3.step (p1 + 2)
      have hr4 := hV4.row
      (all_goals (have X1 := @hr4; have X2 := @hcL; have X3 := @hcN; have X4 := @hsL; have X5 := @hsN; have X6 := @hclL; have X7 := @hclN; (repeat' (first | refine gg ?_ | (refine gd ?_ ?_ <;> (intro hcond; try (exfalso; omega))) | (refine gc ?_ ?_ <;> intro hcs) | fail)); all_goals try clear X1 X2 X3 X4 X5 X6 X7))
      exact amidn [(2, .ptr H.length 0 0), (3, .ptr vv 0 0)] _ (by rw [Heap.put_length _ _ _ hV4.lt, Heap.put_length _ _ _ (by have := hV3.lt; omega)]; simp; omega) sb (heapW_refl _) rfl ⟨⟨z, vn, vt, vl, vns⟩, aL, aN, p1 + 2, rfl, ⟨by omega, by omega, by simp only [GV.size, sizes]; omega⟩, hV4.set ⟨z, vn, vt, vl, vns⟩ hV4.la hV4.na ⟨hz, f2, f3, f4, f5, f6, f7⟩ |>.toF⟩
    · have hV3 := hV2.app [Blk.tok 3]
      (have X1 := @hVr; have X2 := @hcL; have X3 := @hcN; have X4 := @hsL; have X5 := @hsN; have X6 := @hclL; have X7 := @hclN; ((apply ar_fcall rfl ok_76); (focus exact eva); (focus exact one_ok bs ints3 (p1 + 1) b _ _ _ hV3.rd (by have := hV3.lt; omega) hl (by omega) (by decide) (by decide)); (focus rfl); (focus rfl)); all_goals try clear X1 X2 X3 X4 X5 X6 X7)
      rintro _ _ ⟨rfl, rfl⟩
      have hz := ints3_in (pickN bs (p1 + 1) ints3.length) (pickN_lt bs (p1 + 1) 3 (by omega))
      generalize ints3.getD (pickN bs (p1 + 1) ints3.length) 0 = z at *
      have hV4 := hV3.step (p1 + 2)
      have hr4 := hV4.row
      (all_goals (have X1 := @hr4; have X2 := @hcL; have X3 := @hcN; have X4 := @hsL; have X5 := @hsN; have X6 := @hclL; have X7 := @hclN; (repeat' (first | refine gg ?_ | (refine gd ?_ ?_ <;> (intro hcond; try (exfalso; omega))) | (refine gc ?_ ?_ <;> intro hcs) | fail)); all_goals try clear X1 X2 X3 X4 X5 X6 X7))
      exact amidn [(2, .ptr H.length 0 0), (3, .ptr vv 0 0)] _ (by rw [Heap.put_length _ _ _ hV4.lt, Heap.put_length _ _ _ (by have := hV3.lt; omega)]; simp; omega) sb (heapW_refl _) rfl ⟨⟨vk, z, vt, vl, vns⟩, aL, aN, p1 + 2, rfl, ⟨by omega, by omega, by simp only [GV.size, sizes]; omega⟩, hV4.set ⟨vk, z, vt, vl, vns⟩ hV4.la hV4.na ⟨f1, hz, f3, f4, f5, f6, f7⟩ |>.toF⟩
    · have hV3 := hV2
      (have X1 := @hVr; have X2 := @hcL; have X3 := @hcN; have X4 := @hsL; have X5 := @hsN; have X6 := @hclL; have X7 := @hclN; ((apply ar_fcall rfl ok_49); (focus exact eva); (focus exact pick_ok bs 2 (p1 + 1) b _ hV3.rd (by have := hV3.lt; omega) hl (by omega) (by decide)); (focus rfl); (focus rfl)); all_goals try clear X1 X2 X3 X4 X5 X6 X7)
      rintro _ _ ⟨rfl, rfl⟩
      rw [show pickV bs (p1 + 1) 2 = ((pickN bs (p1 + 1) 2 : Nat) : Int) from pickN_eq bs (p1 + 1) 2]
      have hz := pickN_lt bs (p1 + 1) 2 (by omega)
      generalize pickN bs (p1 + 1) 2 = z at *
      (have X1 := @hVr; have X2 := @hcL; have X3 := @hcN; have X4 := @hsL; have X5 := @hsN; have X6 := @hclL; have X7 := @hclN; (refine ga ?_); all_goals try clear X1 X2 X3 X4 X5 X6 X7)
      refine ar_qcall rfl ok_78 (args := [.str [121], .int .i64 ((40 + z : Nat) : Int)]) rfl (l1Many_ok [121] (40 + z) (by simp; omega) (by decide) (by omega)) rfl rfl ?_
      rintro _ ⟨out, rfl, ho⟩
      have hV4 := hV3.step (p1 + 2)
      have hr4 := hV4.row
      (all_goals (have X1 := @hr4; have X2 := @hcL; have X3 := @hcN; have X4 := @hsL; have X5 := @hsN; have X6 := @hclL; have X7 := @hclN; (repeat' (first | refine gg ?_ | (refine gd ?_ ?_ <;> (intro hcond; try (exfalso; omega))) | (refine gc ?_ ?_ <;> intro hcs) | fail)); all_goals try clear X1 X2 X3 X4 X5 X6 X7))
      exact amidn [(2, .ptr H.length 0 0), (3, .ptr vv 0 0)] _ (by rw [Heap.put_length _ _ _ hV4.lt, Heap.put_length _ _ _ (by have := hV3.lt; omega)]; omega) sb (heapW_refl _) rfl ⟨⟨vk, vn, out, vl, vns⟩, aL, aN, p1 + 2, rfl, ⟨by omega, by omega, by simp only [GV.size, sizes]; omega⟩, hV4.set ⟨vk, vn, out, vl, vns⟩ hV4.la hV4.na ⟨f1, f2, by simp [Len]; omega, f4, f5, f6, f7⟩ |>.toF⟩
    · clear hVr hcL hcN hsL hsN hclL hclN
      refine aw_loopn (fun kk env Z => ∃ (i : Nat) (v : GV) (aL aN : AV) (p2 : Nat), (kk = 8 - i ∧ i ≤ 7) ∧ env = [(0, .ptr b 0 0), (2, .ptr H.length 0 0), (3, .ptr vv 0 0), (4, .int .i64 (i : Int))] ∧ (p ≤ p2 ∧ p2 ≤ p1 + 1 + i ∧ G.length ≤ Z.length ∧ v.size ≤ 1000 + 2 * i) ∧ Vat H vv b bs p2 Z v aL aN) 8
        [(0, .ptr b 0 0), (2, .ptr H.length 0 0), (3, .ptr vv 0 0), (4, .int .i64 0)] _ sb (heapW_refl _) rfl ⟨0, ⟨vk, vn, vt, vl, vns⟩, aL, aN, p1 + 1, by omega, rfl, ⟨by omega, by omega, by omega, by simp only [GV.size]; omega⟩, hV2⟩ ?_
      rintro kk env Z ⟨i, ⟨ck, cn, ct, cl, cns⟩, aL, aN, p2, ⟨rfl, hi⟩, rfl, hp2, hV5⟩
      have hszc := hp2.2.2.2
      simp only [GV.size] at hszc
      have hl5 := hV5.lt
      (all_goals (have X1 := @hV5.rd; (repeat' (first | refine gg ?_ | (refine gd ?_ ?_ <;> (intro hcond; try (exfalso; omega))) | (refine gc ?_ ?_ <;> intro hcs) | fail)); all_goals try clear X1))
      (have X1 := @hV5.rd; ((apply ar_fcall rfl ok_49); (focus exact eva); (focus exact pick_ok bs 2 p2 b _ hV5.rd (by omega) hl (by omega) (by decide)); (focus rfl); (focus rfl)); all_goals try clear X1)
      rintro _ _ ⟨rfl, rfl⟩
      rw [show pickV bs p2 2 = ((pickN bs p2 2 : Nat) : Int) from pickN_eq bs p2 2]
      have hz := pickN_lt bs p2 2 (by omega)
      generalize pickN bs p2 2 = z at *
      have hV6 := hV5.step (p2 + 1)
      have hV6l := Heap.put_length Z b (rdB bs (p2 + 1)) (by omega)
      generalize Z.put b (rdB bs (p2 + 1)) = Z2 at *
      have hr6 := hV6.row
      have hl6 := hV6.lt
      have hcL := hV6.la.cell
      have hcN := hV6.na.cell
      have hsL := solid_of_cell hcL
      have hsN := solid_of_cell hcN
      have hclL := cells_of_cell hcL
      have hclN := cells_of_cell hcN
      have hLf := hV6.la.frz
      have hNf := hV6.na.frz
      have q1 := fun L => (Heap.at_old Z2 L hl6).trans hr6
      have q2 := fun L x => Heap.put_old Z2 L vv x hl6
      (all_goals (have X1 := @hr6; have X2 := @hcL; have X3 := @hcN; have X4 := @hsL; have X5 := @hsN; have X6 := @hclL; have X7 := @hclN; have X8 := @hLf; have X9 := @hNf; have X10 := @q1; have X11 := @q2; have X12 := @GV.k.eq_1; have X13 := @GV.n.eq_1; have X14 := @GV.t.eq_1; (repeat' (first | refine gg ?_ | (refine gd ?_ ?_ <;> (intro hcond; try (exfalso; omega))) | (refine gc ?_ ?_ <;> intro hcs) | fail)); all_goals try clear X1 X2 X3 X4 X5 X6 X7 X8 X9 X10 X11 X12 X13 X14))
      · have hV7 := (hV6.app [Blk.tok 1]).set ⟨4, 0, [], [⟨ck, cn, ct, cl, cns⟩], []⟩ (aL' := .asl Z2.length 1 5 [[.int .i64 ck, .int .i64 cn, .str ct, .fsl 5 (encs cl), .fsl 1 (strs cns)]]) (aN' := .nsl 1) (.inr ⟨Z2.length, rfl, Heap.at_app _ _ 0, by omega⟩) (.inl ⟨rfl, rfl⟩) ⟨by decide, by decide, by simp [Len], by simp [Len], ⟨hV6.fits, trivial⟩, by simp [Len], by simp⟩
        rw [q2] at hV7
        exact anextn [(0, .ptr b 0 0), (2, .ptr H.length 0 0), (3, .ptr vv 0 0), (4, .int .i64 ((i + 1 : Nat) : Int))] _ (k' := 8 - (i + 1)) (by omega) (by rw [List.length_append, Heap.put_length _ _ _ hl6]; omega) sb (heapW_refl _) rfl ⟨i + 1, _, _, _, p2 + 1, by omega, rfl, ⟨by omega, by omega, by rw [List.length_append, Heap.put_length _ _ _ hl6]; omega, by simp only [GV.size, sizes]; omega⟩, hV7⟩
      · exact amidn [(2, .ptr H.length 0 0), (3, .ptr vv 0 0)] _ (by omega) sb (heapW_refl _) rfl ⟨⟨ck, cn, ct, cl, cns⟩, aL, aN, p2 + 1, rfl, ⟨by omega, by omega, by simp only [GV.size, sizes]; omega⟩, hV6.toF⟩
    · --
      have hV3 := hV2.app [Blk.tok 3]
      have hl3 := hV3.lt
      (have X1 := @hVr; have X2 := @hcL; have X3 := @hcN; have X4 := @hsL; have X5 := @hsN; have X6 := @hclL; have X7 := @hclN; ((apply ard_ocall (log := [b]) (F := fun r ws Bs => r = .str (names3.getD (pickN bs (p1 + 1) names3.length) []) ∧ ws = [(b, rdB bs (p1 + 2))] ∧ Bs = []) rfl ok_50); (focus exact eva); (focus exact fun H1 e1 e2 => FCall.mono (of_ok bs names3 (p1 + 1) b _ _ H1 ((e2 b (by simp)).trans hV3.rd) (by rw [e1]; omega) hl (by omega) (by decide) (by decide)) (by rintro r H' ⟨rfl, rfl⟩; exact ⟨_, [], ⟨rfl, rfl, rfl⟩, by simp [Heap.puts]⟩)); (focus rfl); (focus rfl); (focus (simp only [List.length_cons, List.length_nil, Nat.zero_add, Nat.reduceAdd]; kernel_rfl))); all_goals try clear X1 X2 X3 X4 X5 X6 X7)
      · (refine orderOK_pre 5 [(0, 2), (0, 3), (0, 4), (1, 2), (1, 3), (1, 4), (2, 3)] rfl rfl rfl rfl rfl ?_)
        refine ep ?_; try exact trivial
        all_goals first | (simp; done) | (simp; omega) | skip
      · simp only [blwL, AV.blw, Bool.and_true, Bool.and_eq_true, Nat.blt_eq, List.length_append, List.length_singleton]; omega
      · intro q hq; simp at hq; subst hq; exact ⟨by omega, by rw [hV3.rd]; rfl⟩
      · intro q hq; simp at hq; subst hq; exact ⟨_, _, hV3.rd⟩
      · rintro r ws Bs ⟨rfl, rfl, rfl⟩
        exact ⟨rfl, fun q hq => by simp at hq; subst hq; exact ⟨by simp, rfl⟩, fun x hx => by cases hx⟩
      rintro r ws Bs ⟨rfl, rfl, rfl⟩
      have hsl := names3_in (pickN bs (p1 + 1) names3.length) (pickN_lt bs (p1 + 1) 3 (by omega))
      generalize names3.getD (pickN bs (p1 + 1) names3.length) [] = s at *
      have hV4 := hV3.step (p1 + 2)
      have hl4 := Heap.put_length (G ++ [Blk.tok 3]) b (rdB bs (p1 + 2)) (by omega)
      rw [show Heap.puts (G ++ [Blk.tok 3]) [(b, rdB bs (p1 + 2))] ++ [] = (G ++ [Blk.tok 3]).put b (rdB bs (p1 + 2)) from List.append_nil _]
      generalize (G ++ [Blk.tok 3]).put b (rdB bs (p1 + 2)) = Z at *
      have hr4 := hV4.row
      have hz4 := hV4.lt
      have q1 := fun L => (Heap.at_old Z L hz4).trans hr4
      have q2 := fun L x => Heap.put_old Z L vv x hz4
      have hz1 := fun x => Heap.put_length Z vv x hz4
      have htkn : strs (vns ++ [s]) = strs vns ++ [[.str s]] := by simp [strs]
      have hfn2 : ∀ x ∈ vns ++ [s], Len x := by
        intro x hx
        rcases List.mem_append.1 hx with hx | hx
        · exact f7 x hx
        · simp at hx; subst hx; exact hsl
      have hnlen : Len (vns ++ [s]) := by simp only [Len, List.length_append, List.length_singleton]; have : vns.length ≤ 3 := hn3; omega
      have hna4 : LA H.length Z 1 (strs vns) aN := hV4.na
      have hn3' : vns.length ≤ 3 := hn3
      rcases hna4 with ⟨hn, rfl⟩ | ⟨tk, rfl, htk, hge⟩
      · have hV7 := (hV4.app [Blk.tok 1, Blk.tok 1]).set ⟨vk, vn, vt, vl, vns ++ [s]⟩ (aL' := aL) (aN' := .asl (Z.length + 1) 1 1 [[.str s]]) ((hV4.la).app _) (.inr ⟨Z.length + 1, by show AV.asl _ 1 1 [[.str s]] = AV.asl _ (strs (vns ++ [s])).length 1 (strs (vns ++ [s])); rw [htkn, hn]; rfl, by show _ = Blk.tok (strs (vns ++ [s])).length; rw [htkn, hn]; exact Heap.at_app _ _ 1, by omega⟩) ⟨f1, f2, f3, f4, f5, hnlen, hfn2⟩
        rw [q2] at hV7
        (all_goals (have X1 := @hr4; have X2 := @hcL; have X3 := @hsL; have X4 := @hclL; have X5 := @q1; have X6 := @q2; (repeat' (first | refine gg ?_ | (refine gd ?_ ?_ <;> (intro hcond; try (exfalso; omega))) | (refine gc ?_ ?_ <;> intro hcs) | fail)); all_goals try clear X1 X2 X3 X4 X5 X6))
        refine ard_done_of [(0, 2), (0, 3), (0, 4), (0, 5), (1, 2), (1, 3), (1, 4), (1, 5), (2, 3)] rfl rfl rfl rfl ?_ ?_
        · refine ep ?_; try exact trivial
          have o1 : vv ≠ b := by omega
          repeat' apply And.intro
          all_goals first | (simp [newWr, o1, o1.symm]; done) | (simp; done) | (simp [newWr]; omega) | (simp; omega) | skip
        (all_goals (have X1 := @hr4; have X2 := @hcL; have X3 := @hsL; have X4 := @hclL; have X5 := @q1; have X6 := @q2; (repeat' (first | refine gg ?_ | (refine gd ?_ ?_ <;> (intro hcond; try (exfalso; omega))) | (refine gc ?_ ?_ <;> intro hcs) | fail)); all_goals try clear X1 X2 X3 X4 X5 X6))
        exact amidn [(2, .ptr H.length 0 0), (3, .ptr vv 0 0)] _ (by rw [List.length_append, hz1]; have := hV4.lt; simp only [List.length_append, List.length_singleton] at hl4; omega) sb (heapW_refl _) rfl ⟨_, aL, _, p1 + 2, rfl, ⟨by omega, by omega, by simp only [GV.size, sizes]; omega⟩, hV7.toF⟩
      · have htl : tk < Z.length := at_lt (by rw [htk]; simp)
        have htv : tk ≠ vv := fun e => by rw [e, hr4] at htk; cases htk
        have htb : tk ≠ b := fun e => by rw [e, hV4.rd] at htk; cases htk
        have hth : tk ≠ H.length := fun e => by rw [e, hV4.res] at htk; cases htk
        have q3 := fun L => (Heap.at_old Z L htl).trans htk
        have q4 := fun L x => Heap.put_old Z L tk x htl
        have q5 := fun x L => ((Heap.at_old (Z.put tk x) L (b := vv) (by rw [Heap.put_length _ _ _ htl]; omega)).trans (Heap.at_put_ne Z tk vv x (fun e => htv e.symm))).trans hr4
        have q6 := fun x L y => Heap.put_old (Z.put tk x) L vv y (by rw [Heap.put_length _ _ _ htl]; omega)
        have hz2 : ∀ x y, ((Z.put tk x).put vv y).length = Z.length := fun x y => by rw [Heap.put_length _ _ _ (by rw [Heap.put_length _ _ _ htl]; omega), Heap.put_length _ _ _ htl]
        (all_goals (have X1 := @hr4; have X2 := @hcL; have X3 := @hsL; have X4 := @hclL; have X5 := @q3; have X6 := @q4; have X7 := @q5; have X8 := @q6; have X9 := @strs_len; (repeat' (first | refine gg ?_ | (refine gd ?_ ?_ <;> (intro hcond; try (exfalso; omega))) | (refine gc ?_ ?_ <;> intro hcs) | fail)); all_goals try clear X1 X2 X3 X4 X5 X6 X7 X8 X9))
        refine ard_done_of [(0, 2), (0, 3), (0, 4), (0, 5), (1, 2), (1, 3), (1, 4), (1, 5), (2, 3)] rfl rfl rfl rfl ?_ ?_
        · refine ep ?_; try exact trivial
          have o1 : vv ≠ b := by omega
          repeat' apply And.intro
          all_goals first | (simp [newWr, o1, o1.symm]; done) | (simp; done) | (simp [newWr]; omega) | (simp; omega) | skip
        (all_goals (have X1 := @hr4; have X2 := @hcL; have X3 := @hsL; have X4 := @hclL; have X5 := @q3; have X6 := @q4; have X7 := @q5; have X8 := @q6; have X9 := @strs_len; (repeat' (first | refine gg ?_ | (refine gd ?_ ?_ <;> (intro hcond; try (exfalso; omega))) | (refine gc ?_ ?_ <;> intro hcs) | fail)); all_goals try clear X1 X2 X3 X4 X5 X6 X7 X8 X9))
        refine amidn [(2, .ptr H.length 0 0), (3, .ptr vv 0 0)] _ (by rw [List.length_append, hz2]; have := hV4.lt; simp only [List.length_append, List.length_singleton] at hl4; omega) sb (heapW_refl _) rfl ⟨⟨vk, vn, vt, vl, vns ++ [s]⟩, aL, _, p1 + 2, rfl, ⟨by omega, by omega, by simp only [GV.size, sizes]; omega⟩, ⟨(Heap.at_old _ _ (by rw [hz2]; omega)).trans (Heap.at_put_same _ _ _), ⟨hcL, rfl⟩, hV4.la.frz, by show _ = some (AV.fsl 1 (strs (vns ++ [s]))); rw [htkn]; rfl, ⟨f1, f2, f3, f4, f5, hnlen, hfn2⟩, by rw [List.length_append, hz2]; omega, (Heap.at_old _ _ (by rw [hz2]; omega)).trans ((Heap.at_put_ne _ _ _ _ (by omega)).trans ((Heap.at_put_ne _ _ _ _ (fun e => hth e.symm)).trans hV4.res)), (Heap.at_old _ _ (by rw [hz2]; omega)).trans ((Heap.at_put_ne _ _ _ _ (by omega)).trans ((Heap.at_put_ne _ _ _ _ (fun e => htb e.symm)).trans hV4.rd)), fun q h1 h2 => (Heap.at_old _ _ (by rw [hz2]; omega)).trans ((Heap.at_put_ne _ _ _ _ (by omega)).trans ((Heap.at_put_ne _ _ _ _ (by omega)).trans (hV4.old q h1 h2))), hne⟩⟩
    · -- an empty list that grows
      have hps := fun x => Heap.at_put_same G vv x
      have hpp := fun x y => Heap.put_put2 G vv x y
      (all_goals (have X1 := @hVr; have X2 := @hcL; have X3 := @hcN; have X4 := @hsL; have X5 := @hsN; have X6 := @hclL; have X7 := @hclN; have X8 := @hps; have X9 := @hpp; (repeat' (first | refine gg ?_ | (refine gd ?_ ?_ <;> (intro hcond; try (exfalso; omega))) | (refine gc ?_ ?_ <;> intro hcs) | fail)); all_goals try clear X1 X2 X3 X4 X5 X6 X7 X8 X9))
      have hV8 := hV2.set ⟨4, 0, [], vl, []⟩ (aL' := aL) (aN' := .nsl 1) hV2.la (.inl ⟨rfl, rfl⟩) ⟨by decide, by decide, by simp [Len], f4, f5, by simp [Len], by simp⟩
      have hV8l := Heap.put_length G vv (Blk.row 5 [[.int .i64 4, .int .i64 0, .str [], aL, .nsl 1]]) hV2.lt
      have hv3' : vl.length ≤ 3 := hv3.1
      refine aw_loopn (fun kk env Z => ∃ (l' : List GV) (aL : AV) (p2 : Nat), (kk = 14 - l'.length ∧ l'.length ≤ 13 ∧ G.length ≤ Z.length) ∧ env = [(0, .ptr b 0 0), (2, .ptr H.length 0 0), (3, .ptr vv 0 0)] ∧ (p ≤ p2 ∧ p2 + kk ≤ p1 + 20) ∧ (fitss l' ∧ sizes l' ≤ 1000 + 2 * l'.length) ∧ Vat H vv b bs p2 Z ⟨4, 0, [], l', []⟩ aL (.nsl 1)) (14 - vl.length)
        [(0, .ptr b 0 0), (2, .ptr H.length 0 0), (3, .ptr vv 0 0)] _ sb (heapW_refl _) rfl ⟨vl, aL, p1 + 1, ⟨rfl, by omega, Nat.le_of_eq hV8l.symm⟩, rfl, by omega, ⟨f5, by omega⟩, hV8⟩ ?_
      clear hVr hcL hcN hsL hsN hclL hclN hps hpp
      rintro kk env Z ⟨l', aL, p2, ⟨rfl, hl13, hGZ⟩, rfl, hp2, ⟨hfl, hszl⟩, hV5⟩
      have hl5 := hV5.lt
      have hr5 := hV5.row
      have hr5 : Z.at vv = .row 5 [[.int .i64 4, .int .i64 0, .str [], aL, .nsl 1]] := hr5
      have hcL := hV5.la.cell
      have hsL := solid_of_cell hcL
      have hclL := cells_of_cell hcL
      have hla5 : LA H.length Z 5 (encs l') aL := hV5.la
      rcases hla5 with ⟨hn, rfl⟩ | ⟨tk, rfl, htk, htk2⟩
      ·
        (all_goals (have X1 := @hr5; (repeat' (first | refine gg ?_ | (refine gd ?_ ?_ <;> (intro hcond; try (exfalso; omega))) | (refine gc ?_ ?_ <;> intro hcs) | fail)); all_goals try clear X1))
        (have X1 := @hr5; ((apply ard_ocall (log := [b]) (F := fun r ws Bs => r = .int .i64 ((pickN bs p2 2 : Nat) : Int) ∧ ws = [(b, rdB bs (p2 + 1))] ∧ Bs = []) rfl ok_49); (focus exact eva); (focus exact fun H1 e1 e2 => FCall.mono (pick_ok bs 2 p2 b H1 ((e2 b (by simp)).trans hV5.rd) (by rw [e1]; omega) hl (by omega) (by decide)) (by rintro r H' ⟨rfl, rfl⟩; exact ⟨_, [], ⟨by rw [← pickN_eq]; rfl, rfl, rfl⟩, by simp [Heap.puts]⟩)); (focus rfl); (focus rfl); (focus (simp only [List.length_cons, List.length_nil, Nat.zero_add, Nat.reduceAdd]; kernel_rfl))); all_goals try clear X1)
        · (refine orderOK_pre 5 [(0, 3), (0, 4), (1, 3), (1, 4), (2, 3), (2, 4)] rfl rfl rfl rfl rfl ?_)
          refine ep ?_; try exact trivial
          all_goals first | (simp; done) | (simp; omega) | skip
        · simp only [blwL, AV.blw, Bool.and_true, Bool.and_eq_true, Nat.blt_eq]; omega
        · intro q hq; simp at hq; subst hq; exact ⟨by omega, by rw [hV5.rd]; rfl⟩
        · intro q hq; simp at hq; subst hq; exact ⟨_, _, hV5.rd⟩
        · rintro r ws Bs ⟨rfl, rfl, rfl⟩
          exact ⟨rfl, fun q hq => by simp at hq; subst hq; exact ⟨by simp, rfl⟩, fun x hx => by cases hx⟩
        rintro r ws Bs ⟨rfl, rfl, rfl⟩
        have hz := pickN_lt bs p2 2 (by omega)
        generalize pickN bs p2 2 = z at *
        have hV6 := hV5.step (p2 + 1)
        have hl6 := Heap.put_length Z b (rdB bs (p2 + 1)) (by omega)
        rw [show Heap.puts Z [(b, rdB bs (p2 + 1))] ++ [] = Z.put b (rdB bs (p2 + 1)) from List.append_nil _]
        generalize Z.put b (rdB bs (p2 + 1)) = W at *
        have hr6 : W.at vv = .row 5 [[.int .i64 4, .int .i64 0, .str [], .nsl 5, .nsl 1]] := hV6.row
        have hw6 := hV6.lt
        have q1 := fun L => (Heap.at_old W L hw6).trans hr6
        have q2 := fun L x => Heap.put_old W L vv x hw6
        have hz1 := fun x => Heap.put_length W vv x hw6
        (all_goals (have X1 := @hr6; have X2 := @q1; have X3 := @q2; (repeat' (first | refine gg ?_ | (refine gd ?_ ?_ <;> (intro hcond; try (exfalso; omega))) | (refine gc ?_ ?_ <;> intro hcs) | fail)); all_goals try clear X1 X2 X3))
        refine ard_done_of [(0, 3), (0, 4), (0, 5), (1, 3), (1, 4), (1, 5), (2, 3), (2, 4), (2, 5)] rfl rfl rfl rfl ?_ ?_
        · refine ep ?_; try exact trivial
          have o1 : vv ≠ b := by omega
          repeat' apply And.intro
          all_goals first | (simp [newWr, o1, o1.symm]; done) | (simp; done) | (simp [newWr]; omega) | (simp; omega) | skip
        (all_goals (have X1 := @hr6; have X2 := @q1; have X3 := @q2; (repeat' (first | refine gg ?_ | (refine gd ?_ ?_ <;> (intro hcond; try (exfalso; omega))) | (refine gc ?_ ?_ <;> intro hcs) | fail)); all_goals try clear X1 X2 X3))
        · have hl0 : l' = [] := List.eq_nil_of_length_eq_zero (by rw [← encs_len, hn]; rfl)
          have hl00 : l'.length = 0 := by rw [hl0]; rfl
          have hea : encs (l' ++ [zeroV]) = [zvF] := by rw [hl0]; rfl
          have hV7 := (hV6.app [Blk.tok 1, Blk.tok 1]).set ⟨4, 0, [], l' ++ [zeroV], []⟩ (aL' := .asl (W.length + 1) 1 5 [zvF]) (aN' := .nsl 1) (.inr ⟨W.length + 1, by show AV.asl _ 1 5 [zvF] = AV.asl _ (encs (l' ++ [zeroV])).length 5 (encs (l' ++ [zeroV])); rw [hea]; rfl, by show _ = Blk.tok (encs (l' ++ [zeroV])).length; rw [hea]; exact Heap.at_app _ _ 1, by omega⟩) (.inl ⟨rfl, rfl⟩) ⟨by decide, by decide, by simp [Len], by simp only [Len, List.length_append, List.length_singleton]; omega, fitss_snoc hfl zeroV_fits, by simp [Len], by simp⟩
          rw [q2] at hV7
          exact anextn [(0, .ptr b 0 0), (2, .ptr H.length 0 0), (3, .ptr vv 0 0)] _ (k' := 14 - (l' ++ [zeroV]).length) (by rw [List.length_append, List.length_singleton]; omega) (by simp only [List.length_append, hz1]; omega) sb (heapW_refl _) rfl ⟨l' ++ [zeroV], _, p2 + 1, ⟨rfl, by rw [List.length_append, List.length_singleton]; omega, by simp only [List.length_append, hz1]; omega⟩, rfl, by rw [List.length_append, List.length_singleton]; omega, ⟨fitss_snoc hfl zeroV_fits, by rw [sizes_snoc, zeroV_size, List.length_append, List.length_singleton]; omega⟩, hV7⟩
      ·
        (all_goals (have X1 := @hr5; have X2 := @encs_len; (repeat' (first | refine gg ?_ | (refine gd ?_ ?_ <;> (intro hcond; try (exfalso; omega))) | (refine gc ?_ ?_ <;> intro hcs) | fail)); all_goals try clear X1 X2))
        (have X1 := @hr5; have X2 := @encs_len; ((apply ard_ocall (log := [b]) (F := fun r ws Bs => r = .int .i64 ((pickN bs p2 2 : Nat) : Int) ∧ ws = [(b, rdB bs (p2 + 1))] ∧ Bs = []) rfl ok_49); (focus exact eva); (focus exact fun H1 e1 e2 => FCall.mono (pick_ok bs 2 p2 b H1 ((e2 b (by simp)).trans hV5.rd) (by rw [e1]; omega) hl (by omega) (by decide)) (by rintro r H' ⟨rfl, rfl⟩; exact ⟨_, [], ⟨by rw [← pickN_eq]; rfl, rfl, rfl⟩, by simp [Heap.puts]⟩)); (focus rfl); (focus rfl); (focus (simp only [List.length_cons, List.length_nil, Nat.zero_add, Nat.reduceAdd]; kernel_rfl))); all_goals try clear X1 X2)
        · (refine orderOK_pre 5 [(0, 3), (0, 4), (1, 3), (1, 4), (2, 3), (2, 4)] rfl rfl rfl rfl rfl ?_)
          refine ep ?_; try exact trivial
          all_goals first | (simp; done) | (simp; omega) | skip
        · simp only [blwL, AV.blw, Bool.and_true, Bool.and_eq_true, Nat.blt_eq]; omega
        · intro q hq; simp at hq; subst hq; exact ⟨by omega, by rw [hV5.rd]; rfl⟩
        · intro q hq; simp at hq; subst hq; exact ⟨_, _, hV5.rd⟩
        · rintro r ws Bs ⟨rfl, rfl, rfl⟩
          exact ⟨rfl, fun q hq => by simp at hq; subst hq; exact ⟨by simp, rfl⟩, fun x hx => by cases hx⟩
        rintro r ws Bs ⟨rfl, rfl, rfl⟩
        have hz := pickN_lt bs p2 2 (by omega)
        generalize pickN bs p2 2 = z at *
        have hV6 := hV5.step (p2 + 1)
        have hl6 := Heap.put_length Z b (rdB bs (p2 + 1)) (by omega)
        rw [show Heap.puts Z [(b, rdB bs (p2 + 1))] ++ [] = Z.put b (rdB bs (p2 + 1)) from List.append_nil _]
        generalize Z.put b (rdB bs (p2 + 1)) = W at *
        have hr6 : W.at vv = .row 5 [[.int .i64 4, .int .i64 0, .str [], .asl tk (encs l').length 5 (encs l'), .nsl 1]] := hV6.row
        have hw6 := hV6.lt
        have q1 := fun L => (Heap.at_old W L hw6).trans hr6
        have q2 := fun L x => Heap.put_old W L vv x hw6
        have hz1 := fun x => Heap.put_length W vv x hw6
        have htk6 : W.at tk = .tok (encs l').length := by
          have hla6 : LA H.length W 5 (encs l') (.asl tk (encs l').length 5 (encs l')) := hV6.la
          rcases hla6 with ⟨h, h'⟩ | ⟨t9, h, h', _⟩
          · cases h'
          · cases h; exact h'
        have htl : tk < W.length := at_lt (by rw [htk6]; simp)
        have htv : tk ≠ vv := fun e => by rw [e, hr6] at htk6; cases htk6
        have htb : tk ≠ b := fun e => by rw [e, hV6.rd] at htk6; cases htk6
        have hth : tk ≠ H.length := fun e => by rw [e, hV6.res] at htk6; cases htk6
        have q3 := fun L => (Heap.at_old W L htl).trans htk6
        have q4 := fun L x => Heap.put_old W L tk x htl
        have q5 := fun x L => ((Heap.at_old (W.put tk x) L (b := vv) (by rw [Heap.put_length _ _ _ htl]; omega)).trans (Heap.at_put_ne W tk vv x (fun e => htv e.symm))).trans hr6
        have q6 := fun x L y => Heap.put_old (W.put tk x) L vv y (by rw [Heap.put_length _ _ _ htl]; omega)
        have hz2 : ∀ x y, ((W.put tk x).put vv y).length = W.length := fun x y => by rw [Heap.put_length _ _ _ (by rw [Heap.put_length _ _ _ htl]; omega), Heap.put_length _ _ _ htl]
        (all_goals (have X1 := @hr6; have X2 := @q3; have X3 := @q4; have X4 := @q5; have X5 := @q6; have X6 := @encs_len; (repeat' (first | refine gg ?_ | (refine gd ?_ ?_ <;> (intro hcond; try (exfalso; omega))) | (refine gc ?_ ?_ <;> intro hcs) | fail)); all_goals try clear X1 X2 X3 X4 X5 X6))
        refine ard_done_of [(0, 3), (0, 4), (0, 5), (1, 3), (1, 4), (1, 5), (2, 3), (2, 4), (2, 5)] rfl rfl rfl rfl ?_ ?_
        · refine ep ?_; try exact trivial
          have o1 : vv ≠ b := by omega
          repeat' apply And.intro
          all_goals first | (simp [newWr, o1, o1.symm]; done) | (simp; done) | (simp [newWr]; omega) | (simp; omega) | skip
        (all_goals (have X1 := @hr6; have X2 := @q3; have X3 := @q4; have X4 := @q5; have X5 := @q6; have X6 := @encs_len; (repeat' (first | refine gg ?_ | (refine gd ?_ ?_ <;> (intro hcond; try (exfalso; omega))) | (refine gc ?_ ?_ <;> intro hcs) | fail)); all_goals try clear X1 X2 X3 X4 X5 X6))
        · have hea : encs (l' ++ [zeroV]) = encs l' ++ [zvF] := by rw [encs_eq, encs_eq, List.map_append]; rfl
          have hV6' : Vat H vv b bs (p2 + 1) (W.put tk (.tok (l'.length + 1))) ⟨4, 0, [], [], []⟩ (.asl tk (encs l').length 5 (encs l')) (.nsl 1) → True := fun _ => trivial
          have hrw : ((W.put tk (.tok (l'.length + 1))) ++ [Blk.tok 1]).at vv = .row 5 [[.int .i64 4, .int .i64 0, .str [], .asl tk (encs l').length 5 (encs l'), .nsl 1]] := q5 _ _
          have hwl : ((W.put tk (.tok (l'.length + 1))) ++ [Blk.tok 1]).length = W.length + 1 := by rw [List.length_append, Heap.put_length _ _ _ htl]; rfl
          have hmv : ∀ q, q < W.length → q ≠ tk → ((W.put tk (.tok (l'.length + 1))) ++ [Blk.tok 1]).at q = W.at q := fun q h1 h2 => (Heap.at_old _ _ (by rw [Heap.put_length _ _ _ htl]; exact h1)).trans (Heap.at_put_ne _ _ _ _ h2)
          have hX1 : LA H.length ((W.put tk (.tok (l'.length + 1))) ++ [Blk.tok 1]) 5 (encs (l' ++ [zeroV])) (.asl tk (l'.length + 1) 5 (encs l' ++ [zvF])) := by
            rw [hea]
            refine .inr ⟨tk, by rw [List.length_append, encs_len]; rfl, ?_, htk2⟩
            rw [Heap.at_old _ _ (by rw [Heap.put_length _ _ _ htl]; exact htl), Heap.at_put_same, List.length_append, encs_len]; rfl
          have hne6 := hV6.ne
          have hV7 : Vat H vv b bs (p2 + 1) (((W.put tk (.tok (l'.length + 1))) ++ [Blk.tok 1]).put vv (.row 5 [[.int .i64 4, .int .i64 0, .str [], .asl tk (l'.length + 1) 5 (encs l' ++ [zvF]), .nsl 1]])) ⟨4, 0, [], l' ++ [zeroV], []⟩ (.asl tk (l'.length + 1) 5 (encs l' ++ [zvF])) (.nsl 1) :=
            ⟨Heap.at_put_same _ _ _, hX1.put hrw _, .inl ⟨rfl, rfl⟩, ⟨by decide, by decide, by simp [Len], by simp only [Len, List.length_append, List.length_singleton]; omega, fitss_snoc hfl zeroV_fits, by simp [Len], by simp⟩, by rw [Heap.put_length _ _ _ (by omega)]; omega, (Heap.at_put_ne _ _ _ _ (by omega)).trans ((hmv _ (by omega) (by omega)).trans hV6.res), (Heap.at_put_ne _ _ _ _ (by omega)).trans ((hmv _ (by omega) htb.symm).trans hV6.rd), fun q h1 h2 => (Heap.at_put_ne _ _ _ _ (by omega)).trans ((hmv q (by omega) (by omega)).trans (hV6.old q h1 h2)), hV6.ne⟩
          rw [q6] at hV7
          exact anextn [(0, .ptr b 0 0), (2, .ptr H.length 0 0), (3, .ptr vv 0 0)] _ (k' := 14 - (l' ++ [zeroV]).length) (by rw [List.length_append, List.length_singleton]; omega) (by simp only [List.length_append, hz2]; omega) sb (heapW_refl _) rfl ⟨l' ++ [zeroV], _, p2 + 1, ⟨rfl, by rw [List.length_append, List.length_singleton]; omega, by simp only [List.length_append, hz2]; omega⟩, rfl, by rw [List.length_append, List.length_singleton]; omega, ⟨fitss_snoc hfl zeroV_fits, by rw [sizes_snoc, zeroV_size, List.length_append, List.length_singleton]; omega⟩, hV7⟩
        · exact amidn [(2, .ptr H.length 0 0), (3, .ptr vv 0 0)] _ (by omega) sb (heapW_refl _) rfl ⟨⟨4, 0, [], l', []⟩, .asl tk (encs l').length 5 (encs l'), .nsl 1, p2 + 1, rfl, ⟨by omega, by omega, by simp only [GV.size, sizes]; omega⟩, hV6.toF⟩
    · exact amidn [(2, .ptr H.length 0 0), (3, .ptr vv 0 0)] _ (by omega) sb (heapW_refl _) rfl ⟨⟨vk, vn, vt, vl, vns⟩, aL, aN, p1 + 1, rfl, ⟨by omega, by omega, by simp only [GV.size, sizes]; omega⟩, hV2.toF⟩
  · clear hV hL hN hcL hcN hsL hsN hclL hclN hvf hv3 hn3 aL aN v
    rintro env Z ⟨v, aL, aN, p2, rfl, hp2, hV⟩
    have hcL := hV.lc.1
    have hcN := hV.lc.2
    have hsL := solid_of_cell hcL
    have hsN := solid_of_cell hcN
    have hclL := cells_of_cell hcL
    have hclN := cells_of_cell hcN
    have hVr := hV.row
    have hVs := hV.res
    have hVn := hV.ne
    have hVl := hV.lt
    have hfin := fun x => Heap.at_put_same Z H.length x
    (all_goals (have X1 := @hVr; have X2 := @hVs; have X3 := @hfin; have X4 := @hcL; have X5 := @hcN; have X6 := @hsL; have X7 := @hsN; have X8 := @hclL; have X9 := @hclN; (repeat' (first | refine gg ?_ | (refine gd ?_ ?_ <;> (intro hcond; try (exfalso; omega))) | (refine gc ?_ ?_ <;> intro hcs) | fail)); all_goals try clear X1 X2 X3 X4 X5 X6 X7 X8 X9))
    refine ⟨.agg v.enc, [], bor_frz ?_, by simp, v, ⟨hV.fits, hp2.2.2⟩, rfl, p2, hp2.1, hp2.2.1, (Heap.at_put_ne _ _ _ _ (by omega)).trans hV.rd, by show _ ≤ (Z.put _ _).length; rw [Heap.put_length _ _ _ (by omega)]; omega, fun q h1 h2 => (Heap.at_put_ne _ _ _ _ (by omega)).trans (hV.old q h1 h2)⟩
    obtain ⟨vk, vn, vt, vl, vns⟩ := v
    show Av.frz (.agg [.int .i64 vk, .int .i64 vn, .str vt, aL, aN]) = _
    have h1 := hV.lf
    have h2 := hV.nf
    simp only [Av.frz, frzL, h1, h2, GV.enc]
    rfl
end Go.Av
set_option linter.unusedVariables false
set_option linter.unusedSimpArgs false
namespace Go.Av
open Go
set_option maxRecDepth 10000
set_option maxHeartbeats 1000000
theorem l1Blank_ok (s : List UInt8) (hs : Len s) : QCall P 107 [.str s] fun r => ∃ t : List UInt8, r = .str t ∧ t.length ≤ s.length := by
  refine qcall_of_fcall (fcall_walk T_ok ok_107 rfl ?_)
  unfold Go.Proofs.Try.f107
  simp only [Option.getD_some, envOf, Nat.zero_add, Nat.reduceAdd]
  repeat' (first | refine gg ?_ | (refine gd ?_ ?_ <;> (intro hcond; try (exfalso; omega))) | (refine gc ?_ ?_ <;> intro hcs) | fail)
  refine aw_loopn (fun kk env H => ∃ t : List UInt8, (kk = t.length ∧ t.length ≤ s.length) ∧ env = [(0, .str t)]) s.length [(0, .str s)] _ sb (heapW_refl _) rfl ⟨s, ⟨rfl, Nat.le_refl _⟩, rfl⟩ ?_
  rintro kk env H ⟨t, ⟨rfl, ht⟩, rfl⟩
  repeat' (first | refine gg ?_ | (refine gd ?_ ?_ <;> (intro hcond; try (exfalso; omega))) | (refine gc ?_ ?_ <;> intro hcs) | fail)
  all_goals first
    | exact ⟨_, rfl, t, rfl, ht⟩
    | (exact anextn [(0, .str (t.drop 1))] _ (k' := (t.drop 1).length) (by rw [List.length_drop]; omega) (Nat.le_refl _) sb (heapW_refl _) rfl ⟨t.drop 1, ⟨rfl, by rw [List.length_drop]; omega⟩, rfl⟩)
    | skip
theorem l1Sixteen_ok (b : UInt8) : QCall P 114 [.int .u8 b.toNat] fun r => ∃ z : Int, r = .int .i64 z ∧ -1 ≤ z ∧ z ≤ 15 := by
  refine qcall_of_fcall (fcall_walk T_ok ok_114 rfl ?_)
  unfold Go.Proofs.Try.f114
  simp only [Option.getD_some, envOf, Nat.zero_add, Nat.reduceAdd]
  have h255 : b.toNat < 256 := UInt8.toNat_lt _
  repeat' (first | refine gg ?_ | (refine gd ?_ ?_ <;> (intro hcond; try (exfalso; omega))) | (refine gc ?_ ?_ <;> intro hcs) | fail)
  (apply ar_call rfl ok_88); (focus exact eva); (focus exact l1Figure_ok b); (focus rfl); (focus rfl)
  repeat' (first | refine gg ?_ | (refine gd ?_ ?_ <;> (intro hcond; try (exfalso; omega))) | (refine gc ?_ ?_ <;> intro hcs) | fail)
  · have hf : 48 ≤ b.toNat ∧ b.toNat ≤ 57 := by have := hcs; simp [isFig] at this; exact this
    rw [wrap_u8 ⟨by omega, by omega⟩, wrap_i64 ⟨by omega, by omega⟩]
    exact ⟨_, rfl, _, rfl, by omega, by omega⟩
  all_goals exact ⟨_, rfl, _, rfl, by omega, by omega⟩
theorem l1Word_ok (s : List UInt8) (hs : Len s) : QCall P 112 [.str s] fun r => ∃ k : Nat, r = .str (s.take k) ∧ k ≤ s.length := by
  refine qcall_of_fcall (fcall_walk T_ok ok_112 rfl ?_)
  unfold Go.Proofs.Try.f112
  simp only [Option.getD_some, envOf, Nat.zero_add, Nat.reduceAdd]
  repeat' (first | refine gg ?_ | (refine gd ?_ ?_ <;> (intro hcond; try (exfalso; omega))) | (refine gc ?_ ?_ <;> intro hcs) | fail)
  refine aw_loopn (fun kk env H => ∃ i : Nat, (kk = s.length - i ∧ i ≤ s.length) ∧ env = [(0, .str s), (3, .int .i64 (i : Int))]) s.length [(0, .str s), (3, .int .i64 0)] _ sb (heapW_refl _) rfl ⟨0, by omega, rfl⟩ ?_
  rintro kk env H ⟨i, ⟨rfl, hi⟩, rfl⟩
  (all_goals (have X1 := @Int.toNat_natCast; (repeat' (first | refine gg ?_ | (refine gd ?_ ?_ <;> (intro hcond; try (exfalso; omega))) | (refine gc ?_ ?_ <;> intro hcs) | fail)); all_goals try clear X1))
  · (have X1 := @Int.toNat_natCast; ((apply ar_call rfl ok_87); (focus exact eva); (focus exact l1Letter_ok (s.getD i 0)); (focus rfl); (focus rfl)); all_goals try clear X1)
    (all_goals (have X1 := @Int.toNat_natCast; (repeat' (first | refine gg ?_ | (refine gd ?_ ?_ <;> (intro hcond; try (exfalso; omega))) | (refine gc ?_ ?_ <;> intro hcs) | fail)); all_goals try clear X1))
    all_goals try (have X1 := @Int.toNat_natCast; ((apply ar_call rfl ok_88); (focus exact eva); (focus exact l1Figure_ok (s.getD i 0)); (focus rfl); (focus rfl)); all_goals try clear X1)
    (all_goals (have X1 := @Int.toNat_natCast; (repeat' (first | refine gg ?_ | (refine gd ?_ ?_ <;> (intro hcond; try (exfalso; omega))) | (refine gc ?_ ?_ <;> intro hcs) | fail)); all_goals try clear X1))
    all_goals first
      | (exact anextn [(0, .str s), (3, .int .i64 ((i + 1 : Nat) : Int))] _ (k' := s.length - (i + 1)) (by omega) (Nat.le_refl _) sb (heapW_refl _) rfl ⟨i + 1, by omega, rfl⟩)
      | exact ⟨_, rfl, i, by simp [Int.toNat_zero], hi⟩
      | skip
  · exact ⟨_, rfl, i, by simp [Int.toNat_zero], hi⟩
def stB : Nat → Int
  | 1 => 0
  | 2 => 20
  | 3 => 400
  | 4 => 8000
  | _ => 200000
theorem u8_wrap_nat (x : Int) : ∃ b : UInt8, IntKind.u8.wrap x = (b.toNat : Int) := by
  have h : 0 ≤ IntKind.u8.wrap x ∧ IntKind.u8.wrap x < 256 := by
    simp only [IntKind.wrap, IntKind.bits, IntKind.signed]
    simp
    omega
  refine ⟨UInt8.ofNat (IntKind.u8.wrap x).toNat, ?_⟩
  rw [UInt8.toNat_ofNat_of_lt' (by show _ < 256; omega)]
  omega
theorem l1Stroke_ok (s : List UInt8) (hs : Len s) : QCall P 113 [.str s] fun r => ∃ (b : UInt8) (n : Nat), r = .tup [.int .u8 b.toNat, .int .i64 n] ∧ n ≤ 5 := by
  refine qcall_of_fcall (fcall_walk T_ok ok_113 rfl ?_)
  unfold Go.Proofs.Try.f113
  simp only [Option.getD_some, envOf, Nat.zero_add, Nat.reduceAdd]
  (all_goals (have X1 := @Int.toNat_zero; (repeat' (first | refine gg ?_ | (refine gd ?_ ?_ <;> (intro hcond; try (exfalso; omega))) | (refine gc ?_ ?_ <;> intro hcs) | fail)); all_goals try clear X1))
  · exact ⟨_, rfl, 0, 0, rfl, by omega⟩
  · exact ⟨_, rfl, s.getD 0 0, 1, rfl, by omega⟩
  · exact ⟨_, rfl, s.getD 0 0, 1, rfl, by omega⟩
  · exact ⟨_, rfl, s.getD 0 0, 1, rfl, by omega⟩
  · exact ⟨_, rfl, 10, 1, rfl, by omega⟩
  · exact ⟨_, rfl, 9, 1, rfl, by omega⟩
  · exact ⟨_, rfl, 13, 1, rfl, by omega⟩
  · exact ⟨_, rfl, 8, 1, rfl, by omega⟩
  · exact ⟨_, rfl, 12, 1, rfl, by omega⟩
  · refine aw_loopn (fun kk env H => ∃ (i : Nat) (n : Int), (kk = 5 - i ∧ 1 ≤ i ∧ i ≤ 5) ∧ (-(stB i) ≤ n ∧ n ≤ stB i) ∧ env = [(0, .str s), (4, .int .i64 n), (5, .int .i64 (i : Int))]) 4 [(0, .str s), (4, .int .i64 0), (5, .int .i64 1)] _ sb (heapW_refl _) rfl ⟨1, 0, by omega, by simp [stB], rfl⟩ ?_
    rintro kk env H ⟨i, n, ⟨rfl, hi1, hi5⟩, hn, rfl⟩
    have hB : stB i ≤ 200000 := by
      obtain rfl | rfl | rfl | rfl | rfl : i = 1 ∨ i = 2 ∨ i = 3 ∨ i = 4 ∨ i = 5 := by omega
      all_goals simp [stB]
    have hB1 : i ≤ 4 → 16 * stB i + 16 ≤ stB (i + 1) := fun h => by
      obtain rfl | rfl | rfl | rfl : i = 1 ∨ i = 2 ∨ i = 3 ∨ i = 4 := by omega
      all_goals simp [stB]
    (all_goals (have X1 := @Int.toNat_natCast; (repeat' (first | refine gg ?_ | (refine gd ?_ ?_ <;> (intro hcond; try (exfalso; omega))) | (refine gc ?_ ?_ <;> intro hcs) | fail)); all_goals try clear X1))
    · exact ⟨_, rfl, 0, 0, rfl, by omega⟩
    · refine ar_qcall rfl ok_114 rfl (l1Sixteen_ok (s.getD i 0)) rfl rfl ?_
      rintro _ ⟨z, rfl, hz1, hz2⟩
      (all_goals (have X1 := @Int.toNat_natCast; (repeat' (first | refine gg ?_ | (refine gd ?_ ?_ <;> (intro hcond; try (exfalso; omega))) | (refine gc ?_ ?_ <;> intro hcs) | fail)); all_goals try clear X1))
      · exact ⟨_, rfl, 0, 0, rfl, by omega⟩
      · refine ar_qcall rfl ok_114 rfl (l1Sixteen_ok (s.getD i 0)) rfl rfl ?_
        rintro _ ⟨z2, rfl, hz3, hz4⟩
        (all_goals (have X1 := @Int.toNat_natCast; (repeat' (first | refine gg ?_ | (refine gd ?_ ?_ <;> (intro hcond; try (exfalso; omega))) | (refine gc ?_ ?_ <;> intro hcs) | fail)); all_goals try clear X1))
        have hB2 := hB1 (by omega)
        exact anextn [(0, .str s), (4, .int .i64 (n * 16 + z2)), (5, .int .i64 ((i + 1 : Nat) : Int))] _ (k' := 5 - (i + 1)) (by omega) (Nat.le_refl _) sb (heapW_refl _) rfl ⟨i + 1, n * 16 + z2, by omega, by omega, rfl⟩
    · exact ⟨_, rfl, 0, 0, rfl, by omega⟩
    · obtain ⟨b, hb⟩ := u8_wrap_nat n
      rw [hb]
      exact ⟨_, rfl, b, 5, rfl, by omega⟩
  · exact ⟨_, rfl, 0, 0, rfl, by omega⟩
end Go.Av
set_option linter.unusedVariables false
set_option linter.unusedSimpArgs false
namespace Go.Av
open Go
set_option maxRecDepth 10000
set_option maxHeartbeats 1000000
theorem allBytes_byAV (o : List UInt8) : AllBytes (byAV o) := fun x hx => by
  obtain ⟨b, _, rfl⟩ := List.mem_map.1 hx
  exact ⟨_, rfl⟩
theorem natsOf_byAV : ∀ o : List UInt8, natsOf (byAV o) = o
  | [] => rfl
  | b :: o => by
    have := natsOf_byAV o
    simp only [byAV, List.map_cons, natsOf] at this ⊢
    simp [this]
theorem byAV_snoc (o : List UInt8) (b : UInt8) : byAV o ++ [[.int .u8 b.toNat]] = byAV (o ++ [b]) := by simp [byAV]
theorem l1Text_ok (s : List UInt8) (hs : Len s) : QCall P 109 [.str s] fun r => ∃ (t rest : List UInt8) (ok : Bool), r = .tup [.str t, .str rest, .bool ok] ∧ Len t ∧ rest.length ≤ s.length := by
  refine qcall_of_fcall (fcall_walk T_ok ok_109 rfl ?_)
  unfold Go.Proofs.Try.f109
  simp only [Option.getD_some, envOf, Nat.zero_add, Nat.reduceAdd]
  (all_goals (have X1 := @byAV_len; (repeat' (first | refine gg ?_ | (refine gd ?_ ?_ <;> (intro hcond; try (exfalso; omega))) | (refine gc ?_ ?_ <;> intro hcs) | fail)); all_goals try clear X1))
  refine aw_loopn (fun kk env H => ∃ (i t : Nat) (o : List UInt8), kk = s.length - i ∧ (i ≤ s.length + 6 ∧ o.length ≤ i ∧ o.length ≤ s.length ∧ t < H.length) ∧ env = [(0, .str s), (5, .asl t o.length 1 (byAV o)), (6, .int .i64 (i : Int))] ∧ H.at t = .tok o.length) s.length [(0, .str s), (5, .asl 0 0 1 []), (6, .int .i64 0)] _ sb (heapW_refl _) rfl ⟨0, 0, [], rfl, by simp, rfl, rfl⟩ ?_
  rintro kk env H ⟨i, t, o, rfl, ⟨hi, hoi, hos, htl⟩, rfl, hT⟩
  have hs' : (s.length : Int) ≤ 1048576 := hs
  have hT1 : ∀ L, Heap.at (H ++ L) t = .tok o.length := fun L => (Heap.at_old _ _ htl).trans hT
  have hend : ∀ (a c : Bool), ∃ r, frz (.tup [.str [], .str [], .bool false]) = some r ∧ ∃ (t rest : List UInt8) (ok : Bool), r = .tup [.str t, .str rest, .bool ok] ∧ Len t ∧ rest.length ≤ s.length := fun _ _ => ⟨_, rfl, [], [], false, rfl, by simp [Len], by simp⟩
  (all_goals (have X1 := @byAV_len; have X2 := @hT; have X3 := @hT1; have X4 := @natsOf_byAV; have X5 := @Int.toNat_natCast; (repeat' (first | refine gg ?_ | (refine gd ?_ ?_ <;> (intro hcond; try (exfalso; omega))) | (refine gc ?_ ?_ <;> intro hcs) | fail)); all_goals try clear X1 X2 X3 X4 X5))
  · exact ⟨_, rfl, natsOf (byAV o), (s.take s.length).drop (i + 1), true, rfl, by rw [natsOf_byAV]; show (o.length : Int) ≤ _; omega, by rw [List.length_drop, List.length_take]; omega⟩
  · refine ar_qcall rfl ok_113 rfl (l1Stroke_ok _ (by show ((List.length _ : Nat) : Int) ≤ _; rw [List.length_drop, List.length_take]; omega)) rfl rfl ?_
    rintro _ ⟨c, n, rfl, hn⟩
    (all_goals (have X1 := @byAV_len; have X2 := @hT; have X3 := @hT1; have X4 := @natsOf_byAV; have X5 := @Int.toNat_natCast; (repeat' (first | refine gg ?_ | (refine gd ?_ ?_ <;> (intro hcond; try (exfalso; omega))) | (refine gc ?_ ?_ <;> intro hcs) | fail)); all_goals try clear X1 X2 X3 X4 X5))
    · exact hend true true
    · have hn0 : 0 < n := by omega
      have hl2 : (o ++ [c]).length = o.length + 1 := by simp
      exact anextn [(0, .str s), (5, .asl t (o ++ [c]).length 1 (byAV (o ++ [c]))), (6, .int .i64 ((i + n + 1 : Nat) : Int))] _ (k' := s.length - (i + n + 1)) (by omega) (by rw [Heap.put_length _ _ _ (by simp; omega)]; simp) (by simp [subP, Env.get, Weak.refl, byAV_snoc]) (heapW_refl _) rfl ⟨i + n + 1, t, o ++ [c], rfl, ⟨by omega, by omega, by omega, by rw [Heap.put_length _ _ _ (by simp; omega)]; simp; omega⟩, rfl, by rw [hl2]; exact Heap.at_put_same _ _ _⟩
  · exact hend true true
  · have hl2 : (o ++ [s.getD i 0]).length = o.length + 1 := by simp
    exact anextn [(0, .str s), (5, .asl t (o ++ [s.getD i 0]).length 1 (byAV (o ++ [s.getD i 0]))), (6, .int .i64 ((i + 1 : Nat) : Int))] _ (k' := s.length - (i + 1)) (by omega) (by rw [Heap.put_length _ _ _ (by simp; omega)]; simp) (by simp [subP, Env.get, Weak.refl, byAV_snoc]) (heapW_refl _) rfl ⟨i + 1, t, o ++ [s.getD i 0], rfl, ⟨by omega, by omega, by omega, by rw [Heap.put_length _ _ _ (by simp; omega)]; simp; omega⟩, rfl, by rw [hl2]; exact Heap.at_put_same _ _ _⟩
  · exact hend true true
theorem l1Whole_ok (s : List UInt8) (hs : Len s) : QCall P 111 [.str s] fun r => ∃ (n : Int) (rest : List UInt8) (ok : Bool), r = .tup [.int .i64 n, .str rest, .bool ok] ∧ I64 n ∧ rest.length ≤ s.length := by
  refine qcall_of_fcall (fcall_walk T_ok ok_111 rfl ?_)
  unfold Go.Proofs.Try.f111
  simp only [Option.getD_some, envOf, Nat.zero_add, Nat.reduceAdd]
  have hs' : (s.length : Int) ≤ 1048576 := hs
  refine aw_seq ?_
  (all_goals (have X1 := @Int.toNat_natCast; (repeat' (first | refine gr ?_ | fail)); all_goals try clear X1))
  refine aw_seq ?_
  (all_goals (have X1 := @Int.toNat_natCast; (repeat' (first | refine gr ?_ | fail)); all_goals try clear X1))
  refine aw_seq_mid (fun env H => ∃ st : Nat, env = [(0, .str s), (5, .int .i64 (st : Int))] ∧ st ≤ 1 ∧ st ≤ s.length) ?_ ?_
  · (all_goals (have X1 := @Int.toNat_natCast; (repeat' (first | refine gg ?_ | (refine gd ?_ ?_ <;> (intro hcond; try (exfalso; omega))) | (refine gc ?_ ?_ <;> intro hcs) | fail)); all_goals try clear X1))
    · exact amidn [(0, .str s), (5, .int .i64 ((1 : Nat) : Int))] _ (Nat.le_refl _) sb (heapW_refl _) rfl ⟨1, rfl, by omega, by omega⟩
    all_goals exact amidn [(0, .str s), (5, .int .i64 ((0 : Nat) : Int))] _ (Nat.le_refl _) sb (heapW_refl _) rfl ⟨0, rfl, by omega, by omega⟩
  rintro env H0 ⟨st, rfl, hst, hst2⟩
  refine aw_seq ?_
  (all_goals (have X1 := @Int.toNat_natCast; (repeat' (first | refine gr ?_ | fail)); all_goals try clear X1))
  refine aw_seq ?_
  (all_goals (have X1 := @Int.toNat_natCast; (repeat' (first | refine gr ?_ | fail)); all_goals try clear X1))
  refine aw_seq_mid (fun env H => ∃ i n : Nat, env = [(0, .str s), (5, .int .i64 (i : Int)), (6, .int .i64 (st : Int)), (7, .int .i64 (n : Int))] ∧ st ≤ i ∧ i ≤ s.length ∧ n ≤ 100000000000) ?_ ?_
  · (all_goals (have X1 := @Int.toNat_natCast; (repeat' (first | refine gg ?_ | (refine gd ?_ ?_ <;> (intro hcond; try (exfalso; omega))) | (refine gc ?_ ?_ <;> intro hcs) | fail)); all_goals try clear X1))
    refine aw_loopn (fun kk env H => ∃ i n : Nat, kk = s.length - i ∧ env = [(0, .str s), (5, .int .i64 (i : Int)), (6, .int .i64 (st : Int)), (7, .int .i64 (n : Int))] ∧ st ≤ i ∧ i ≤ s.length ∧ i - st ≤ 11 ∧ n < 10 ^ (i - st) ∧ H0.length ≤ H.length) (s.length - st) [(0, .str s), (5, .int .i64 (st : Int)), (6, .int .i64 (st : Int)), (7, .int .i64 0)] _ sb (heapW_refl _) rfl ⟨st, 0, by omega, rfl, by omega, by omega, by omega, by rw [Nat.sub_self]; decide, Nat.le_refl _⟩ ?_
    rintro kk env H ⟨i, n, rfl, rfl, hi1, hi2, hi3, hn, hHl⟩
    have hp : 10 ^ (i - st) ≤ 10 ^ 11 := Nat.pow_le_pow_right (by decide) hi3
    have hpow : 10 ^ (i + 1 - st) = 10 * 10 ^ (i - st) := by rw [show i + 1 - st = (i - st) + 1 by omega, Nat.pow_succ, Nat.mul_comm]
    (all_goals (have X1 := @Int.toNat_natCast; (repeat' (first | refine gg ?_ | (refine gd ?_ ?_ <;> (intro hcond; try (exfalso; omega))) | (refine gc ?_ ?_ <;> intro hcs) | fail)); all_goals try clear X1))
    · (have X1 := @Int.toNat_natCast; ((apply ar_call rfl ok_88); (focus exact eva); (focus exact l1Figure_ok (s.getD i 0)); (focus rfl); (focus rfl)); all_goals try clear X1)
      (all_goals (have X1 := @Int.toNat_natCast; (repeat' (first | refine gg ?_ | (refine gd ?_ ?_ <;> (intro hcond; try (exfalso; omega))) | (refine gc ?_ ?_ <;> intro hcs) | fail)); all_goals try clear X1))
      all_goals first
        | exact amidn [(0, .str s), (5, .int .i64 (i : Int)), (6, .int .i64 (st : Int)), (7, .int .i64 (n : Int))] _ hHl sb (heapW_refl _) rfl ⟨i, n, rfl, hi1, hi2, by omega⟩
        | skip
      have hf : 48 ≤ (s.getD i 0).toNat ∧ (s.getD i 0).toNat ≤ 57 := by have := hcs; simp only [isFig, Bool.and_eq_true, decide_eq_true_eq] at this; exact this
      have e0 : IntKind.i64.wrap (IntKind.u8.wrap (((s.getD i 0).toNat : Int) - 48)) = (((s.getD i 0).toNat - 48 : Nat) : Int) := by
        rw [wrap_u8 ⟨by omega, by omega⟩, wrap_i64 ⟨by omega, by omega⟩]; omega
      have e1 : IntKind.i64.wrap ((n : Int) * 10 + (((s.getD i 0).toNat - 48 : Nat) : Int)) = ((n * 10 + ((s.getD i 0).toNat - 48) : Nat) : Int) := by
        rw [wrap_i64 ⟨by omega, by omega⟩]; omega
      simp only [e0, e1]
      exact anextn [(0, .str s), (5, .int .i64 ((i + 1 : Nat) : Int)), (6, .int .i64 (st : Int)), (7, .int .i64 ((n * 10 + ((s.getD i 0).toNat - 48) : Nat) : Int))] _ (k' := s.length - (i + 1)) (by omega) (Nat.le_refl _) sb (heapW_refl _) rfl ⟨i + 1, _, rfl, rfl, by omega, by omega, by omega, by rw [hpow]; omega, hHl⟩
    all_goals first
        | exact amidn [(0, .str s), (5, .int .i64 (i : Int)), (6, .int .i64 (st : Int)), (7, .int .i64 (n : Int))] _ hHl sb (heapW_refl _) rfl ⟨i, n, rfl, hi1, hi2, by omega⟩
        | skip
  rintro env H ⟨i, n, rfl, hi1, hi2, hn⟩
  refine aw_seq ?_
  (all_goals (have X1 := @Int.toNat_natCast; (repeat' (first | refine gg ?_ | (refine gd ?_ ?_ <;> (intro hcond; try (exfalso; omega))) | (refine gc ?_ ?_ <;> intro hcs) | fail)); all_goals try clear X1))
  all_goals try (have X1 := @Int.toNat_natCast; ((apply ar_call rfl ok_88); (focus exact eva); (focus exact l1Figure_ok (s.getD i 0)); (focus rfl); (focus rfl)); all_goals try clear X1)
  all_goals (all_goals (have X1 := @Int.toNat_natCast; (repeat' (first | refine gg ?_ | (refine gd ?_ ?_ <;> (intro hcond; try (exfalso; omega))) | (refine gc ?_ ?_ <;> intro hcs) | fail)); all_goals try clear X1))
  all_goals try (have X1 := @Int.toNat_natCast; ((apply ar_call rfl ok_87); (focus exact eva); (focus exact l1Letter_ok (s.getD i 0)); (focus rfl); (focus rfl)); all_goals try clear X1)
  all_goals (all_goals (have X1 := @Int.toNat_natCast; (repeat' (first | refine gg ?_ | (refine gd ?_ ?_ <;> (intro hcond; try (exfalso; omega))) | (refine gc ?_ ?_ <;> intro hcs) | fail)); all_goals try clear X1))
  all_goals first
    | exact ⟨_, rfl, 0, [], false, rfl, by decide, by simp⟩
    | exact ⟨_, rfl, _, _, true, rfl, ⟨by omega, by omega⟩, by rw [List.length_drop, List.length_take]; omega⟩
    | skip
end Go.Av
set_option linter.unusedVariables false
set_option linter.unusedSimpArgs false
namespace Go.Av
open Go
set_option maxRecDepth 10000
set_option maxHeartbeats 1000000
def szR : Nat → Nat
  | 0 => 2
  | d + 1 => 2 + 12 * szR d
def RdR (S n : Nat) (r : AV) : Prop := ∃ (v : GV) (rest : List UInt8) (ok : Bool), r = .tup [.agg v.enc, .str rest, .bool ok] ∧ v.fits ∧ v.size ≤ S ∧ rest.length ≤ n
theorem ret_read {n1 n2 S n : Nat} {H1 H2 : Heap} {k : Int} {l : List GV} {ns : List (List UInt8)} {aL aN : AV} (hL : LA n1 H1 5 (encs l) aL) (hN : LA n2 H2 1 (strs ns) aN) (hk : 0 ≤ k ∧ k ≤ 5) (hl : l.length ≤ 12) (hn : ns.length ≤ 13) (hf : fitss l) (hnf : ∀ s ∈ ns, Len s)
    (hS : ∀ u ∈ l, u.size ≤ S) (rest : List UInt8) (hr : rest.length ≤ n) (ok : Bool) : ∃ r, frz (.tup [.agg [.int .i64 k, .int .i64 0, .str [], aL, aN], .str rest, .bool ok]) = some r ∧ RdR (2 + 12 * S) n r := by
  refine ⟨.tup [.agg (GV.enc ⟨k, 0, [], l, ns⟩), .str rest, .bool ok], ?_, ⟨k, 0, [], l, ns⟩, rest, ok, rfl, ⟨⟨by omega, by omega⟩, by decide, by simp [Len], by simp only [Len]; omega, hf, by simp only [Len]; omega, hnf⟩, ?_, hr⟩
  · simp only [frz, frzL, hL.frz, hN.frz, GV.enc]
  · have := sizes_le hS
    have h2 : l.length * S ≤ 12 * S := Nat.mul_le_mul_right _ hl
    simp only [GV.size]; omega
theorem l1Items_step (d : Nat) (hd : d ≤ 100) (ih : ∀ s : List UInt8, Len s → QCall P 106 [.str s, .int .i64 (d : Int)] (RdR (szR d) s.length)) (s : List UInt8) (hs : Len s) (c : UInt8) :
    QCall P 110 [.str s, .int .u8 c.toNat, .int .i64 ((d + 1 : Nat) : Int)] (RdR (szR (d + 1)) s.length) := by
  refine qcall_of_fcall (fcall_walk T_ok ok_110 rfl ?_)
  unfold Go.Proofs.Try.f110
  simp only [Option.getD_some, envOf, Nat.zero_add, Nat.reduceAdd]
  have hs' : (s.length : Int) ≤ 1048576 := hs
  refine aw_seq ?_
  repeat' (first | refine gr ?_ | fail)
  refine aw_seq ?_
  repeat' (first | refine gr ?_ | fail)
  refine aw_seq_mid (fun env H => ∃ k : Int, env = [(0, .str s), (1, .int .u8 c.toNat), (2, .int .i64 ((d + 1 : Nat) : Int)), (6, .ptr 0 0 0), (9, .ptr 1 0 0)] ∧ (0 ≤ k ∧ k ≤ 5) ∧ H = [.row 5 [zvAV], .row 5 [[.int .i64 k, .int .i64 0, .str [], .nsl 5, .nsl 1]]]) ?_ ?_
  · repeat' (first | refine gg ?_ | (refine gd ?_ ?_ <;> (intro hcond; try (exfalso; omega))) | (refine gc ?_ ?_ <;> intro hcs) | fail)
    · exact amidn [(0, .str s), (1, .int .u8 c.toNat), (2, .int .i64 ((d + 1 : Nat) : Int)), (6, .ptr 0 0 0), (9, .ptr 1 0 0)] _ (Nat.le_refl _) sb (heapW_refl _) rfl ⟨5, rfl, by omega, rfl⟩
    · exact amidn [(0, .str s), (1, .int .u8 c.toNat), (2, .int .i64 ((d + 1 : Nat) : Int)), (6, .ptr 0 0 0), (9, .ptr 1 0 0)] _ (Nat.le_refl _) sb (heapW_refl _) rfl ⟨4, rfl, by omega, rfl⟩
  rintro env H ⟨k, rfl, hk, rfl⟩
  repeat' (first | refine gg ?_ | (refine gd ?_ ?_ <;> (intro hcond; try (exfalso; omega))) | (refine gc ?_ ?_ <;> intro hcs) | fail)
  refine ar_qcall rfl ok_107 rfl (l1Blank_ok s hs) rfl rfl ?_
  rintro _ ⟨s1, rfl, hs1⟩
  repeat' (first | refine gr ?_ | fail)
  have hs1' : (s1.length : Int) ≤ 1048576 := by omega
  refine aw_seq_mid (fun env H => env = [(0, .str s1), (1, .int .u8 c.toNat), (2, .int .i64 ((d + 1 : Nat) : Int)), (6, .ptr 0 0 0), (9, .ptr 1 0 0)] ∧ H = [.row 5 [zvAV], .row 5 [[.int .i64 k, .int .i64 0, .str [], .nsl 5, .nsl 1]]]) ?_ ?_
  · repeat' (first | refine gg ?_ | (refine gd ?_ ?_ <;> (intro hcond; try (exfalso; omega))) | (refine gc ?_ ?_ <;> intro hcs) | fail)
    all_goals first
      | exact amidn [(0, .str s1), (1, .int .u8 c.toNat), (2, .int .i64 ((d + 1 : Nat) : Int)), (6, .ptr 0 0 0), (9, .ptr 1 0 0)] _ (Nat.le_refl _) sb (heapW_refl _) rfl ⟨rfl, rfl⟩
      | exact ret_read (n1 := 0) (n2 := 0) (H1 := []) (H2 := []) (l := []) (ns := []) (.inl ⟨rfl, rfl⟩) (.inl ⟨rfl, rfl⟩) hk (by simp) (by simp) trivial (by simp) (by simp) _ (by simp; omega) true
      | skip
  rintro env H ⟨rfl, rfl⟩
  refine aw_block ?_
  refine aw_loopn (fun kk env H => ∃ (l : List GV) (ns : List (List UInt8)) (aL aN : AV) (s2 : List UInt8), kk = 13 - l.length ∧ (l.length ≤ 12 ∧ ns.length ≤ l.length ∧ s2.length ≤ s.length) ∧ env = [(0, .str s2), (1, .int .u8 c.toNat), (2, .int .i64 ((d + 1 : Nat) : Int)), (6, .ptr 0 0 0), (9, .ptr 1 0 0)] ∧ (fitss l ∧ (∀ u ∈ l, u.size ≤ szR d) ∧ ∀ s ∈ ns, Len s) ∧ 
      H.at 0 = .row 5 [zvAV] ∧ H.at 1 = .row 5 [[.int .i64 k, .int .i64 0, .str [], aL, aN]] ∧ LA 2 H 5 (encs l) aL ∧ LA 2 H 1 (strs ns) aN ∧ dis aL aN ∧ 2 ≤ H.length) 13
    [(0, .str s1), (1, .int .u8 c.toNat), (2, .int .i64 ((d + 1 : Nat) : Int)), (6, .ptr 0 0 0), (9, .ptr 1 0 0)] _ sb (heapW_refl _) rfl ⟨[], [], .nsl 5, .nsl 1, s1, rfl, ⟨by simp, by simp, hs1⟩, rfl, ⟨trivial, by simp, by simp⟩, rfl, rfl, .inl ⟨rfl, rfl⟩, .inl ⟨rfl, rfl⟩, (fun _ _ _ _ _ _ _ h => by cases h), by simp⟩ ?_
  rintro kk env H ⟨l, ns, aL, aN, s2, rfl, ⟨hl, hnl, hs2⟩, rfl, ⟨hfl, hSl, hfn⟩, r0, r1, hLA, hNA, hdis, hHl⟩
  have hs2' : (s2.length : Int) ≤ 1048576 := by omega
  have hcL := hLA.cell
  have hsL := solid_of_cell hcL
  have hclL := cells_of_cell hcL
  have hcN := hNA.cell
  have hsN := solid_of_cell hcN
  have hclN := cells_of_cell hcN
  have hlen0 : ∀ x, (H.put 0 x).length = H.length := fun x => Heap.put_length _ _ _ (by omega)
  refine aw_block ?_
  -- the name
  refine aw_seq_mid (fun env Y => ∃ (ns' : List (List UInt8)) (aN' : AV) (s3 : List UInt8), env = [(0, .str s3), (1, .int .u8 c.toNat), (2, .int .i64 ((d + 1 : Nat) : Int)), (6, .ptr 0 0 0), (9, .ptr 1 0 0)] ∧ (ns'.length ≤ l.length + 1 ∧ s3.length ≤ s.length) ∧ (∀ s ∈ ns', Len s) ∧
      Y.at 0 = .row 5 [zvAV] ∧ Y.at 1 = .row 5 [[.int .i64 k, .int .i64 0, .str [], aL, aN']] ∧ LA 2 Y 5 (encs l) aL ∧ LA 2 Y 1 (strs ns') aN' ∧ dis aL aN' ∧ H.length ≤ Y.length) ?_ ?_
  · have hfin := fun x => Heap.at_put_same H 0 x
    (all_goals (have X1 := @r0; have X2 := @r1; have X3 := @hcL; have X4 := @hsL; have X5 := @hclL; have X6 := @hcN; have X7 := @hsN; have X8 := @hclN; have X9 := @hfin; (repeat' (first | refine gg ?_ | (refine gd ?_ ?_ <;> (intro hcond; try (exfalso; omega))) | (refine ge ?_ ?_ <;> intro hcs) | fail)); all_goals try clear X1 X2 X3 X4 X5 X6 X7 X8 X9))
    all_goals first
      | exact ret_read hLA hNA hk (by omega) (by omega) hfl hfn hSl _ (by simp) false
      | (exact amidn [(0, .str s2), (1, .int .u8 c.toNat), (2, .int .i64 ((d + 1 : Nat) : Int)), (6, .ptr 0 0 0), (9, .ptr 1 0 0)] _ (Nat.le_refl _) sb (heapW_refl _) rfl ⟨ns, aN, s2, rfl, ⟨by omega, hs2⟩, hfn, r0, r1, hLA, hNA, hdis, Nat.le_refl _⟩)
      | skip
    refine ar_qcall rfl ok_109 rfl (l1Text_ok _ (by show ((List.length _ : Nat) : Int) ≤ _; rw [List.length_drop, List.length_take]; omega)) rfl rfl ?_
    rintro _ ⟨t, s4, okt, rfl, ht, hs4⟩
    rw [List.length_drop, List.length_take] at hs4
    (all_goals (have X1 := @r0; have X2 := @r1; have X3 := @hcL; have X4 := @hsL; have X5 := @hclL; have X6 := @hcN; have X7 := @hsN; have X8 := @hclN; have X9 := @hfin; (repeat' (first | refine gg ?_ | (refine gd ?_ ?_ <;> (intro hcond; try (exfalso; omega))) | (refine ge ?_ ?_ <;> intro hcs) | fail)); all_goals try clear X1 X2 X3 X4 X5 X6 X7 X8 X9))
    refine ar_qcall rfl ok_107 rfl (l1Blank_ok s4 (by show ((List.length _ : Nat) : Int) ≤ _; omega)) rfl rfl ?_
    rintro _ ⟨s5, rfl, hs5⟩
    (all_goals (have X1 := @r0; have X2 := @r1; have X3 := @hcL; have X4 := @hsL; have X5 := @hclL; have X6 := @hcN; have X7 := @hsN; have X8 := @hclN; have X9 := @hfin; (repeat' (first | refine gr ?_ | fail)); all_goals try clear X1 X2 X3 X4 X5 X6 X7 X8 X9))
    refine aw_seq_mid (fun env Y => env = [(0, .str s2), (1, .int .u8 c.toNat), (2, .int .i64 ((d + 1 : Nat) : Int)), (6, .ptr 0 0 0), (9, .ptr 1 0 0), (10, .str t), (11, .str s5)] ∧ Y = H ∧ 0 < s5.length) ?_ ?_
    · cases okt
      all_goals (all_goals (have X1 := @r0; have X2 := @r1; have X3 := @hcL; have X4 := @hsL; have X5 := @hclL; have X6 := @hcN; have X7 := @hsN; have X8 := @hclN; have X9 := @hfin; (repeat' (first | refine gg ?_ | (refine gd ?_ ?_ <;> (intro hcond; try (exfalso; omega))) | (refine ge ?_ ?_ <;> intro hcs) | fail)); all_goals try clear X1 X2 X3 X4 X5 X6 X7 X8 X9))
      all_goals first
        | exact ret_read hLA hNA hk (by omega) (by omega) hfl hfn hSl _ (by simp) false
        | (exact amidn [(0, .str s2), (1, .int .u8 c.toNat), (2, .int .i64 ((d + 1 : Nat) : Int)), (6, .ptr 0 0 0), (9, .ptr 1 0 0), (10, .str t), (11, .str s5)] _ (Nat.le_refl _) sb (heapW_refl _) rfl ⟨rfl, rfl, by omega⟩)
        | skip
    rintro env Y ⟨rfl, rfl, hs50⟩
    have hfn2 : ∀ x ∈ ns ++ [t], Len x := by
      intro x hx
      rcases List.mem_append.1 hx with hx | hx
      · exact hfn x hx
      · simp at hx; subst hx; exact ht
    have hcat : ∀ L, (Y ++ L).at 1 = .row 5 [[.int .i64 k, .int .i64 0, .str [], aL, aN]] := fun L => (Heap.at_old _ _ (by omega)).trans r1
    have hsn := strs_len ns
    have htkn : strs (ns ++ [t]) = strs ns ++ [[.str t]] := by simp [strs]
    have q1 := fun L => (Heap.at_old Y L (b := 1) (by omega)).trans r1
    have q2 := fun L x => Heap.put_old Y L 1 x (by omega)
    have hz1 := fun x => Heap.put_length Y 1 x (by omega)
    rcases hNA with ⟨hn, rfl⟩ | ⟨tk, rfl, htk, htk2⟩
    · have hn0 : ns = [] := List.eq_nil_of_length_eq_zero (by rw [← hsn, hn]; rfl)
      (all_goals (have X1 := @r1; have X2 := @q1; have X3 := @q2; have X4 := @hcL; have X5 := @hsL; have X6 := @hclL; (repeat' (first | refine gg ?_ | (refine gd ?_ ?_ <;> (intro hcond; try (exfalso; omega))) | (refine ge ?_ ?_ <;> intro hcs) | fail)); all_goals try clear X1 X2 X3 X4 X5 X6))
      refine amidn [(0, .str ((s5.take s5.length).drop 1)), (1, .int .u8 c.toNat), (2, .int .i64 ((d + 1 : Nat) : Int)), (6, .ptr 0 0 0), (9, .ptr 1 0 0)] _ (by simp only [List.length_append, hz1]; omega) sb (heapW_refl _) rfl ⟨ns ++ [t], _, _, rfl, ⟨by simp; omega, by rw [List.length_drop, List.length_take]; omega⟩, hfn2, (Heap.at_old _ _ (by simp only [hz1]; omega)).trans ((Heap.at_put_ne _ _ _ _ (by omega)).trans r0), (Heap.at_old _ _ (by simp only [hz1]; omega)).trans (Heap.at_put_same _ _ _), hLA.mono (Nat.le_refl _) fun t h1 h2 => (Heap.at_old _ _ (by simp only [hz1]; exact at_lt (by rw [h2]; simp))).trans ((Heap.at_put_ne _ _ _ _ (by omega)).trans h2), ?_, ?_, by simp only [List.length_append, hz1]; omega⟩
      · rw [htkn, hn]
        exact .inr ⟨Y.length + 1, rfl, Heap.at_putB (by omega) _ _ 1, by omega⟩
      · rcases hLA with ⟨_, rfl⟩ | ⟨t9, rfl, ht9, _⟩
        · intro _ _ _ _ _ _ _ h; cases h
        · intro t e sz xs e' sz' xs' h h'
          have h5 := at_lt (by rw [ht9]; simp : Y.at t9 ≠ .dead)
          cases h; cases h'; omega
    · have htl : tk < Y.length := at_lt (by rw [htk]; simp)
      have q3 := fun L => (Heap.at_old Y L htl).trans htk
      have q4 := fun L x => Heap.put_old Y L tk x htl
      have q5 := fun x L => ((Heap.at_old (Y.put tk x) L (b := 1) (by rw [Heap.put_length _ _ _ htl]; omega)).trans (Heap.at_put_ne Y tk 1 x (by omega))).trans r1
      have q6 := fun x L y => Heap.put_old (Y.put tk x) L 1 y (by rw [Heap.put_length _ _ _ htl]; omega)
      have hz2 : ∀ x y, ((Y.put tk x).put 1 y).length = Y.length := fun x y => by rw [Heap.put_length _ _ _ (by rw [Heap.put_length _ _ _ htl]; omega), Heap.put_length _ _ _ htl]
      have hz3 := fun x => Heap.put_length Y tk x htl
      (all_goals (have X1 := @r1; have X2 := @q3; have X3 := @q4; have X4 := @q5; have X5 := @q6; have X6 := @hcL; have X7 := @hsL; have X8 := @hclL; (repeat' (first | refine gg ?_ | (refine gd ?_ ?_ <;> (intro hcond; try (exfalso; omega))) | (refine ge ?_ ?_ <;> intro hcs) | fail)); all_goals try clear X1 X2 X3 X4 X5 X6 X7 X8))
      refine amidn [(0, .str ((s5.take s5.length).drop 1)), (1, .int .u8 c.toNat), (2, .int .i64 ((d + 1 : Nat) : Int)), (6, .ptr 0 0 0), (9, .ptr 1 0 0)] _ (by simp only [List.length_append, hz2, hz3]; omega) sb (heapW_refl _) rfl ⟨ns ++ [t], _, _, rfl, ⟨by simp; omega, by rw [List.length_drop, List.length_take]; omega⟩, hfn2, (Heap.at_old _ _ (by simp only [hz2, hz3]; omega)).trans ((Heap.at_put_ne _ _ _ _ (by omega)).trans ((Heap.at_put_ne _ _ _ _ (by omega)).trans r0)), (Heap.at_old _ _ (by simp only [hz2, hz3]; omega)).trans (Heap.at_put_same _ _ _), hLA.mono' fun t e sz xs h0 h1 h2 => ?_, ?_, ?_, by simp only [List.length_append, hz2, hz3]; omega⟩
      · have hne9 : t ≠ tk := fun e9 => hdis t _ _ _ _ _ _ h0 (by rw [e9])
        exact (Heap.at_old _ _ (by simp only [hz2]; exact at_lt (by rw [h2]; simp))).trans ((Heap.at_put_ne _ _ _ _ (by omega)).trans ((Heap.at_put_ne _ _ _ _ hne9).trans h2))
      · rw [htkn]
        refine .inr ⟨tk, by rw [List.length_append]; rfl, ?_, by omega⟩
        rw [Heap.at_old _ _ (by rw [hz2]; exact htl), Heap.at_put_ne _ _ _ _ (by omega), Heap.at_put_same, List.length_append]; rfl
      · intro t e sz xs e' sz' xs' h h'
        cases h'
        exact hdis _ _ _ _ _ _ _ h rfl
  clear hNA hdis hcN hsN hclN r0 r1 hfn hnl hs2 hs2' hlen0
  rintro env Y ⟨ns', aN', s3, rfl, ⟨hnl, hs3⟩, hfn, r0, r1, hLY, hNA, hdis, hYl⟩
  have hcN := hNA.cell
  have hsN := solid_of_cell hcN
  have hclN := cells_of_cell hcN
  have hs3' : (s3.length : Int) ≤ 1048576 := by omega
  (all_goals (have X1 := @r0; have X2 := @r1; have X3 := @hcL; have X4 := @hsL; have X5 := @hclL; have X6 := @hcN; have X7 := @hsN; have X8 := @hclN; (repeat' (first | refine gg ?_ | (refine gd ?_ ?_ <;> (intro hcond; try (exfalso; omega))) | (refine ge ?_ ?_ <;> intro hcs) | fail)); all_goals try clear X1 X2 X3 X4 X5 X6 X7 X8))
  refine ar_qcall rfl ok_106 rfl (by rw [show ((d + 1 : Nat) : Int) - 1 = (d : Int) by omega]; exact ih s3 hs3') rfl rfl ?_
  rintro _ ⟨u, s4, okr, rfl, huf, huS, hs4⟩
  obtain ⟨uk, un, ut, ul, uns⟩ := u
  have hs4' : (s4.length : Int) ≤ 1048576 := by omega
  have g1 := fun L => (Heap.at_old Y L (b := 1) (by omega)).trans r1
  have g0 := fun L => (Heap.at_old Y L (b := 0) (by omega)).trans r0
  (all_goals (have X1 := @GV.enc.eq_1; have X2 := @g0; have X3 := @g1; have X4 := @hcL; have X5 := @hsL; have X6 := @hclL; have X7 := @hcN; have X8 := @hsN; have X9 := @hclN; (repeat' (first | refine gg ?_ | (refine gd ?_ ?_ <;> (intro hcond; try (exfalso; omega))) | (refine ge ?_ ?_ <;> intro hcs) | fail)); all_goals try clear X1 X2 X3 X4 X5 X6 X7 X8 X9))
  refine ar_qcall rfl ok_107 rfl (l1Blank_ok s4 hs4') rfl rfl ?_
  rintro _ ⟨s5, rfl, hs5⟩
  (all_goals (have X1 := @GV.enc.eq_1; have X2 := @g0; have X3 := @g1; have X4 := @hcL; have X5 := @hsL; have X6 := @hclL; have X7 := @hcN; have X8 := @hsN; have X9 := @hclN; (repeat' (first | refine gr ?_ | fail)); all_goals try clear X1 X2 X3 X4 X5 X6 X7 X8 X9))
  obtain ⟨Z, hZ⟩ : ∃ Z, Y ++ [Blk.row 5 [[.int .i64 uk, .int .i64 un, .str ut, .fsl 5 (encs ul), .fsl 1 (strs uns)]]] = Z := ⟨_, rfl⟩
  have hZl : Z.length = Y.length + 1 := by rw [← hZ]; simp
  have z0 : Z.at 0 = .row 5 [zvAV] := by rw [← hZ]; exact g0 _
  have z1 : Z.at 1 = .row 5 [[.int .i64 k, .int .i64 0, .str [], aL, aN']] := by rw [← hZ]; exact g1 _
  have zu : Z.at Y.length = .row 5 [[.int .i64 uk, .int .i64 un, .str ut, .fsl 5 (encs ul), .fsl 1 (strs uns)]] := by rw [← hZ]; exact Heap.at_app _ _ 0
  have hLZ : LA 2 Z 5 (encs l) aL := by rw [← hZ]; exact hLY.app _
  have hNZ : LA 2 Z 1 (strs ns') aN' := by rw [← hZ]; exact hNA.app _
  rw [hZ]
  clear hLY hNA r0 r1 g0 g1 hLA
  have hel := encs_len l
  have hfin := fun (M : Heap) x => Heap.at_put_same M 0 x
  refine aw_seq_mid (fun env W => env = [(1, .int .u8 c.toNat), (2, .int .i64 ((d + 1 : Nat) : Int)), (6, .ptr 0 0 0), (9, .ptr 1 0 0), (13, .ptr Y.length 0 0), (14, .str s5)] ∧ W = Z ∧ 0 < s5.length ∧ l.length ≤ 11) ?_ ?_
  · have hLZ0 := hLZ
    rcases hLZ with ⟨hn, rfl⟩ | ⟨tk, rfl, htk, htk2⟩
    all_goals cases okr
    all_goals (all_goals (have X1 := @z0; have X2 := @z1; have X3 := @zu; have X4 := @hcN; have X5 := @hsN; have X6 := @hclN; have X7 := @hfin; have X8 := @hel; (repeat' (first | refine gg ?_ | (refine gd ?_ ?_ <;> (intro hcond; try (exfalso; omega))) | (refine ge ?_ ?_ <;> intro hcs) | fail)); all_goals try clear X1 X2 X3 X4 X5 X6 X7 X8))
    all_goals first
      | exact ret_read hLZ0 hNZ hk (by omega) (by omega) hfl hfn hSl _ (by simp) false
      | (exact amidn [(1, .int .u8 c.toNat), (2, .int .i64 ((d + 1 : Nat) : Int)), (6, .ptr 0 0 0), (9, .ptr 1 0 0), (13, .ptr Y.length 0 0), (14, .str s5)] _ (Nat.le_refl _) sb (heapW_refl _) rfl ⟨rfl, rfl, by omega, by first | omega | (rw [← encs_len, hn]; simp)⟩)
      | skip
  rintro env W ⟨rfl, rfl, hs50, hl11⟩
  have hea : encs (l ++ [⟨uk, un, ut, ul, uns⟩]) = encs l ++ [[.int .i64 uk, .int .i64 un, .str ut, .fsl 5 (encs ul), .fsl 1 (strs uns)]] := by rw [encs_eq, encs_eq, List.map_append]; rfl
  have hfl2 : fitss (l ++ [⟨uk, un, ut, ul, uns⟩]) := fitss_snoc hfl huf
  have hSl2 : ∀ u ∈ l ++ [(⟨uk, un, ut, ul, uns⟩ : GV)], u.size ≤ szR d := by
    intro x hx
    rcases List.mem_append.1 hx with hx | hx
    · exact hSl x hx
    · simp at hx; subst hx; exact huS
  have hl2 : (l ++ [(⟨uk, un, ut, ul, uns⟩ : GV)]).length = l.length + 1 := by simp
  -- the list has grown
  refine aw_seq_mid (fun env V => ∃ aL2, env = [(1, .int .u8 c.toNat), (2, .int .i64 ((d + 1 : Nat) : Int)), (6, .ptr 0 0 0), (9, .ptr 1 0 0), (13, .ptr Y.length 0 0), (14, .str s5)] ∧ V.at 0 = .row 5 [zvAV] ∧ V.at 1 = .row 5 [[.int .i64 k, .int .i64 0, .str [], aL2, aN']] ∧ LA 2 V 5 (encs (l ++ [⟨uk, un, ut, ul, uns⟩])) aL2 ∧ LA 2 V 1 (strs ns') aN' ∧ dis aL2 aN' ∧ W.length ≤ V.length) ?_ ?_
  · have q1 := fun L => (Heap.at_old W L (b := 1) (by omega)).trans z1
    have q7 := fun L => (Heap.at_old W L (b := Y.length) (by omega)).trans zu
    have q2 := fun L x => Heap.put_old W L 1 x (by omega)
    have hz1 := fun x => Heap.put_length W 1 x (by omega)
    rcases hLZ with ⟨hn, rfl⟩ | ⟨tk, rfl, htk, htk2⟩
    · have hl0 : l = [] := List.eq_nil_of_length_eq_zero (by rw [← encs_len, hn]; rfl)
      (all_goals (have X1 := @z1; have X2 := @zu; have X3 := @q1; have X4 := @q2; have X5 := @q7; have X6 := @hcN; have X7 := @hsN; have X8 := @hclN; (repeat' (first | refine gg ?_ | (refine gd ?_ ?_ <;> (intro hcond; try (exfalso; omega))) | (refine ge ?_ ?_ <;> intro hcs) | fail)); all_goals try clear X1 X2 X3 X4 X5 X6 X7 X8))
      refine amidn [(1, .int .u8 c.toNat), (2, .int .i64 ((d + 1 : Nat) : Int)), (6, .ptr 0 0 0), (9, .ptr 1 0 0), (13, .ptr Y.length 0 0), (14, .str s5)] _ (by simp only [List.length_append, hz1]; omega) sb (heapW_refl _) rfl ⟨_, rfl, (Heap.at_old _ _ (by simp only [hz1]; omega)).trans ((Heap.at_put_ne _ _ _ _ (by omega)).trans z0), (Heap.at_old _ _ (by simp only [hz1]; omega)).trans (Heap.at_put_same _ _ _), ?_, hNZ.mono (Nat.le_refl _) fun t h1 h2 => (Heap.at_old _ _ (by simp only [hz1]; exact at_lt (by rw [h2]; simp))).trans ((Heap.at_put_ne _ _ _ _ (by omega)).trans h2), ?_, by simp only [List.length_append, hz1]; omega⟩
      · rw [hea, hn]
        exact .inr ⟨W.length + 1, rfl, Heap.at_putB (by omega) _ _ 1, by omega⟩
      · rcases hNZ with ⟨_, rfl⟩ | ⟨t9, rfl, ht9, _⟩
        · intro _ _ _ _ _ _ _ _ h; cases h
        · intro t e sz xs e' sz' xs' h h'
          have h5 := at_lt (by rw [ht9]; simp : W.at t9 ≠ .dead)
          cases h; cases h'; omega
    · have htl : tk < W.length := at_lt (by rw [htk]; simp)
      have q3 := fun L => (Heap.at_old W L htl).trans htk
      have q4 := fun L x => Heap.put_old W L tk x htl
      have q5 := fun x L => ((Heap.at_old (W.put tk x) L (b := 1) (by rw [Heap.put_length _ _ _ htl]; omega)).trans (Heap.at_put_ne W tk 1 x (by omega))).trans z1
      have q6 := fun x L y => Heap.put_old (W.put tk x) L 1 y (by rw [Heap.put_length _ _ _ htl]; omega)
      have hz2 : ∀ x y, ((W.put tk x).put 1 y).length = W.length := fun x y => by rw [Heap.put_length _ _ _ (by rw [Heap.put_length _ _ _ htl]; omega), Heap.put_length _ _ _ htl]
      have hz3 := fun x => Heap.put_length W tk x htl
      (all_goals (have X1 := @z1; have X2 := @zu; have X3 := @q3; have X4 := @q4; have X5 := @q5; have X6 := @q6; have X7 := @q7; have X8 := @hcN; have X9 := @hsN; have X10 := @hclN; have X11 := @hel; (repeat' (first | refine gg ?_ | (refine gd ?_ ?_ <;> (intro hcond; try (exfalso; omega))) | (refine ge ?_ ?_ <;> intro hcs) | fail)); all_goals try clear X1 X2 X3 X4 X5 X6 X7 X8 X9 X10 X11))
      refine amidn [(1, .int .u8 c.toNat), (2, .int .i64 ((d + 1 : Nat) : Int)), (6, .ptr 0 0 0), (9, .ptr 1 0 0), (13, .ptr Y.length 0 0), (14, .str s5)] _ (by simp only [List.length_append, hz2, hz3]; omega) sb (heapW_refl _) rfl ⟨_, rfl, (Heap.at_old _ _ (by simp only [hz2, hz3]; omega)).trans ((Heap.at_put_ne _ _ _ _ (by omega)).trans ((Heap.at_put_ne _ _ _ _ (by omega)).trans z0)), (Heap.at_old _ _ (by simp only [hz2, hz3]; omega)).trans (Heap.at_put_same _ _ _), ?_, hNZ.mono' fun t e sz xs h0 h1 h2 => ?_, ?_, by simp only [List.length_append, hz2, hz3]; omega⟩
      · rw [hea]
        refine .inr ⟨tk, by rw [List.length_append, hel]; rfl, ?_, by omega⟩
        rw [Heap.at_old _ _ (by rw [hz2]; exact htl), Heap.at_put_ne _ _ _ _ (by omega), Heap.at_put_same, List.length_append, hel]; rfl
      · have hne9 : t ≠ tk := fun e9 => hdis tk _ _ _ _ _ _ rfl (by rw [h0, e9])
        exact (Heap.at_old _ _ (by simp only [hz2]; exact at_lt (by rw [h2]; simp))).trans ((Heap.at_put_ne _ _ _ _ (by omega)).trans ((Heap.at_put_ne _ _ _ _ hne9).trans h2))
      · intro t e sz xs e' sz' xs' h h'
        cases h
        exact hdis _ _ _ _ _ _ _ rfl h'
  clear hLZ hNZ hdis z0 z1 zu hcL hsL hclL
  rintro env V ⟨aL2, rfl, v0, v1, hLV, hNV, hdis, hVl⟩
  have hcL := hLV.cell
  have hsL := solid_of_cell hcL
  have hclL := cells_of_cell hcL
  (all_goals (have X1 := @v0; have X2 := @v1; have X3 := @hcL; have X4 := @hsL; have X5 := @hclL; have X6 := @hcN; have X7 := @hsN; have X8 := @hclN; have X9 := @hfin; (repeat' (first | refine gg ?_ | (refine gd ?_ ?_ <;> (intro hcond; try (exfalso; omega))) | (refine ge ?_ ?_ <;> intro hcs) | fail)); all_goals try clear X1 X2 X3 X4 X5 X6 X7 X8 X9))
  all_goals first
    | exact ret_read hLV hNV hk (by omega) (by omega) hfl2 hfn hSl2 _ (by first | (simp; done) | (rw [List.length_drop, List.length_take]; omega)) _
    | skip
  refine ar_qcall rfl ok_107 rfl (l1Blank_ok _ (by show ((List.length _ : Nat) : Int) ≤ _; rw [List.length_drop, List.length_take]; omega)) rfl rfl ?_
  rintro _ ⟨s6, rfl, hs6⟩
  rw [List.length_drop, List.length_take] at hs6
  (all_goals (have X1 := @v0; have X2 := @v1; have X3 := @hcL; have X4 := @hsL; have X5 := @hclL; have X6 := @hcN; have X7 := @hsN; have X8 := @hclN; have X9 := @hfin; (repeat' (first | refine gg ?_ | (refine gd ?_ ?_ <;> (intro hcond; try (exfalso; omega))) | (refine ge ?_ ?_ <;> intro hcs) | fail)); all_goals try clear X1 X2 X3 X4 X5 X6 X7 X8 X9))
  exact anextn [(0, .str s6), (1, .int .u8 c.toNat), (2, .int .i64 ((d + 1 : Nat) : Int)), (6, .ptr 0 0 0), (9, .ptr 1 0 0)] _ (k' := 13 - (l ++ [(⟨uk, un, ut, ul, uns⟩ : GV)]).length) (by omega) (by omega) sb (heapW_refl _) rfl ⟨l ++ [⟨uk, un, ut, ul, uns⟩], ns', aL2, aN', s6, rfl, ⟨by omega, by omega, by omega⟩, rfl, ⟨hfl2, hSl2, hfn⟩, v0, v1, hLV, hNV, hdis, by omega⟩
end Go.Av
set_option linter.unusedVariables false
set_option linter.unusedSimpArgs false
namespace Go.Av
open Go
set_option maxRecDepth 10000
set_option maxHeartbeats 1000000
theorem szR_pos : ∀ d, 2 ≤ szR d
  | 0 => Nat.le_refl _
  | d + 1 => by simp only [szR]; omega
theorem rdR_flat {S n : Nat} (hS : 2 ≤ S) (k x : Int) (t rest : List UInt8) (ok : Bool) (hk : I64 k) (hx : I64 x) (ht : Len t) (hr : rest.length ≤ n) : ∃ r, frz (.tup [.agg [.int .i64 k, .int .i64 x, .str t, .nsl 5, .nsl 1], .str rest, .bool ok]) = some r ∧ RdR S n r :=
  ⟨_, rfl, ⟨k, x, t, [], []⟩, rest, ok, rfl, ⟨hk, hx, ht, by simp [Len], trivial, by simp [Len], by simp⟩, by simp [GV.size, sizes]; omega, hr⟩
theorem rdR_items {S n m : Nat} {r : AV} (h : RdR S n r) (hm : n ≤ m) : RdR S m r := by
  obtain ⟨v, rest, ok, h1, h2, h3, h4⟩ := h
  exact ⟨v, rest, ok, h1, h2, h3, by omega⟩
theorem l1Read_step (d : Nat) (hd : d ≤ 100) (ih : ∀ d', d = d' + 1 → ∀ s : List UInt8, Len s → QCall P 106 [.str s, .int .i64 (d' : Int)] (RdR (szR d') s.length)) (s : List UInt8) (hs : Len s) :
    QCall P 106 [.str s, .int .i64 (d : Int)] (RdR (szR d) s.length) := by
  refine qcall_of_fcall (fcall_walk T_ok ok_106 rfl ?_)
  unfold Go.Proofs.Try.f106
  simp only [Option.getD_some, envOf, Nat.zero_add, Nat.reduceAdd]
  have hs0 : (s.length : Int) ≤ 1048576 := hs
  have hz := szR_pos d
  refine aw_seq ?_
  repeat' (first | refine gr ?_ | fail)
  repeat' (first | refine gg ?_ | (refine gd ?_ ?_ <;> (intro hcond; try (exfalso; omega))) | (refine ge ?_ ?_ <;> intro hcs) | fail)
  refine ar_qcall rfl ok_107 rfl (l1Blank_ok s hs) rfl rfl ?_
  rintro _ ⟨s1, rfl, hs1⟩
  have hs1' : (s1.length : Int) ≤ 1048576 := by omega
  repeat' (first | refine gr ?_ | fail)
  refine aw_seq_mid (fun env H => env = [(0, .str s1), (1, .int .i64 (d : Int)), (4, .ptr 0 0 0)] ∧ H = [.row 5 [zvAV]] ∧ 0 < s1.length ∧ 1 ≤ d) ?_ ?_
  · repeat' (first | refine gg ?_ | (refine gd ?_ ?_ <;> (intro hcond; try (exfalso; omega))) | (refine ge ?_ ?_ <;> intro hcs) | fail)
    all_goals first
      | exact rdR_flat hz 0 0 [] [] false (by decide) (by decide) (by simp [Len]) (by simp)
      | exact amidn [(0, .str s1), (1, .int .i64 (d : Int)), (4, .ptr 0 0 0)] _ (Nat.le_refl _) sb (heapW_refl _) rfl ⟨rfl, rfl, by omega, by omega⟩
      | skip
  rintro env H ⟨rfl, rfl, hs10, hd1⟩
  obtain ⟨d, rfl⟩ : ∃ d', d = d' + 1 := ⟨d - 1, by omega⟩
  have ihd := ih d rfl
  refine aw_seq_mid (fun env H => env = [(0, .str s1), (4, .ptr 0 0 0)] ∧ H = [.row 5 [zvAV]]) ?_ ?_
  · repeat' (first | refine gg ?_ | (refine gd ?_ ?_ <;> (intro hcond; try (exfalso; omega))) | (refine ge ?_ ?_ <;> intro hcs) | fail)
    · refine ar_qcall rfl ok_109 rfl (l1Text_ok _ (by show ((List.length _ : Nat) : Int) ≤ _; rw [List.length_drop, List.length_take]; omega)) rfl rfl ?_
      rintro _ ⟨t, s4, okt, rfl, ht, hs4⟩
      rw [List.length_drop, List.length_take] at hs4
      repeat' (first | refine gg ?_ | (refine gd ?_ ?_ <;> (intro hcond; try (exfalso; omega))) | (refine ge ?_ ?_ <;> intro hcs) | fail)
      exact rdR_flat hz 3 0 t s4 okt (by decide) (by decide) ht (by omega)
    · refine ar_qcall rfl ok_110 rfl (l1Items_step d (by omega) ihd _ (by show ((List.length _ : Nat) : Int) ≤ _; rw [List.length_drop, List.length_take]; omega) 93) rfl rfl ?_
      rintro _ ⟨⟨uk, un, ut, ul, uns⟩, s4, okr, rfl, huf, huS, hs4⟩
      rw [List.length_drop, List.length_take] at hs4
      (all_goals (have X1 := @GV.enc.eq_1; (repeat' (first | refine gg ?_ | (refine gd ?_ ?_ <;> (intro hcond; try (exfalso; omega))) | (refine ge ?_ ?_ <;> intro hcs) | fail)); all_goals try clear X1))
      exact ⟨_, rfl, ⟨uk, un, ut, ul, uns⟩, s4, okr, rfl, huf, huS, by omega⟩
    · refine ar_qcall rfl ok_110 rfl (l1Items_step d (by omega) ihd _ (by show ((List.length _ : Nat) : Int) ≤ _; rw [List.length_drop, List.length_take]; omega) 125) rfl rfl ?_
      rintro _ ⟨⟨uk, un, ut, ul, uns⟩, s4, okr, rfl, huf, huS, hs4⟩
      rw [List.length_drop, List.length_take] at hs4
      (all_goals (have X1 := @GV.enc.eq_1; (repeat' (first | refine gg ?_ | (refine gd ?_ ?_ <;> (intro hcond; try (exfalso; omega))) | (refine ge ?_ ?_ <;> intro hcs) | fail)); all_goals try clear X1))
      exact ⟨_, rfl, ⟨uk, un, ut, ul, uns⟩, s4, okr, rfl, huf, huS, by omega⟩
    · refine ar_qcall rfl ok_111 rfl (l1Whole_ok s1 hs1') rfl rfl ?_
      rintro _ ⟨z, s4, okt, rfl, hz4, hs4⟩
      (all_goals (have X1 := @GV.enc.eq_1; (repeat' (first | refine gg ?_ | (refine gd ?_ ?_ <;> (intro hcond; try (exfalso; omega))) | (refine ge ?_ ?_ <;> intro hcs) | fail)); all_goals try clear X1))
      exact rdR_flat hz 2 z [] s4 okt (by decide) hz4 (by simp [Len]) (by omega)
    · (have X1 := @GV.enc.eq_1; ((apply ar_call rfl ok_88); (focus exact eva); (focus exact l1Figure_ok (s1.getD 0 0)); (focus rfl); (focus rfl)); all_goals try clear X1)
      (all_goals (have X1 := @GV.enc.eq_1; (repeat' (first | refine gg ?_ | (refine gd ?_ ?_ <;> (intro hcond; try (exfalso; omega))) | (refine ge ?_ ?_ <;> intro hcs) | fail)); all_goals try clear X1))
      · refine ar_qcall rfl ok_111 rfl (l1Whole_ok s1 hs1') rfl rfl ?_
        rintro _ ⟨z, s4, okt, rfl, hz4, hs4⟩
        (all_goals (have X1 := @GV.enc.eq_1; (repeat' (first | refine gg ?_ | (refine gd ?_ ?_ <;> (intro hcond; try (exfalso; omega))) | (refine ge ?_ ?_ <;> intro hcs) | fail)); all_goals try clear X1))
        exact rdR_flat hz 2 z [] s4 okt (by decide) hz4 (by simp [Len]) (by omega)
      · exact amidn [(0, .str s1), (4, .ptr 0 0 0)] _ (Nat.le_refl _) sb (heapW_refl _) rfl ⟨rfl, rfl⟩
  rintro env H ⟨rfl, rfl⟩
  (all_goals (have X1 := @GV.enc.eq_1; (repeat' (first | refine gg ?_ | (refine gd ?_ ?_ <;> (intro hcond; try (exfalso; omega))) | (refine ge ?_ ?_ <;> intro hcs) | fail)); all_goals try clear X1))
  refine ar_qcall rfl ok_112 rfl (l1Word_ok s1 hs1') rfl rfl ?_
  rintro _ ⟨j, rfl, hj⟩
  (all_goals (have X1 := @GV.enc.eq_1; (repeat' (first | refine gg ?_ | (refine gd ?_ ?_ <;> (intro hcond; try (exfalso; omega))) | (refine ge ?_ ?_ <;> intro hcs) | fail)); all_goals try clear X1))
  all_goals first
    | exact rdR_flat hz 0 0 [] [] false (by decide) (by decide) (by simp [Len]) (by simp)
    | skip
  all_goals (have h4 : 4 ≤ s1.length := by have := congrArg List.length hcs; simp at this; omega)
  all_goals try (have h5 : 5 ≤ s1.length := by have := congrArg List.length hcs; simp at this; omega)
  all_goals (all_goals (have X1 := @GV.enc.eq_1; (repeat' (first | refine gg ?_ | (refine gd ?_ ?_ <;> (intro hcond; try (exfalso; omega))) | (refine ge ?_ ?_ <;> intro hcs) | fail)); all_goals try clear X1))
  all_goals first
    | exact rdR_flat hz 1 1 [] _ true (by decide) (by decide) (by simp [Len]) (by rw [List.length_drop, List.length_take]; omega)
    | exact rdR_flat hz 1 0 [] _ true (by decide) (by decide) (by simp [Len]) (by rw [List.length_drop, List.length_take]; omega)
    | exact rdR_flat hz 0 0 [] _ true (by decide) (by decide) (by simp [Len]) (by rw [List.length_drop, List.length_take]; omega)
    | skip
theorem l1Read_ok : ∀ (d : Nat), d ≤ 100 → ∀ (s : List UInt8), Len s → QCall P 106 [.str s, .int .i64 (d : Int)] (RdR (szR d) s.length)
  | 0, hd => fun s hs => l1Read_step 0 hd (fun d' h => by omega) s hs
  | d + 1, hd => fun s hs => l1Read_step (d + 1) hd (fun d' h => by obtain rfl : d' = d := by omega
                                                                    exact l1Read_ok d' (by omega)) s hs
end Go.Av
set_option linter.unusedVariables false
set_option linter.unusedSimpArgs false
namespace Go.Av
open Go
set_option maxRecDepth 10000
set_option maxHeartbeats 1000000
theorem plain_len : ∀ {v : GV}, plainV v = true → v.ns.length ≤ v.l.length ∧ v.l.length ≤ 12
  | ⟨k, n, t, l, ns⟩, h => by
    show ns.length ≤ l.length ∧ l.length ≤ 12
    by_cases h0 : k = 0
    · subst h0; simp [plainV] at h; omega
    by_cases h1 : k = 1
    · subst h1; simp [plainV] at h; omega
    by_cases h2 : k = 2
    · subst h2; simp [plainV] at h; omega
    by_cases h3 : k = 3
    · subst h3; simp [plainV] at h; omega
    by_cases h4 : k = 4
    · subst h4; simp [plainV] at h; rw [h.1.2]; simp; omega
    by_cases h5 : k = 5
    · subst h5; simp [plainV] at h; omega
    simp [plainV, h0, h1, h2, h3, h4, h5] at h; omega
theorem okV_plain {w : Bool} {d : Nat} {v : GV} (h : okV w d v = true) : plainV v = true := by
  cases d with
  | zero => cases h
  | succ d =>
    obtain ⟨k, n, t, l, ns⟩ := v
    rw [okV_succ] at h
    simp only [Bool.and_eq_true] at h
    exact h.1.1.1
def GJ (r : AV) : Prop := ∃ (v : GV) (ok : Bool), r = .tup [.agg v.enc, .bool ok] ∧ v.fits ∧ v.ns.length ≤ v.l.length ∧ v.l.length ≤ 12
theorem JsonGet_ok (s : List UInt8) (hs : Len s) : QCall P 104 [.str s] GJ := by
  refine qcall_of_fcall (fcall_walk T_ok ok_104 rfl ?_)
  unfold Go.Proofs.Try.f104
  simp only [Option.getD_some, envOf, Nat.zero_add, Nat.reduceAdd]
  have hs0 : (s.length : Int) ≤ 1048576 := hs
  have hzero : ∀ ok : Bool, ∃ r, frz (.tup [.agg [.int .i64 0, .int .i64 0, .str [], .nsl 5, .nsl 1], .bool ok]) = some r ∧ GJ r := fun ok =>
    ⟨_, rfl, ⟨0, 0, [], [], []⟩, ok, rfl, ⟨by decide, by decide, by simp [Len], by simp [Len], trivial, by simp [Len], by simp⟩, by simp [GV.ns, GV.l], by simp [GV.l]⟩
  repeat' (first | refine gg ?_ | (refine gd ?_ ?_ <;> (intro hcond; try (exfalso; omega))) | (refine ge ?_ ?_ <;> intro hcs) | fail)
  · exact hzero false
  refine ar_qcall rfl ok_106 rfl (l1Read_ok 6 (by omega) s hs) rfl rfl ?_
  rintro _ ⟨⟨uk, un, ut, ul, uns⟩, s4, okr, rfl, huf, huS, hs4⟩
  have hs4' : (s4.length : Int) ≤ 1048576 := by omega
  cases okr
  · (all_goals (have X1 := @GV.enc.eq_1; (repeat' (first | refine gg ?_ | (refine gd ?_ ?_ <;> (intro hcond; try (exfalso; omega))) | (refine ge ?_ ?_ <;> intro hcs) | fail)); all_goals try clear X1))
    exact hzero false
  · (all_goals (have X1 := @GV.enc.eq_1; (repeat' (first | refine gg ?_ | (refine gd ?_ ?_ <;> (intro hcond; try (exfalso; omega))) | (refine ge ?_ ?_ <;> intro hcs) | fail)); all_goals try clear X1))
    refine ar_qcall rfl ok_107 rfl (l1Blank_ok s4 hs4') rfl rfl ?_
    rintro _ ⟨s5, rfl, hs5⟩
    (all_goals (have X1 := @GV.enc.eq_1; (repeat' (first | refine gg ?_ | (refine gd ?_ ?_ <;> (intro hcond; try (exfalso; omega))) | (refine ge ?_ ?_ <;> intro hcs) | fail)); all_goals try clear X1))
    · exact hzero false
    · (have X1 := @GV.enc.eq_1; ((apply ar_call rfl ok_108); (focus exact eva); (focus exact specValueOk_ok ⟨uk, un, ut, ul, uns⟩ huf); (focus rfl); (focus rfl)); all_goals try clear X1)
      (all_goals (have X1 := @GV.enc.eq_1; (repeat' (first | refine gg ?_ | (refine gd ?_ ?_ <;> (intro hcond; try (exfalso; omega))) | (refine ge ?_ ?_ <;> intro hcs) | fail)); all_goals try clear X1))
      · exact hzero false
      · exact ⟨_, rfl, ⟨uk, un, ut, ul, uns⟩, true, rfl, huf, plain_len (okV_plain (w := false) (d := 6) (by simpa using hcs))⟩
end Go.Av
