/- Drawn nodes, and what a store is behind a set, within bounds of their sizes. -/
import Derived.Test.YtfdafamjgnbecaaSed
import Derived.Test.YtfdafamjgnbecaaAvd
set_option linter.unusedVariables false
set_option linter.unusedSimpArgs false
set_option linter.unusedVariables false
set_option linter.unusedSimpArgs false
namespace Go.Av
open Go
set_option maxRecDepth 10000
set_option maxHeartbeats 1000000
def NOK (B : Nat) (l : List GN) : Prop := ∀ u ∈ l, u.fits ∧ u.cells.ns.length ≤ u.cells.l.length ∧ u.cells.l.length ≤ B
theorem NOK.snoc {B : Nat} {l : List GN} {u : GN} (h : NOK B l) (hf : u.fits) (hn : u.cells.ns.length ≤ u.cells.l.length) (hs : u.cells.l.length ≤ B) : NOK B (l ++ [u]) := fun x hx => by
  rcases List.mem_append.1 hx with hx | hx
  · exact h x hx
  · simp at hx; subst hx; exact ⟨hf, hn, hs⟩
def txt7 : List (List UInt8) := [[123, 34, 109, 101, 34, 58, 123, 34, 114, 101, 102, 34, 58, 50, 125, 44, 34, 97, 108, 108, 34, 58, 91, 123, 34, 114, 101, 102, 34, 58, 50, 125, 44, 123, 34, 114, 101, 102, 34, 58, 51, 125, 93, 44, 34, 102, 105, 110, 100, 34, 58, 123, 34, 114, 101, 102, 34, 58, 52, 125, 44, 34, 110, 34, 58, 55, 44, 34, 119, 111, 114, 100, 115, 34, 58, 91, 91, 34, 97, 34, 44, 34, 98, 34, 93, 44, 110, 117, 108, 108, 93, 125], [123, 34, 110, 34, 58, 49, 125], [123, 34, 110, 97, 109, 101, 34, 58, 34, 97, 110, 110, 34, 44, 34, 97, 103, 101, 34, 58, 51, 48, 44, 34, 112, 101, 116, 34, 58, 123, 34, 114, 101, 102, 34, 58, 52, 125, 44, 34, 102, 114, 105, 101, 110, 100, 115, 34, 58, 91, 123, 34, 114, 101, 102, 34, 58, 51, 125, 44, 110, 117, 108, 108, 93, 44, 34, 107, 105, 110, 100, 34, 58, 34, 67, 65, 84, 34, 125], [123, 34, 110, 97, 109, 101, 34, 58, 34, 98, 111, 98, 34, 44, 34, 97, 103, 101, 34, 58, 34, 111, 108, 100, 34, 44, 34, 102, 114, 105, 101, 110, 100, 115, 34, 58, 91, 123, 34, 114, 101, 102, 34, 58, 50, 125, 44, 123, 34, 114, 101, 102, 34, 58, 57, 125, 93, 125], [123, 34, 110, 97, 109, 101, 34, 58, 34, 114, 101, 120, 34, 44, 34, 111, 119, 110, 101, 114, 34, 58, 123, 34, 114, 101, 102, 34, 58, 50, 125, 125]]
def typ7 : List (List UInt8) := [[81, 117, 101, 114, 121], [77, 117, 116, 97, 116, 105, 111, 110], [80, 101, 114, 115, 111, 110], [80, 101, 114, 115, 111, 110], [80, 101, 116]]
theorem txt7_in (i : Nat) (h : i < 5) : Len (txt7.getD i []) := by
  match i, h with
  | 0, _ => decide
  | 1, _ => decide
  | 2, _ => decide
  | 3, _ => decide
  | 4, _ => decide
theorem typ7_in (i : Nat) (h : i < 5) : Len (typ7.getD i []) := by
  match i, h with
  | 0, _ => decide
  | 1, _ => decide
  | 2, _ => decide
  | 3, _ => decide
  | 4, _ => decide
theorem txt7_len : txt7.length = 5 := rfl
theorem typ7_len : typ7.length = 5 := rfl
theorem txt7_get {i : Nat} (h : i < 5) : (strs txt7).getD i [] = [.str (txt7.getD i [])] := strs_get (by rw [txt7_len]; exact h)
theorem typ7_get {i : Nat} (h : i < 5) : (strs typ7).getD i [] = [.str (typ7.getD i [])] := strs_get (by rw [typ7_len]; exact h)
theorem l7Nodes_ok : NCall P 98 [] 7 fun x xs => x = none ∧ ∃ l : List GN, xs = encn l ∧ l.length = 5 ∧ NOK 12 l := by
  refine ncall_of_fcall ?_
  refine fcall_walk T_ok ok_98 rfl ?_
  unfold Go.Proofs.Try.f98
  simp only [Option.getD_some, envOf, Nat.zero_add, Nat.reduceAdd]
  refine aw_seq ?_
  repeat' (first | refine gr ?_ | fail)
  refine aw_seq ?_
  refine aw_reg ?_
  refine ar_bs (strs txt7) rfl rfl rfl ?_
  repeat' (first | refine gr ?_ | fail)
  refine aw_seq ?_
  refine aw_reg ?_
  refine ar_bs (strs typ7) rfl rfl rfl ?_
  repeat' (first | refine gr ?_ | fail)
  refine aw_seq ?_
  refine aw_reg ?_
  refine ar_sem (v := .row 2 0 0 (some 0) 7) (wr := [(2, .row 7 [])]) (log := []) (H' := [.tok 5, .tok 5, .row 7 []]) (sem_build0 T_ok (d := D24) (de := D54) 2 rfl rfl rfl rfl) rfl rfl rfl ?_
  repeat' (first | refine gx ?_ | (refine gd ?_ ?_ <;> (intro hcond; try (exfalso; omega))) | fail)
  refine aw_loopn (fun kk env H => ∃ (i b : Nat) (cap : Option Nat) (l : List GN), (kk = 5 - i ∧ i ≤ 5 ∧ l.length = i) ∧ env = [(1, .asl 0 5 1 (strs txt7)), (2, .asl 1 5 1 (strs typ7)), (3, .row b 0 i cap 7), (4, .int .i64 (i : Int))] ∧ NOK 12 l ∧ b < H.length ∧ H.at b = .row 7 (encn l)) 5
    [(1, .asl 0 5 1 (strs txt7)), (2, .asl 1 5 1 (strs typ7)), (3, .row 2 0 0 (some 0) 7), (4, .int .i64 0)] _ sb (heapW_refl _) rfl ⟨0, 2, some 0, [], ⟨rfl, by omega, rfl⟩, rfl, (by simp [NOK]), (by simp), rfl⟩ ?_
  rintro kk env H ⟨i, b, cap, l, ⟨rfl, hi5, hli⟩, rfl, hN, hbl, hat⟩
  have hlx1 : (strs txt7).length = 5 := rfl
  have hlx2 : (strs typ7).length = 5 := rfl
  by_cases hlt : i < 5
  · have hg1 := txt7_get hlt
    have hg2 := typ7_get hlt
    have hg3 := typ7_in i hlt
    (all_goals (have X1 := @hg1; have X2 := @hg2; have X3 := @hlx1; have X4 := @hlx2; (repeat' (first | refine gx ?_ | (refine gd ?_ ?_ <;> (intro hcond; try (exfalso; omega))) | fail)); all_goals try clear X1 X2 X3 X4))
    refine ar_qcall rfl ok_104 rfl (JsonGet_ok _ (txt7_in i hlt)) rfl rfl ?_
    rintro _ ⟨⟨uk, un, ut, ul, uns⟩, ok, rfl, huf, hulen, huS⟩
    obtain ⟨ty, hty⟩ : ∃ ty, typ7.getD i [] = ty := ⟨_, rfl⟩
    rw [hty] at hg2 hg3
    have q1 := fun L => (Heap.at_old H L hbl).trans hat
    (all_goals (have X1 := @GV.enc.eq_1; have X2 := @hg1; have X3 := @hg2; have X4 := @hlx1; have X5 := @hlx2; (repeat' (first | refine gx ?_ | (refine gd ?_ ?_ <;> (intro hcond; try (exfalso; omega))) | fail)); all_goals try clear X1 X2 X3 X4 X5))
    refine ard_sem (v := .row (H.length + 2) 0 (i + 1) none 7) (wr := [(b, .dead), (H.length + 2, .row 7 (encn l ++ [[.int .i64 i, .str ty, .int .i64 uk, .int .i64 un, .str ut, .fsl 5 (encs ul), .fsl 1 (strs uns)]]))]) (log := [b]) (H' := (H ++ [Blk.row 5 [[.int .i64 uk, .int .i64 un, .str ut, .fsl 5 (encs ul), .fsl 1 (strs uns)]]]).put b .dead ++ [.tok 1, .row 7 (encn l ++ [[.int .i64 i, .str ty, .int .i64 uk, .int .i64 un, .str ut, .fsl 5 (encs ul), .fsl 1 (strs uns)]])])
      (sem_app_move T_ok (n := H.length + 2) (d := D24) (de := D54) (ys := [[.int .i64 i, .str ty, .int .i64 uk, .int .i64 un, .str ut, .fsl 5 (encs ul), .fsl 1 (strs uns)]]) (s1 := 0) (s2 := 0) (b := b) (len := i) (es := encn l) rfl rfl rfl rfl rfl rfl rfl rfl (q1 _) (by rw [encn_len, hli]) rfl rfl rfl (by simp) (by simp) (by simp [encn_len]; omega) (by simp; omega) (by simp)) (by simp [okIdsB, Nat.ble_eq]) rfl (by have := puts_move (M := H ++ [Blk.row 5 [[.int .i64 uk, .int .i64 un, .str ut, .fsl 5 (encs ul), .fsl 1 (strs uns)]]]) (c := b) (by simp; omega) (Blk.tok 1) (Blk.row 7 (encn l ++ [[.int .i64 i, .str ty, .int .i64 uk, .int .i64 un, .str ut, .fsl 5 (encs ul), .fsl 1 (strs uns)]])); simpa using this) ?_
    have hpl := Heap.put_length (H ++ [Blk.row 5 [[.int .i64 uk, .int .i64 un, .str ut, .fsl 5 (encs ul), .fsl 1 (strs uns)]]]) b Blk.dead (by simp; omega)
    simp only [List.length_append, List.length_singleton] at hpl
    (all_goals (have X1 := @GV.enc.eq_1; have X2 := @hg1; have X3 := @hg2; have X4 := @hlx1; have X5 := @hlx2; (repeat' (first | refine gx ?_ | (refine gd ?_ ?_ <;> (intro hcond; try (exfalso; omega))) | fail)); all_goals try clear X1 X2 X3 X4 X5))
    refine anextn [(1, .asl 0 5 1 (strs txt7)), (2, .asl 1 5 1 (strs typ7)), (3, .row (H.length + 2) 0 (i + 1) none 7), (4, .int .i64 ((i + 1 : Nat) : Int))] _ (k' := 5 - (i + 1)) (by omega) (by simp only [List.length_append, hpl]; omega) sb (heapW_refl _) rfl
      ⟨i + 1, H.length + 2, none, l ++ [⟨i, ty, ⟨uk, un, ut, ul, uns⟩⟩], ⟨rfl, by omega, by simp [hli]⟩, rfl, hN.snoc ⟨⟨by show _ ≤ ((i : Nat) : Int); omega, by show ((i : Nat) : Int) ≤ _; omega⟩, hg3, huf⟩ hulen huS, by rw [List.length_append, hpl]; simp, ?_⟩
    have i9 : H.length + 2 = (H ++ [Blk.row 5 [[.int .i64 uk, .int .i64 un, .str ut, .fsl 5 (encs ul), .fsl 1 (strs uns)]]]).length + 1 := by simp
    rw [i9, Heap.at_putB (by simp; omega)]
    simp [Heap.at, encn, GN.enc, GV.enc]
  · 
    (all_goals (have X1 := @hlx1; have X2 := @hlx2; (repeat' (first | refine gx ?_ | (refine gd ?_ ?_ <;> (intro hcond; try (exfalso; omega))) | fail)); all_goals try clear X1 X2))
    obtain rfl : i = 5 := by omega
    exact ⟨b, cap, encn l, encn l, none, [], by rw [encn_len, hli]; rfl, by simp, hat, rfl, by simp, encn_all7 _, fun i j hi hj => bor_frz (frzL_at (encn_frzm l _ (mem_getD hi)) j (by rw [encn_all7 _ _ (mem_getD hi)]; exact hj)), rfl, l, rfl, hli, hN⟩
end Go.Av
set_option linter.unusedVariables false
set_option linter.unusedSimpArgs false
namespace Go.Av
open Go
set_option maxRecDepth 10000
set_option maxHeartbeats 1000000
def refS : List UInt8 := [114, 101, 102]
theorem RefTo_ok (n : Int) (h0 : 0 ≤ n) (h1 : n ≤ 1000000) : QCall P 99 [.int .i64 n] fun r => ∃ v : GV, r = .agg v.enc ∧ v.fits := by
  refine qcall_of_fcall (fcall_walk T_ok ok_99 rfl ?_)
  unfold Go.Proofs.Try.f99
  simp only [Option.getD_some, envOf, Nat.zero_add, Nat.reduceAdd]
  repeat' (first | refine gg ?_ | (refine gd ?_ ?_ <;> (intro hcond; try (exfalso; omega))) | (refine ge ?_ ?_ <;> intro hcs) | fail)
  (apply ar_call rfl ok_59); (focus exact eva); (focus exact l1In_ok n 0 2147483647); (focus rfl); (focus rfl)
  repeat' (first | refine gg ?_ | (refine gd ?_ ?_ <;> (intro hcond; try (exfalso; omega))) | (refine ge ?_ ?_ <;> intro hcs) | fail)
  all_goals first
    | exact ⟨_, rfl, ⟨0, 0, [], [], []⟩, rfl, ⟨by decide, by decide, by simp [Len], by simp [Len], trivial, by simp [Len], by simp⟩⟩
    | exact ⟨_, rfl, ⟨5, 0, [], [⟨2, n, [], [], []⟩], [refS]⟩, rfl, ⟨by decide, by decide, by simp [Len], by simp [Len], ⟨⟨by decide, ⟨by omega, by omega⟩, by simp [Len], by simp [Len], trivial, by simp [Len], by simp⟩, trivial⟩, by simp [Len], by simp [refS, Len]⟩⟩
    | skip
theorem getD_set {α : Type} (l : List α) (i j : Nat) (x d : α) (h : i < l.length) : (l.set i x).getD j d = if i = j then x else l.getD j d := by
  simp only [List.getD_eq_getElem?_getD, List.getElem?_set]
  split
  · rename_i e; subst e; simp [h]
  · rfl
theorem fitss_set : ∀ {l : List GV} {v : GV}, fitss l → v.fits → ∀ i, fitss (l.set i v)
  | [], v, _, _, _ => trivial
  | w :: l, v, h, h2, 0 => ⟨h2, h.2⟩
  | w :: l, v, h, h2, i + 1 => ⟨h.1, fitss_set h.2 h2 i⟩
theorem mem_set {α : Type} {l : List α} {i : Nat} {x y : α} (h : y ∈ l.set i x) : y = x ∨ y ∈ l := by
  rcases List.mem_or_eq_of_mem_set h with h | h
  · exact .inr h
  · exact .inl h
theorem set5_ok {n : Nat} {l : List GN} (h : NOK n l) (hn : n ≤ 1000) (id : Int) (s : List UInt8) (v : GV) (hs : Len s) (hv : v.fits) : NOK (n + 1) (set5 l id s v).1 ∧ (set5 l id s v).1.length = l.length := by
  have hw : NOK (n + 1) l := fun u hu => ⟨(h u hu).1, (h u hu).2.1, by have := (h u hu).2.2; omega⟩
  unfold set5
  split
  · exact ⟨hw, rfl⟩
  rename_i h1
  have hi : (idxI l (fun n => n.id == id)).toNat < l.length := by
    rcases idxI_cases l (fun n => n.id == id) default with ⟨h2, _⟩ | ⟨i, h2, h3, _⟩
    · exfalso; apply h1; left; omega
    · rw [h2]; simpa using h3
  have hm := h _ (mem_getD (d := default) hi)
  generalize l.getD (idxI l (fun n => n.id == id)).toNat default = u at hm ⊢
  obtain ⟨uid, uty, ⟨k, m, t, ul, uns⟩⟩ := u
  obtain ⟨⟨a1, a2, a3, a4, a5, a6, a7, a8, a9⟩, hns, hll⟩ := hm
  have hns : uns.length ≤ ul.length := hns
  have hll : ul.length ≤ n := hll
  split
  · refine ⟨fun x hx => ?_, by simp⟩
    rcases mem_set hx with rfl | hx
    · exact ⟨⟨a1, a2, a3, a4, a5, by simp [Len] at a6 ⊢; exact a6, fitss_set a7 hv _, a8, a9⟩, by show uns.length ≤ (ul.set _ _).length; simpa using hns, by show (ul.set _ _).length ≤ _; simp; omega⟩
    · exact hw x hx
  split
  · exact ⟨hw, rfl⟩
  refine ⟨fun x hx => ?_, by simp⟩
  rcases mem_set hx with rfl | hx
  · refine ⟨⟨a1, a2, a3, a4, a5, by show ((ul ++ [v]).length : Int) ≤ 1048576; simp; omega, fitss_snoc a7 hv, by show ((uns ++ [s]).length : Int) ≤ 1048576; simp; omega, fun x hx => ?_⟩, by show (uns ++ [s]).length ≤ (ul ++ [v]).length; simpa using hns, by show (ul ++ [v]).length ≤ _; simp; omega⟩
    rcases List.mem_append.1 hx with hx | hx
    · exact a9 x hx
    · simp at hx; subst hx; exact hs
  · exact hw x hx
def nam8 : List (List UInt8) := [[110, 97, 109, 101], [97, 103, 101], [112, 101, 116], [102, 114, 105, 101, 110, 100, 115], [109, 101], [110], [111, 119, 110, 101, 114], [97, 108, 108]]
theorem nam8_in (i : Nat) (h : i < 8) : Len (nam8.getD i []) := by
  match i, h with
  | 0, _ => decide
  | 1, _ => decide
  | 2, _ => decide
  | 3, _ => decide
  | 4, _ => decide
  | 5, _ => decide
  | 6, _ => decide
  | 7, _ => decide
/-- a row of nodes that the call made, and the reader -/
def NdR (H0 H : Heap) (b : Nat) (bs : List UInt8) (p c : Nat) (q : Nat) (l : List GN) : Prop := H0.length ≤ q ∧ q < H.length ∧ H.at q = .row 7 (encn l) ∧ RdF H0 H b bs p c
theorem l13Nodes_ok (bs : List UInt8) (hl : Len bs) (b p : Nat) (H : Heap) (hb : H.at b = rdB bs p) (hbl : b < H.length) (hp : p ≤ 700000000) :
    FCall P 75 [.ptr b 0 0] H fun r H' => ∃ (l : List GN) (q : Nat) (cap : Option Nat), r = .row q 0 l.length cap 7 ∧ l.length = 5 ∧ NOK 100 l ∧ NdR H H' b bs p 1000 q l := by
  refine fcall_walk T_ok ok_75 rfl ?_
  unfold Go.Proofs.Try.f75
  simp only [Option.getD_some, envOf, Nat.zero_add, Nat.reduceAdd]
  refine aw_seq ?_
  (all_goals (have X1 := @hb; (repeat' (first | refine gr ?_ | fail)); all_goals try clear X1))
  refine aw_seq ?_
  (all_goals (have X1 := @hb; (repeat' (first | refine gr ?_ | fail)); all_goals try clear X1))
  refine ar_ncall rfl ok_98 rfl l7Nodes_ok rfl rfl ?_
  rintro _ _ ⟨rfl, l, rfl, hl5, hN⟩
  rw [encn_len]
  have hb1 := (Heap.at_old H [Blk.row 7 (encn l)] hbl).trans hb
  simp only [mkR]
  (all_goals (have X1 := @hb; (repeat' (first | refine gx ?_ | (refine gd ?_ ?_ <;> (intro hcond; try (exfalso; omega))) | fail)); all_goals try clear X1))
  (have X1 := @hb; ((apply ar_fcall rfl ok_49); (focus exact eva); (focus exact pick_ok bs 4 p b _ hb1 (by simp; omega) hl (by omega) (by decide)); (focus rfl); (focus rfl)); all_goals try clear X1)
  rintro _ _ ⟨rfl, rfl⟩
  have h4 := pickN_lt bs p 4 (by omega)
  rw [show pickV bs p 4 = ((pickN bs p 4 : Nat) : Int) from pickN_eq bs p 4]
  generalize pickN bs p 4 = n0 at *
  have hpl := Heap.put_length (H ++ [Blk.row 7 (encn l)]) b (rdB bs (p + 1)) (by simp; omega)
  (all_goals (have X1 := @hb; (repeat' (first | refine gx ?_ | (refine gd ?_ ?_ <;> (intro hcond; try (exfalso; omega))) | fail)); all_goals try clear X1))
  refine aw_loopn (fun kk env X => ∃ (l : List GN) (q : Nat) (cap : Option Nat), (kk ≤ 3 ∧ l.length = 5) ∧ env = [(0, .ptr b 0 0), (3, .row q 0 l.length cap 7), (4, .int .i64 (kk : Int))] ∧ NOK (15 - kk) l ∧ NdR H X b bs p (1 + (3 - kk) * 100) q l) n0
    [(0, .ptr b 0 0), (3, .row H.length 0 l.length none 7), (4, .int .i64 (n0 : Int))] _ sb (heapW_refl _) rfl ⟨l, H.length, none, ⟨by omega, hl5⟩, rfl, fun u hu => ⟨(hN u hu).1, (hN u hu).2.1, by have := (hN u hu).2.2; omega⟩, ⟨Nat.le_refl _, by rw [hpl]; simp, (Heap.at_put_ne _ _ _ _ (by omega)).trans (Heap.at_app _ _ 0), p + 1, by omega, by omega, Heap.at_put_same _ _ _, by rw [hpl]; simp, fun q h1 h2 => (Heap.at_put_ne _ _ _ _ h2).trans (Heap.at_old _ _ h1)⟩⟩ ?_
  clear hpl hb1 hN hl5 l
  rintro kk env X ⟨l, q, cap, ⟨hk3, hl5⟩, rfl, hN, hq, hqX, hqr, p1, hp1, hp2, hXb, hXl, hXo⟩
  rcases Nat.eq_zero_or_pos kk with rfl | hk
  · (all_goals (have X1 := @hb; (repeat' (first | refine gx ?_ | (refine gd ?_ ?_ <;> (intro hcond; try (exfalso; omega))) | fail)); all_goals try clear X1))
    exact ⟨l, q, cap, rfl, hl5, fun u hu => ⟨(hN u hu).1, (hN u hu).2.1, by have := (hN u hu).2.2; omega⟩, hq, hqX, hqr, p1, by omega, by omega, hXb, hXl, hXo⟩
  have hbq : b ≠ q := by omega
  -- the nodes are written no more
  refine aw_freeze [q] (env' := [(0, .ptr b 0 0), (3, .fsl 7 (encn l)), (4, .int .i64 (kk : Int))]) (H' := X.put q .dead) (fun t => ?_) (Heap.put_length _ _ _ hqX) (fun d => ?_) ?_
  · by_cases h3 : t = 3
    · subst h3
      refine .inr (.inr ?_)
      have := bor_rowf (cap := cap) (List.mem_singleton.2 rfl) hqr (encn_all7 l) (encn_frzm l)
      rwa [encn_len] at this
    · left
      have h3' : (3 == t) = false := by rw [beq_eq_false_iff_ne]; omega
      simp only [Env.get, h3', cond_false]
  · by_cases hd : d = q
    · subst hd; left; exact Heap.at_put_same _ _ _
    · right; exact ⟨by simpa using hd, .inl (Heap.at_put_ne _ _ _ _ hd)⟩
  obtain ⟨Y, hY⟩ : ∃ Y, X.put q .dead = Y := ⟨_, rfl⟩
  have hYl : Y.length = X.length := by rw [← hY]; exact Heap.put_length _ _ _ hqX
  have hYb : Y.at b = rdB bs p1 := by rw [← hY]; exact (Heap.at_put_ne _ _ _ _ hbq).trans hXb
  have hYo : ∀ c, c < H.length → c ≠ b → Y.at c = H.at c := fun c h1 h2 => by rw [← hY]; exact (Heap.at_put_ne _ _ _ _ (by omega)).trans (hXo c h1 h2)
  rw [hY]
  clear hqr hXb hXo hY
  (all_goals (have X1 := @hb; (repeat' (first | refine gx ?_ | (refine gd ?_ ?_ <;> (intro hcond; try (exfalso; omega))) | fail)); all_goals try clear X1))
  have hc1 : cst 1 = 36 := by decide
  (have X1 := @hb; ((apply ar_fcall rfl ok_77); (focus exact eva); (focus exact FCall.toD (b := b) (bs := bs) (p := p1) (c := cst 1) (R := fun _ => True) (by omega) (FCall.mono (l13Value_all bs hl b 1 2 (by omega) (by omega) (by omega) Y p1 hYb (by omega) (by rw [hc1]; omega)) (by rintro r H' ⟨v, a1, a2, a3, a4, a5⟩; exact ⟨v, a1, trivial, a4, a5⟩))); (focus rfl); (focus rfl)); all_goals try clear X1)
  rintro _ _ ⟨ws, Bs, ⟨⟨vk, vn, vt, vl, vns⟩, p2, rfl, hvf, _, rfl, hp21, hp22, hBs⟩, rfl⟩
  rw [hc1] at hp22
  obtain ⟨Z, hZ⟩ : ∃ Z, Y.puts [(b, rdB bs p2)] ++ Bs = Z := ⟨_, rfl⟩
  have hZ' : Y.put b (rdB bs p2) ++ Bs = Z := hZ
  have hYpl := Heap.put_length Y b (rdB bs p2) (by omega)
  have hZl : Y.length ≤ Z.length := by rw [← hZ', List.length_append]; omega
  have hZb : Z.at b = rdB bs p2 := by rw [← hZ', Heap.at_old _ _ (by omega)]; exact Heap.at_put_same _ _ _
  have hZo : ∀ c, c < H.length → c ≠ b → Z.at c = H.at c := fun c h1 h2 => by rw [← hZ', Heap.at_old _ _ (by omega)]; exact (Heap.at_put_ne _ _ _ _ h2).trans (hYo c h1 h2)
  rw [hZ]
  clear hZ hZ' hYpl hYo hYb hBs
  (all_goals (have X1 := @GV.enc.eq_1; (repeat' (first | refine gr ?_ | fail)); all_goals try clear X1))
  have hZb1 := fun L => (Heap.at_old Z L (b := b) (by omega)).trans hZb
  have hZo1 := fun L c (h1 : c < H.length) (h2 : c ≠ b) => (Heap.at_old Z L (b := c) (by omega)).trans (hZo c h1 h2)
  have hZc := Heap.at_app Z [Blk.row 5 [[.int .i64 vk, .int .i64 vn, .str vt, .fsl 5 (encs vl), .fsl 1 (strs vns)]]] 0
  refine aw_seq_mid (fun env W => ∃ (v : GV) (c p3 : Nat), env = [(0, .ptr b 0 0), (3, .fsl 7 (encn l)), (4, .int .i64 (kk : Int)), (5, .ptr c 0 0)] ∧ v.fits ∧ W.at c = .row 5 [v.enc] ∧ (p1 ≤ p3 ∧ p3 ≤ p1 + 60) ∧ W.at b = rdB bs p3 ∧ X.length ≤ W.length ∧ X.length ≤ c ∧ c < W.length ∧ ∀ q', q' < H.length → q' ≠ b → W.at q' = H.at q') ?_ ?_
  · (all_goals (have X1 := @GV.enc.eq_1; (repeat' (first | refine gx ?_ | (refine gd ?_ ?_ <;> (intro hcond; try (exfalso; omega))) | fail)); all_goals try clear X1))
    (have X1 := @GV.enc.eq_1; ((apply ar_fcall rfl ok_49); (focus exact eva); (focus exact pick_ok bs 2 p2 b _ (hZb1 _) (by simp; omega) hl (by omega) (by decide)); (focus rfl); (focus rfl)); all_goals try clear X1)
    rintro _ _ ⟨rfl, rfl⟩
    have hZa : (Z ++ [Blk.row 5 [[.int .i64 vk, .int .i64 vn, .str vt, .fsl 5 (encs vl), .fsl 1 (strs vns)]]]).length = Z.length + 1 := by simp
    obtain ⟨W, hW⟩ : ∃ W, (Z ++ [Blk.row 5 [[.int .i64 vk, .int .i64 vn, .str vt, .fsl 5 (encs vl), .fsl 1 (strs vns)]]]).put b (rdB bs (p2 + 1)) = W := ⟨_, rfl⟩
    have hWl : W.length = Z.length + 1 := by rw [← hW, Heap.put_length _ _ _ (by simp; omega)]; simp
    have hWb : W.at b = rdB bs (p2 + 1) := by rw [← hW]; exact Heap.at_put_same _ _ _
    have hWc : W.at Z.length = .row 5 [[.int .i64 vk, .int .i64 vn, .str vt, .fsl 5 (encs vl), .fsl 1 (strs vns)]] := by rw [← hW, Heap.at_put_ne _ _ _ _ (by omega)]; exact hZc
    have hWo : ∀ c, c < H.length → c ≠ b → W.at c = H.at c := fun c h1 h2 => by rw [← hW, Heap.at_put_ne _ _ _ _ h2]; exact hZo1 _ c h1 h2
    rw [hW]
    (all_goals (have X1 := @GV.enc.eq_1; (repeat' (first | refine gx ?_ | (refine gd ?_ ?_ <;> (intro hcond; try (exfalso; omega))) | fail)); all_goals try clear X1))
    · (have X1 := @GV.enc.eq_1; ((apply ar_fcall rfl ok_49); (focus exact eva); (focus exact pick_ok bs 7 (p2 + 1) b W hWb (by omega) hl (by omega) (by decide)); (focus rfl); (focus rfl)); all_goals try clear X1)
      rintro _ _ ⟨rfl, rfl⟩
      have h7 := pickV_range bs (p2 + 1) 7
      have h7' := h7.2 (by omega)
      (all_goals (have X1 := @GV.enc.eq_1; (repeat' (first | refine gx ?_ | (refine gd ?_ ?_ <;> (intro hcond; try (exfalso; omega))) | fail)); all_goals try clear X1))
      refine ar_qcall rfl ok_99 rfl (RefTo_ok _ h7.1 (by omega)) rfl rfl ?_
      rintro _ ⟨⟨uk, un, ut, ul, uns⟩, rfl, huf⟩
      have hWc2 := fun x => (Heap.at_put_ne W b Z.length x (by omega)).trans hWc
      (all_goals (have X1 := @GV.enc.eq_1; have X2 := @hWc2; (repeat' (first | refine gx ?_ | (refine gd ?_ ?_ <;> (intro hcond; try (exfalso; omega))) | fail)); all_goals try clear X1 X2))
      have e1 := Heap.put_length W b (rdB bs (p2 + 1 + 1)) (by omega)
      exact amidn [(0, .ptr b 0 0), (3, .fsl 7 (encn l)), (4, .int .i64 (kk : Int)), (5, .ptr Z.length 0 0)] _ (by rw [Heap.put_length _ _ _ (by omega)]; omega) sb (heapW_refl _) rfl ⟨⟨uk, un, ut, ul, uns⟩, Z.length, p2 + 1 + 1, rfl, huf, Heap.at_put_same _ _ _, by omega, (Heap.at_put_ne _ _ _ _ (by omega)).trans (Heap.at_put_same _ _ _), by rw [Heap.put_length _ _ _ (by omega)]; omega, by omega, by rw [Heap.put_length _ _ _ (by omega)]; omega, fun c h1 h2 => (Heap.at_put_ne _ _ _ _ (by omega)).trans ((Heap.at_put_ne _ _ _ _ h2).trans (hWo c h1 h2))⟩
    · exact amidn [(0, .ptr b 0 0), (3, .fsl 7 (encn l)), (4, .int .i64 (kk : Int)), (5, .ptr Z.length 0 0)] _ (by omega) sb (heapW_refl _) rfl ⟨⟨vk, vn, vt, vl, vns⟩, Z.length, p2 + 1, rfl, hvf, hWc, by omega, hWb, by omega, by omega, by omega, hWo⟩
  clear hZc hZo1 hZb1 hZo hZb hZl hvf hp21 hp22
  rintro env W ⟨⟨vk, vn, vt, vl, vns⟩, c, p3, rfl, hvf, hWc, hp3, hWb, hWl, hc1, hc2, hWo⟩
  have hWc : W.at c = .row 5 [[.int .i64 vk, .int .i64 vn, .str vt, .fsl 5 (encs vl), .fsl 1 (strs vns)]] := hWc
  (all_goals (have X1 := @hWc; (repeat' (first | refine gx ?_ | (refine gd ?_ ?_ <;> (intro hcond; try (exfalso; omega))) | fail)); all_goals try clear X1))
  refine ard_fcallw rfl ok_49 (args := [.ptr b 0 0, .int .i64 5]) (log := [b]) (r := .int .i64 (pickV bs p3 5)) (ws := [(b, rdB bs (p3 + 1))]) rfl (fun H1 e1 e2 => pick_ok bs 5 p3 b H1 ((e2 b (by simp)).trans hWb) (by omega) hl (by omega) (by decide))
    (by simp [blwL, AV.blw]; omega) (fun q hq => by simp at hq; subst hq; exact ⟨by omega, by rw [hWb]; rfl⟩) (fun q hq => by simp at hq; subst hq; exact ⟨_, _, hWb⟩) rfl (fun x hx => by simp at hx; subst hx; exact ⟨by simp, rfl⟩) rfl rfl ?_
  have h5 := pickV_range bs p3 5
  have h5' := h5.2 (by omega)
  generalize pickV bs p3 5 = z at h5 h5' ⊢
  simp only [Heap.puts]
  have e1 := fun x => Heap.put_length W b x (by omega)
  (have X1 := @hWc; (refine ga ?_); all_goals try clear X1)
  refine ard_bs (strs nam8) rfl rfl rfl ?_
  simp only [e1]
  obtain ⟨V, hV⟩ : ∃ V, W.put b (rdB bs (p3 + 1)) ++ [Blk.tok 8] = V := ⟨_, rfl⟩
  have hVl : V.length = W.length + 1 := by rw [← hV, List.length_append, e1]; rfl
  have hVb : V.at b = rdB bs (p3 + 1) := by rw [← hV, Heap.at_old _ _ (by rw [e1]; omega)]; exact Heap.at_put_same _ _ _
  have hVc : V.at c = .row 5 [[.int .i64 vk, .int .i64 vn, .str vt, .fsl 5 (encs vl), .fsl 1 (strs vns)]] := by rw [← hV, Heap.at_old _ _ (by rw [e1]; omega), Heap.at_put_ne _ _ _ _ (by omega)]; exact hWc
  have hVo : ∀ d, d < H.length → d ≠ b → V.at d = H.at d := fun d h1 h2 => by rw [← hV, Heap.at_old _ _ (by rw [e1]; omega), Heap.at_put_ne _ _ _ _ h2]; exact hWo d h1 h2
  rw [hV]
  refine ard_fcallw rfl ok_50 (args := [.ptr b 0 0, .asl W.length 8 1 (strs nam8)]) (log := [b]) (r := .str (nam8.getD (pickN bs (p3 + 1) 8) [])) (ws := [(b, rdB bs (p3 + 2))]) rfl (fun H1 e1 e2 => of_ok bs nam8 (p3 + 1) b W.length 8 H1 ((e2 b (by simp)).trans hVb) (by omega) hl (by omega) (by decide) (by decide))
    (by simp [blwL, AV.blw]; omega) (fun q hq => by simp at hq; subst hq; exact ⟨by omega, by rw [hVb]; rfl⟩) (fun q hq => by simp at hq; subst hq; exact ⟨_, _, hVb⟩) rfl (fun x hx => by simp at hx; subst hx; exact ⟨by simp, rfl⟩) rfl rfl ?_
  have hsl := nam8_in _ (pickN_lt bs (p3 + 1) 8 (by omega))
  generalize nam8.getD (pickN bs (p3 + 1) 8) [] = s at hsl ⊢
  simp only [Heap.puts]
  have hUc := fun x => (Heap.at_put_ne V b c x (by omega)).trans hVc
  have e2 := fun x => Heap.put_length V b x (by omega)
  (have X1 := @hUc; (refine ga ?_); all_goals try clear X1)
  refine ard_ncall rfl ok_58 (args := [.fsl 7 (encn l), .int .i64 z, .str s, .agg (GV.enc ⟨vk, vn, vt, vl, vns⟩)]) rfl (l5Set_n l z s ⟨vk, vn, vt, vl, vns⟩ (by simp [Len, hl5]) (fun u hu => (hN u hu).1) hsl hvf (fun u hu => (hN u hu).2.1)) rfl rfl (by simp only [List.length_cons, List.length_nil, Nat.zero_add, Nat.reduceAdd]; kernel_rfl) ?_ ?_
  · (refine orderOK_pre 8 [(0, 1), (0, 2), (0, 3), (0, 4), (0, 5), (0, 6), (1, 3), (1, 4), (1, 6), (2, 3), (2, 4), (2, 6), (3, 4), (3, 6), (4, 6), (5, 6)] rfl rfl rfl rfl rfl ?_)
    refine ep ?_; try exact trivial
    all_goals first | (simp; done) | (simp; omega) | skip
  rintro _ _ ⟨rfl, rfl⟩
  obtain ⟨hN2, hl2⟩ := set5_ok hN (by omega) z s ⟨vk, vn, vt, vl, vns⟩ hsl hvf
  generalize set5 l z s ⟨vk, vn, vt, vl, vns⟩ = pr at hN2 hl2 ⊢
  obtain ⟨l2, ok2⟩ := pr
  have hN2 : NOK (15 - kk + 1) l2 := hN2
  have hl2 : l2.length = l.length := hl2
  simp only [mkR, encn_len]
  (all_goals (have X1 := @hUc; (repeat' (first | refine gx ?_ | (refine gd ?_ ?_ <;> (intro hcond; try (exfalso; omega))) | fail)); all_goals try clear X1))
  refine ard_done_of [(0, 1), (0, 2), (0, 3), (0, 4), (0, 5), (0, 6), (1, 3), (1, 4), (1, 6), (2, 3), (2, 4), (2, 6), (3, 4), (3, 6), (4, 6), (5, 6), (9, 10), (10, 11)] rfl rfl rfl rfl ?_ ?_
  · refine ep ?_; try exact trivial
    have o1 : c ≠ b := by omega
    repeat' apply And.intro
    all_goals first | (simp [newWr, o1, o1.symm]; done) | (simp; done) | (simp [newWr]; omega) | (simp; omega) | skip
  (all_goals (have X1 := @hUc; (repeat' (first | refine gx ?_ | (refine gd ?_ ?_ <;> (intro hcond; try (exfalso; omega))) | fail)); all_goals try clear X1))
  exact anextn [(0, .ptr b 0 0), (3, .row (V.put b (rdB bs (p3 + 2))).length 0 l2.length none 7), (4, .int .i64 ((kk - 1 : Nat) : Int))] _ (k' := kk - 1) (by omega) (by simp only [List.length_append, e2]; omega) (by rw [show ((kk - 1 : Nat) : Int) = (kk : Int) - 1 by omega]; simp [subP, Env.get, Weak.refl]) (heapW_refl _) rfl
    ⟨l2, _, none, ⟨by omega, by omega⟩, rfl, by rwa [show 15 - (kk - 1) = 15 - kk + 1 by omega], by rw [e2]; omega, by simp only [List.length_append, e2]; simp, Heap.at_app _ _ 0, p3 + 2, by omega, by rw [show 3 - (kk - 1) = (3 - kk) + 1 by omega]; omega, (Heap.at_old _ _ (by rw [e2]; omega)).trans (Heap.at_put_same _ _ _), by simp only [List.length_append, e2]; omega, fun d h1 h2 => (Heap.at_old _ _ (by rw [e2]; omega)).trans ((Heap.at_put_ne _ _ _ _ h2).trans (hVo d h1 h2))⟩
end Go.Av
set_option linter.unusedVariables false
set_option linter.unusedSimpArgs false
namespace Go.Av
open Go
set_option maxRecDepth 10000
set_option maxHeartbeats 1000000
def ids3 : List Int := [-1, 0, 9]
theorem ids3_in (i : Nat) (h : i < 3) : I64 (ids3.getD i 0) := by
  match i, h with
  | 0, _ => decide
  | 1, _ => decide
  | 2, _ => decide
def tys4 : List (List UInt8) := [[78, 111, 110, 101], [80, 101, 116], [49], [75, 105, 110, 100]]
theorem tys4_in (i : Nat) (h : i < 4) : Len (tys4.getD i []) := by
  match i, h with
  | 0, _ => decide
  | 1, _ => decide
  | 2, _ => decide
  | 3, _ => decide
theorem bor_rowO {H : Heap} {S : List Nat} {b sz off len : Nat} {cap : Option Nat} {es xs : List (List AV)} (hb : b ∈ S) (ha : H.at b = .row sz es) (hl : off + len ≤ es.length) (hx : xs.length = len) (hs : ∀ x ∈ xs, x.length = sz)
    (h : ∀ i j, i < len → j < sz → Bor H S ((es.getD (off + i) []).getD j .junk) ((xs.getD i []).getD j .junk)) : Bor H S (.row b off len cap sz) (.fsl sz xs) := fun C v hH hv => by
  obtain ⟨cb, base, ccap, hφ, rfl, hc, hcap⟩ := hv.row_inv
  obtain ⟨cb', base', g, k1, k2, k3, k4, k5, k6, k7, k8⟩ := hH.row b sz es ha
  rw [hφ] at k1; cases k1
  have hK := KupS_row (S := S) hH hb ha hφ
  have h9 : (off + len) * sz ≤ es.length * sz := Nat.mul_le_mul_right _ hl
  rw [Nat.add_mul] at h9
  have := FRel.fsl (K := KupS C H S) (w := C.w) sz xs cb (base + off * sz) ccap (fun i j => g (off + i) j) (by rw [hK, hx]; omega) (by omega) (fun _ => ⟨k2, k6⟩) hs
    (fun i j hi hj => by
      have := k5 (off + i) j (by omega) hj
      rw [← this]; congr 2; rw [Nat.add_mul]; omega)
    (fun i j hi hj => k7 (off + i) j (by omega) hj) (fun i j hi hj => h i j (by omega) hj C _ hH (k8 (off + i) j (by omega) hj))
  rw [hx] at this
  exact this
theorem bor_rowOf {H : Heap} {S : List Nat} {b sz off : Nat} {cap : Option Nat} {es xs : List (List AV)} (hb : b ∈ S) (ha : H.at b = .row sz es) (hx : xs = es.drop off) (ho : off ≤ es.length) (hs : ∀ x ∈ xs, x.length = sz) (hf : ∀ x ∈ xs, frzL x = some x) : Bor H S (.row b off xs.length cap sz) (.fsl sz xs) := by
  have hl : off + xs.length ≤ es.length := by rw [hx, List.length_drop]; omega
  refine bor_rowO hb ha hl rfl hs fun i j hi hj => ?_
  have e : es.getD (off + i) [] = xs.getD i [] := by rw [hx, List.getD_eq_getElem?_getD, List.getD_eq_getElem?_getD, List.getElem?_drop]
  rw [e]
  exact bor_frz (frzL_at (hf _ (mem_getD hi)) j (by rw [hs _ (mem_getD hi)]; exact hj))
theorem l13AnyNodes_ok (bs : List UInt8) (hl : Len bs) (b p : Nat) (H : Heap) (hb : H.at b = rdB bs p) (hbl : b < H.length) (hp : p ≤ 600000000) :
    FCall P 48 [.ptr b 0 0] H fun r H' => ∃ l : List GN, r = .fsl 7 (encn l) ∧ l.length ≤ 5 ∧ (∀ u ∈ l, u.fits) ∧ RdF H H' b bs p 30000 := by
  refine FCall.give ?_
  refine fcall_walk T_ok ok_48 rfl ?_
  unfold Go.Proofs.Try.f48
  simp only [Option.getD_some, envOf, Nat.zero_add, Nat.reduceAdd]
  (all_goals (have X1 := @hb; (repeat' (first | refine gx ?_ | (refine gd ?_ ?_ <;> (intro hcond; try (exfalso; omega))) | fail)); all_goals try clear X1))
  (have X1 := @hb; ((apply ar_fcall rfl ok_75); (focus exact eva); (focus exact l13Nodes_ok bs hl b p _ hb hbl (by omega)); (focus rfl); (focus rfl)); all_goals try clear X1)
  rintro _ X ⟨l, q, cap, rfl, hl5, hN, hq, hqX, hqr, p1, hp1, hp2, hXb, hXl, hXo⟩
  have hel := encn_len l
  have hbq : b ≠ q := by omega
  (all_goals (have X1 := @hqr; have X2 := @hel; have X3 := @hl5; (repeat' (first | refine gx ?_ | (refine gd ?_ ?_ <;> (intro hcond; try (exfalso; omega))) | fail)); all_goals try clear X1 X2 X3))
  rw [hl5]
  (have X1 := @hqr; have X2 := @hel; have X3 := @hl5; ((apply ar_fcall rfl ok_49); (focus exact eva); (focus exact pick_ok bs 5 p1 b X hXb (by omega) hl (by omega) (by decide)); (focus rfl); (focus rfl)); all_goals try clear X1 X2 X3)
  rintro _ _ ⟨rfl, rfl⟩
  have hk5 := pickN_lt bs p1 5 (by omega)
  rw [show pickV bs p1 5 = ((pickN bs p1 5 : Nat) : Int) from pickN_eq bs p1 5]
  generalize pickN bs p1 5 = k at hk5 ⊢
  have e1 := Heap.put_length X b (rdB bs (p1 + 1)) (by omega)
  (all_goals (have X1 := @hqr; have X2 := @hel; have X3 := @hl5; (repeat' (first | refine gr ?_ | fail)); all_goals try clear X1 X2 X3))
  refine aw_seq_mid (fun env W => ∃ (a : AV) (l : List GN) (p3 : Nat), env = [(3, a)] ∧ l.length ≤ 5 ∧ (∀ u ∈ l, u.fits) ∧ (p ≤ p3 ∧ p3 ≤ p + 30000) ∧ W.at b = rdB bs p3 ∧ X.length ≤ W.length ∧ (∀ c, c < H.length → c ≠ b → W.at c = H.at c) ∧ (∃ off cap es, a = .row q off l.length cap 7 ∧ off ≤ es.length ∧ W.at q = .row 7 es ∧ encn l = es.drop off)) ?_ ?_
  · (all_goals (have X1 := @hqr; have X2 := @hel; have X3 := @hl5; (repeat' (first | refine gx ?_ | (refine gd ?_ ?_ <;> (intro hcond; try (exfalso; omega))) | fail)); all_goals try clear X1 X2 X3))
    (have X1 := @hqr; have X2 := @hel; have X3 := @hl5; ((apply ar_fcall rfl ok_49); (focus exact eva); (focus exact pick_ok bs 16 (p1 + 1) b _ (Heap.at_put_same _ _ _) (by rw [e1]; omega) hl (by omega) (by decide)); (focus rfl); (focus rfl)); all_goals try clear X1 X2 X3)
    rintro _ _ ⟨rfl, rfl⟩
    have hj := pickV_range bs (p1 + 1) 16
    generalize pickV bs (p1 + 1) 16 = j at hj ⊢
    rw [Heap.put_put2]
    obtain ⟨G, hG⟩ : ∃ G, X.put b (rdB bs (p1 + 1 + 1)) = G := ⟨_, rfl⟩
    have hGl : G.length = X.length := by rw [← hG]; exact Heap.put_length _ _ _ (by omega)
    have hGb : G.at b = rdB bs (p1 + 2) := by rw [← hG]; exact Heap.at_put_same _ _ _
    have hGq : G.at q = .row 7 (encn l) := by rw [← hG, Heap.at_put_ne _ _ _ _ (by omega)]; exact hqr
    have hGo : ∀ c, c < H.length → c ≠ b → G.at c = H.at c := fun c h1 h2 => by rw [← hG, Heap.at_put_ne _ _ _ _ h2]; exact hXo c h1 h2
    rw [hG]
    clear hqr
    have hkl : k < l.length := by omega
    obtain ⟨u, hu⟩ : ∃ u, l.getD k default = u := ⟨_, rfl⟩
    have hm : u ∈ l := hu ▸ mem_getD hkl
    have hge := encn_get hkl
    rw [hu] at hge
    have huf := (hN u hm).1
    obtain ⟨uid, uty, ⟨uk, un, ut, ul, uns⟩⟩ := u
    have hset : ∀ (v : GN) (b0 : List UInt8), v.fits → ∀ x ∈ l.set k v, x.fits := fun v _ hv x hx => by
      rcases mem_set hx with rfl | hx
      · exact hv
      · exact (hN x hx).1
    have fin : ∀ (K : Heap) (u' : GN) (p3 : Nat), G.length ≤ K.length → K.at b = rdB bs p3 → (p ≤ p3 ∧ p3 ≤ p + 30000) → (∀ c, c < H.length → c ≠ b → K.at c = H.at c) → u'.fits →
        ∃ (a : AV) (l2 : List GN) (p4 : Nat), ([(3, AV.row q 0 5 cap 7)] : Env) = [(3, a)] ∧ l2.length ≤ 5 ∧ (∀ u ∈ l2, u.fits) ∧ (p ≤ p4 ∧ p4 ≤ p + 30000) ∧ (K.put q (.row 7 ((encn l).set k u'.enc))).at b = rdB bs p4 ∧ X.length ≤ (K.put q (.row 7 ((encn l).set k u'.enc))).length ∧ (∀ c, c < H.length → c ≠ b → (K.put q (.row 7 ((encn l).set k u'.enc))).at c = H.at c) ∧ (∃ off cap es, a = .row q off l2.length cap 7 ∧ off ≤ es.length ∧ (K.put q (.row 7 ((encn l).set k u'.enc))).at q = .row 7 es ∧ encn l2 = es.drop off) :=
      fun K u' p3 k1 k2 k3 k4 k5 => ⟨_, l.set k u', p3, rfl, by simp; omega, hset u' [] k5, k3, (Heap.at_put_ne _ _ _ _ (by omega)).trans k2, by rw [Heap.put_length _ _ _ (by omega)]; omega, fun c h1 h2 => (Heap.at_put_ne _ _ _ _ (by omega)).trans (k4 c h1 h2), 0, cap, _, by rw [List.length_set, hl5], Nat.zero_le _, Heap.at_put_same _ _ _, by rw [encn_set]; rfl⟩
    have hge : (encn l).getD k [] = [.int .i64 uid, .str uty, .int .i64 uk, .int .i64 un, .str ut, .fsl 5 (encs ul), .fsl 1 (strs uns)] := hge
    (all_goals (have X1 := @hGq; have X2 := @hel; have X3 := @hl5; have X4 := @hge; (repeat' (first | refine gg ?_ | (refine gd ?_ ?_ <;> (intro hcond; try (exfalso; omega))) | (refine gc ?_ ?_ <;> intro hcs) | fail)); all_goals try clear X1 X2 X3 X4))
    · -- an id
      have hG1 := (Heap.at_old G [Blk.tok 3] (b := b) (by omega)).trans hGb
      have hz := ids3_in _ (pickN_lt bs (p1 + 2) 3 (by omega))
      (have X1 := @hGq; have X2 := @hel; have X3 := @hl5; have X4 := @hge; ((apply ar_fcall rfl ok_76); (focus exact eva); (focus exact one_ok bs ids3 (p1 + 2) b _ _ _ hG1 (by simp; omega) hl (by omega) (by decide) (by decide)); (focus rfl); (focus rfl)); all_goals try clear X1 X2 X3 X4)
      rintro _ _ ⟨rfl, rfl⟩
      obtain ⟨z, hz'⟩ : ∃ z, ids3.getD (pickN bs (p1 + 2) ids3.length) 0 = z := ⟨_, rfl⟩
      have hz : I64 z := hz' ▸ hz
      rw [hz']
      have g1 := fun x => ((Heap.at_put_ne (G ++ [Blk.tok 3]) b q x (by omega)).trans (Heap.at_old _ _ (by omega))).trans hGq
      (all_goals (have X1 := @g1; have X2 := @hel; have X3 := @hl5; have X4 := @hge; (repeat' (first | refine gx ?_ | (refine gd ?_ ?_ <;> (intro hcond; try (exfalso; omega))) | fail)); all_goals try clear X1 X2 X3 X4))
      have e2 := Heap.put_length (G ++ [Blk.tok 3]) b (rdB bs (p1 + 2 + 1)) (by simp; omega)
      have e3 : (G ++ [Blk.tok 3]).length = G.length + 1 := by simp
      refine amidn [(3, .row q 0 5 cap 7)] _ (Nat.le_trans (Nat.le_of_eq e1) (by rw [Heap.put_length _ _ _ (by omega)]; omega)) sb (heapW_refl _) rfl (fin _ ⟨z, uty, ⟨uk, un, ut, ul, uns⟩⟩ (p1 + 2 + 1) (by omega) (Heap.at_put_same _ _ _) (by omega) (fun c h1 h2 => (Heap.at_put_ne _ _ _ _ h2).trans ((Heap.at_old _ _ (by omega)).trans (hGo c h1 h2))) ⟨hz, huf.2.1, huf.2.2⟩)
    · -- a type
      have hG1 := (Heap.at_old G [Blk.tok 4] (b := b) (by omega)).trans hGb
      have hz := tys4_in _ (pickN_lt bs (p1 + 2) 4 (by omega))
      (have X1 := @hel; ((apply ar_fcall rfl ok_50); (focus exact eva); (focus exact of_ok bs tys4 (p1 + 2) b _ _ _ hG1 (by simp; omega) hl (by omega) (by decide) (by decide)); (focus rfl); (focus rfl)); all_goals try clear X1)
      rintro _ _ ⟨rfl, rfl⟩
      obtain ⟨z, hz'⟩ : ∃ z, tys4.getD (pickN bs (p1 + 2) tys4.length) [] = z := ⟨_, rfl⟩
      have hz : Len z := hz' ▸ hz
      rw [hz']
      have g1 := fun x => ((Heap.at_put_ne (G ++ [Blk.tok 4]) b q x (by omega)).trans (Heap.at_old _ _ (by omega))).trans hGq
      (all_goals (have X1 := @g1; have X2 := @hel; have X3 := @hl5; have X4 := @hge; (repeat' (first | refine gx ?_ | (refine gd ?_ ?_ <;> (intro hcond; try (exfalso; omega))) | fail)); all_goals try clear X1 X2 X3 X4))
      have e2 := Heap.put_length (G ++ [Blk.tok 4]) b (rdB bs (p1 + 2 + 1)) (by simp; omega)
      have e3 : (G ++ [Blk.tok 4]).length = G.length + 1 := by simp
      refine amidn [(3, .row q 0 5 cap 7)] _ (Nat.le_trans (Nat.le_of_eq e1) (by rw [Heap.put_length _ _ _ (by omega)]; omega)) sb (heapW_refl _) rfl (fin _ ⟨uid, z, ⟨uk, un, ut, ul, uns⟩⟩ (p1 + 2 + 1) (by omega) (Heap.at_put_same _ _ _) (by omega) (fun c h1 h2 => (Heap.at_put_ne _ _ _ _ h2).trans ((Heap.at_old _ _ (by omega)).trans (hGo c h1 h2))) ⟨huf.1, hz, huf.2.2⟩)
    · -- a value
      (have X1 := @hel; ((apply ar_fcall rfl ok_51); (focus exact eva); (focus exact l13AnyValue_ok bs hl b (p1 + 2) G hGb (by omega) (by omega)); (focus rfl); (focus rfl)); all_goals try clear X1)
      rintro _ K ⟨⟨vk, vn, vt, vl, vns⟩, hvf, rfl, p4, hp41, hp42, hKb, hKl, hKo⟩
      have g1 := (hKo q (by omega) (by omega)).trans hGq
      (all_goals (have X1 := @g1; have X2 := @hel; have X3 := @hl5; have X4 := @hge; have X5 := @GV.enc.eq_1; (repeat' (first | refine gx ?_ | (refine gd ?_ ?_ <;> (intro hcond; try (exfalso; omega))) | fail)); all_goals try clear X1 X2 X3 X4 X5))
      refine amidn [(3, .row q 0 5 cap 7)] _ (Nat.le_trans (Nat.le_of_eq e1) (by rw [Heap.put_length _ _ _ (by omega)]; omega)) sb (heapW_refl _) rfl (fin _ ⟨uid, uty, ⟨vk, vn, vt, vl, vns⟩⟩ p4 hKl hKb (by omega) (fun c h1 h2 => (hKo c (by omega) h2).trans (hGo c h1 h2)) ⟨huf.1, huf.2.1, hvf.1⟩)
    · rcases cap with _ | cc
      · exact amidn [(3, .row q 1 (l.drop 1).length none 7)] _ (by rw [hGl, e1]; exact Nat.le_refl _) (by simp [subP, Env.get, Weak.refl, hl5]) (heapW_refl _) rfl ⟨_, l.drop 1, p1 + 2, rfl, by simp; omega, fun u hu => (hN u (List.mem_of_mem_drop hu)).1, by omega, hGb, by omega, hGo, 1, _, encn l, rfl, by omega, hGq, by simp [encn, List.map_drop]⟩
      · exact amidn [(3, .row q 1 (l.drop 1).length (some (cc - 1)) 7)] _ (by rw [hGl, e1]; exact Nat.le_refl _) (by simp [subP, Env.get, Weak.refl, hl5]) (heapW_refl _) rfl ⟨_, l.drop 1, p1 + 2, rfl, by simp; omega, fun u hu => (hN u (List.mem_of_mem_drop hu)).1, by omega, hGb, by omega, hGo, 1, _, encn l, rfl, by omega, hGq, by simp [encn, List.map_drop]⟩
    · exact amidn [(3, .row q 0 l.length cap 7)] _ (by rw [hGl, e1]; exact Nat.le_refl _) (by simp [subP, Env.get, Weak.refl, hl5]) (heapW_refl _) rfl ⟨_, l, p1 + 2, rfl, by omega, fun u hu => (hN u hu).1, by omega, hGb, by omega, hGo, 0, cap, encn l, rfl, by omega, hGq, rfl⟩
  clear hqr hel hN hl5 l
  rintro env W ⟨_, l, p3, rfl, hl5, hlf, hp3, hWb, hWl, hWo, off, cap2, es, rfl, ho, hWq, hes⟩
  (all_goals (have X1 := @hWq; (repeat' (first | refine gx ?_ | (refine gd ?_ ?_ <;> (intro hcond; try (exfalso; omega))) | fail)); all_goals try clear X1))
  refine ⟨.fsl 7 (encn l), [q], ?_, by simpa using hq, l, rfl, hl5, hlf, p3, hp3.1, hp3.2, ?_, ?_, fun c h1 h2 => ?_⟩
  · have := bor_rowOf (S := [q]) (cap := cap2) (List.mem_singleton.2 rfl) hWq hes ho (encn_all7 l) (encn_frzm l)
    rwa [encn_len] at this
  · rw [Heap.at_kill, if_neg (by simp; omega)]; exact hWb
  · rw [Heap.kill, puts_len _ _ (by intro x hx; simp at hx; subst hx; show q < _; omega)]; omega
  · rw [Heap.at_kill, if_neg (by simp; omega)]; exact hWo c h1 h2
end Go.Av
set_option linter.unusedVariables false
set_option linter.unusedSimpArgs false
namespace Go.Av
open Go
set_option maxRecDepth 10000
set_option maxHeartbeats 1000000
def nam4 : List (List UInt8) := [[110, 97, 109, 101], [97, 103, 101], [110, 101, 119], [49]]
theorem nam4_in (i : Nat) (h : i < 4) : Len (nam4.getD i []) := by
  match i, h with
  | 0, _ => decide
  | 1, _ => decide
  | 2, _ => decide
  | 3, _ => decide
def DrS (r : AV) : Prop := ∃ (l : List GN) (id : Int) (s : List UInt8) (v : GV), r = .tup [.fsl 7 (encn l), .int .i64 id, .str s, .agg v.enc] ∧ l.length ≤ 5 ∧ (∀ u ∈ l, u.fits) ∧ Len s ∧ v.fits
theorem DrawStoreSet_ok (bs : List UInt8) (hl : Len bs) : QCall P 19 [.fsl 1 (byAV bs)] DrS := by
  refine qcall_of_fcall (fcall_walk T_ok ok_19 rfl ?_)
  unfold Go.Proofs.Try.f19
  simp only [Option.getD_some, envOf, Nat.zero_add, Nat.reduceAdd]
  repeat' (first | refine gx ?_ | (refine gd ?_ ?_ <;> (intro hcond; try (exfalso; omega))) | fail)
  (apply ar_fcall rfl ok_47); (focus exact eva); (focus exact l1Open_ok bs hl _); (focus rfl); (focus rfl)
  rintro _ _ ⟨rfl, bs', hl', rfl⟩
  repeat' (first | refine gx ?_ | (refine gd ?_ ?_ <;> (intro hcond; try (exfalso; omega))) | fail)
  (apply ar_fcall rfl ok_48); (focus exact eva); (focus exact l13AnyNodes_ok bs' hl' 1 0 _ rfl (by simp) (by omega)); (focus rfl); (focus rfl)
  rintro _ X ⟨l, rfl, hl5, hlf, p1, hp1, hp2, hXb, hXl, hXo⟩
  have hX0 := hXo 0 (by simp) (by omega)
  have hXl : 2 ≤ X.length := by simpa using hXl
  repeat' (first | refine gx ?_ | (refine gd ?_ ?_ <;> (intro hcond; try (exfalso; omega))) | fail)
  (apply ar_fcall rfl ok_49); (focus exact eva); (focus exact pick_ok bs' 7 p1 1 X hXb (by omega) hl' (by omega) (by decide)); (focus rfl); (focus rfl)
  rintro _ _ ⟨rfl, rfl⟩
  have h7 := pickV_range bs' p1 7
  have h7' := h7.2 (by omega)
  generalize pickV bs' p1 7 = z at h7 h7' ⊢
  have e1 := Heap.put_length X 1 (rdB bs' (p1 + 1)) (by omega)
  repeat' (first | refine gx ?_ | (refine gd ?_ ?_ <;> (intro hcond; try (exfalso; omega))) | fail)
  have hG1 := (Heap.at_old (X.put 1 (rdB bs' (p1 + 1))) [Blk.tok 4] (b := 1) (by omega)).trans (Heap.at_put_same _ _ _)
  (apply ar_fcall rfl ok_50); (focus exact eva); (focus exact of_ok bs' nam4 (p1 + 1) 1 _ _ _ hG1 (by simp; omega) hl' (by omega) (by decide) (by decide)); (focus rfl); (focus rfl)
  rintro _ _ ⟨rfl, rfl⟩
  have hs := nam4_in _ (pickN_lt bs' (p1 + 1) 4 (by omega))
  obtain ⟨s, hs'⟩ : ∃ s, nam4.getD (pickN bs' (p1 + 1) nam4.length) [] = s := ⟨_, rfl⟩
  have hs : Len s := hs' ▸ hs
  rw [hs']
  repeat' (first | refine gx ?_ | (refine gd ?_ ?_ <;> (intro hcond; try (exfalso; omega))) | fail)
  have e2 := Heap.put_length (X.put 1 (rdB bs' (p1 + 1)) ++ [Blk.tok 4]) 1 (rdB bs' (p1 + 1 + 1)) (by simp; omega)
  have e3 : (X.put 1 (rdB bs' (p1 + 1)) ++ [Blk.tok 4]).length = X.length + 1 := by simp [e1]
  (apply ar_fcall rfl ok_51); (focus exact eva); (focus exact l13AnyValue_ok bs' hl' 1 (p1 + 2) _ (Heap.at_put_same _ _ _) (by rw [e2]; omega) (by omega)); (focus rfl); (focus rfl)
  rintro _ K ⟨⟨vk, vn, vt, vl, vns⟩, hvf, rfl, p4, hp41, hp42, hKb, hKl, hKo⟩
  have hK0 := (hKo 0 (by omega) (by omega)).trans ((Heap.at_put_ne _ _ _ _ (by omega)).trans ((Heap.at_old _ _ (by omega)).trans ((Heap.at_put_ne _ _ _ _ (by omega)).trans hX0)))
  have hfin := fun x => Heap.at_put_same K 0 x
  (all_goals (have X1 := @GV.enc.eq_1; have X2 := @hK0; have X3 := @hfin; (repeat' (first | refine gx ?_ | (refine gd ?_ ?_ <;> (intro hcond; try (exfalso; omega))) | fail)); all_goals try clear X1 X2 X3))
  exact ⟨_, rfl, l, _, s, ⟨vk, vn, vt, vl, vns⟩, rfl, hl5, hlf, hs, hvf.1⟩
end Go.Av
set_option linter.unusedVariables false
set_option linter.unusedSimpArgs false
namespace Go.Av
open Go
set_option maxRecDepth 10000
set_option maxHeartbeats 1000000
theorem all_range {n : Nat} {p : Nat → Bool} : (List.range n).all p = true ↔ ∀ i, i < n → p i = true := by
  simp [List.all_eq_true]
theorem okNd_iff {id k n : Int} {ty t : List UInt8} {l : List GV} {ns : List (List UInt8)} : okNd ⟨id, ty, ⟨k, n, t, l, ns⟩⟩ = true ↔
    0 ≤ id ∧ id ≤ 2147483647 ∧ nameOK ty = true ∧ k = 5 ∧ n = 0 ∧ t = [] ∧ ns.length = l.length ∧ l.length ≤ 12 ∧ once ns = true ∧ ∀ i, i < l.length → okV false 3 (l.getD i default) = true := by
  unfold okNd
  show (decide (0 ≤ id) && decide (id ≤ 2147483647) && nameOK ty && (k == 5) && okV false (3 + 1) ⟨k, n, t, l, ns⟩) = true ↔ _
  rw [okV_succ]
  simp only [Bool.and_eq_true, decide_eq_true_eq, beq_iff_eq, all_range, Bool.false_or]
  constructor
  · rintro ⟨⟨⟨⟨h1, h2⟩, h3⟩, rfl⟩, ⟨⟨h5, h6⟩, h7⟩, h8⟩
    simp [plainV] at h5
    exact ⟨h1, h2, h3, rfl, h5.1.1.1, h5.1.1.2, by omega, by omega, h7, h8⟩
  · rintro ⟨h1, h2, h3, rfl, rfl, rfl, h7, h8, h9, h10⟩
    refine ⟨⟨⟨⟨h1, h2⟩, h3⟩, rfl⟩, ⟨⟨?_, by omega⟩, h9⟩, h10⟩
    simp [plainV]; omega
theorem once_iff {ns : List (List UInt8)} : once ns = true ↔ ∀ i, i < ns.length → nameOK (ns.getD i []) = true ∧ ∀ k, k < i → ns.getD k [] ≠ ns.getD i [] := by
  unfold once
  rw [all_range]
  refine forall_congr' fun i => forall_congr' fun _ => ?_
  unfold onceC
  simp only [Bool.and_eq_true, all_range, bne_iff_ne]
theorem once_ne {ns : List (List UInt8)} (h : once ns = true) {i j : Nat} (hi : i < ns.length) (hj : j < ns.length) (hne : i ≠ j) : ns.getD i [] ≠ ns.getD j [] := by
  rcases Nat.lt_or_ge i j with h1 | h1
  · exact (once_iff.1 h j hj).2 i h1
  · exact fun e => (once_iff.1 h i hi).2 j (by omega) e.symm
theorem once_idx {ns : List (List UInt8)} (h : once ns = true) {j : Nat} (hj : j < ns.length) : idxI ns (fun x => ns.getD j [] == x) = j :=
  idxI_found (d := []) hj (beq_self_eq_true _) fun k hk => by
    rw [beq_eq_false_iff_ne]
    exact fun e => (once_iff.1 h j hj).2 k hk e.symm
theorem getD_app1 {α : Type} {l : List α} {i : Nat} {x d : α} (h : i < l.length) : (l ++ [x]).getD i d = l.getD i d := by
  simp [List.getD_eq_getElem?_getD, List.getElem?_append_left h]
theorem getD_app2 {α : Type} {l : List α} {x d : α} : (l ++ [x]).getD l.length d = x := by
  simp [List.getD_eq_getElem?_getD]
/-- what setting a cell of a node makes of it -/
structure CellSet (u u' : GN) (s : List UInt8) (v : GV) : Prop where
  id : u'.id = u.id
  ty : u'.ty = u.ty
  ok : okNd u' = true
  idx : ∃ p : Nat, idxI u'.cells.ns (fun x => s == x) = p ∧ p < u'.cells.l.length ∧ u'.cells.l.getD p default = v ∧ setCell u' p v = u'
  rest : ∀ j, j < u.cells.ns.length → u.cells.ns.getD j [] ≠ s → cellG u' (u.cells.ns.getD j []) = u.cells.l.getD j default
theorem cellG_at {id : Int} {ty : List UInt8} {k n : Int} {t : List UInt8} {l : List GV} {ns : List (List UInt8)} {s : List UInt8} {p : Nat} (h : idxI ns (fun x => s == x) = p) : cellG ⟨id, ty, ⟨k, n, t, l, ns⟩⟩ s = l.getD p default := by
  unfold cellG
  show (if 0 ≤ idxI ns (fun x => s == x) then l.getD (idxI ns (fun x => s == x)).toNat default else zeroV) = _
  rw [h, if_pos (by omega)]; rfl
theorem cell_set {u : GN} {s : List UInt8} {v : GV} (hu : okNd u = true) (hv : okV false 3 v = true) {p : Nat} (hp : idxI u.cells.ns (fun x => s == x) = p) : CellSet u (setCell u p v) s v := by
  obtain ⟨id, ty, ⟨k, n, t, l, ns⟩⟩ := u
  have hu0 := hu
  obtain ⟨h1, h2, h3, h4, h5, h6, h7, h8, h9, h10⟩ := okNd_iff.1 hu
  have hp : idxI ns (fun x => s == x) = p := hp
  have hpl : p < ns.length ∧ s = ns.getD p [] := by
    rcases idxI_cases ns (fun x => s == x) [] with ⟨h, _⟩ | ⟨i, ha, hb, hc, _⟩
    · omega
    · obtain rfl : i = p := by omega
      exact ⟨hb, eq_of_beq hc⟩
  have key : okNd ⟨id, ty, ⟨k, n, t, l.set p v, ns⟩⟩ = true := okNd_iff.2 ⟨h1, h2, h3, h4, h5, h6, by rw [List.length_set]; exact h7, by rw [List.length_set]; exact h8, h9, fun i hi => by
    rw [List.length_set] at hi
    rw [getD_set _ _ _ _ _ (by omega)]
    split
    · exact hv
    · exact h10 i hi⟩
  refine ⟨rfl, rfl, key, ⟨p, hp, ?_, ?_, ?_⟩, fun j hj hne => ?_⟩
  · show p < (l.set p v).length
    rw [List.length_set]; omega
  · show (l.set p v).getD p default = v
    rw [getD_set _ _ _ _ _ (by omega), if_pos rfl]
  · show (⟨id, ty, ⟨k, n, t, (l.set p v).set p v, ns⟩⟩ : GN) = ⟨id, ty, ⟨k, n, t, l.set p v, ns⟩⟩
    rw [List.set_set]
  · have hj : j < ns.length := hj
    have hne : ns.getD j [] ≠ s := hne
    show cellG ⟨id, ty, ⟨k, n, t, l.set p v, ns⟩⟩ (ns.getD j []) = l.getD j default
    rw [cellG_at (once_idx h9 hj), getD_set _ _ _ _ _ (by omega), if_neg]
    rintro rfl
    exact hne hpl.2.symm
theorem cell_add {u : GN} {s : List UInt8} {v : GV} (hu : okNd u = true) (hs : nameOK s = true) (hv : okV false 3 v = true) (hp : idxI u.cells.ns (fun x => s == x) < 0) (hl : u.cells.ns.length < 12) : CellSet u (addCell u s v) s v := by
  obtain ⟨id, ty, ⟨k, n, t, l, ns⟩⟩ := u
  obtain ⟨h1, h2, h3, h4, h5, h6, h7, h8, h9, h10⟩ := okNd_iff.1 hu
  have hp : idxI ns (fun x => s == x) < 0 := hp
  have hl : ns.length < 12 := hl
  have hno : ∀ j, j < ns.length → ns.getD j [] ≠ s := by
    rcases idxI_cases ns (fun x => s == x) [] with ⟨_, h⟩ | ⟨i, ha, _⟩
    · exact fun j hj e => by have := h j hj; rw [e] at this; simp at this
    · omega
  have honce : once (ns ++ [s]) = true := once_iff.2 fun i hi => by
    simp only [List.length_append, List.length_singleton] at hi
    rcases Nat.lt_or_ge i ns.length with h | h
    · rw [getD_app1 h]
      refine ⟨(once_iff.1 h9 i h).1, fun k hk => ?_⟩
      rw [getD_app1 (by omega)]
      exact (once_iff.1 h9 i h).2 k hk
    · obtain rfl : i = ns.length := by omega
      rw [getD_app2]
      refine ⟨hs, fun k hk => ?_⟩
      rw [getD_app1 hk]
      exact hno k hk
  have hidx : idxI (ns ++ [s]) (fun x => s == x) = (ns.length : Int) := by
    have := once_idx honce (j := ns.length) (by simp)
    rwa [getD_app2] at this
  have key : okNd ⟨id, ty, ⟨k, n, t, l ++ [v], ns ++ [s]⟩⟩ = true := okNd_iff.2 ⟨h1, h2, h3, h4, h5, h6, by simp [h7], by simp; omega, honce, fun i hi => by
    simp only [List.length_append, List.length_singleton] at hi
    rcases Nat.lt_or_ge i l.length with h | h
    · rw [getD_app1 h]; exact h10 i h
    · obtain rfl : i = l.length := by omega
      rw [getD_app2]; exact hv⟩
  refine ⟨rfl, rfl, key, ⟨ns.length, hidx, ?_, ?_, ?_⟩, fun j hj hne => ?_⟩
  · show ns.length < (l ++ [v]).length
    simp; omega
  · show (l ++ [v]).getD ns.length default = v
    rw [h7, getD_app2]
  · show (⟨id, ty, ⟨k, n, t, (l ++ [v]).set ns.length v, ns ++ [s]⟩⟩ : GN) = ⟨id, ty, ⟨k, n, t, l ++ [v], ns ++ [s]⟩⟩
    rw [h7, List.set_append_right _ _ (Nat.le_refl _)]; simp
  · have hj : j < ns.length := hj
    show cellG ⟨id, ty, ⟨k, n, t, l ++ [v], ns ++ [s]⟩⟩ (ns.getD j []) = l.getD j default
    have := once_idx honce (j := j) (by simp; omega)
    rw [getD_app1 hj] at this
    rw [cellG_at this, getD_app1 (by omega)]
end Go.Av
set_option linter.unusedVariables false
set_option linter.unusedSimpArgs false
namespace Go.Av
open Go
set_option maxRecDepth 10000
set_option maxHeartbeats 1000000
theorem storeOK_iff {l : List GN} : storeOK l = true ↔ (∀ i, i < l.length → okNd (l.getD i default) = true ∧ (i = 0 ∨ (l.getD (i - 1) default).id < (l.getD i default).id)) ∧ 1 ≤ l.length ∧ l.length ≤ 12 ∧ (l.getD 0 default).id = 0 ∧ (l.getD 0 default).ty = queryB := by
  unfold storeOK
  simp only [Bool.and_eq_true, all_range, decide_eq_true_eq, beq_iff_eq, nodeC, Bool.or_eq_true]
  constructor
  · rintro ⟨⟨⟨h1, h2, h3⟩, h4⟩, h5⟩
    exact ⟨h1, by omega, by omega, h4, h5⟩
  · rintro ⟨h1, h2, h3, h4, h5⟩
    exact ⟨⟨⟨h1, by omega, by omega⟩, h4⟩, h5⟩
theorem ids_lt {l : List GN} (h : ∀ i, i < l.length → i = 0 ∨ (l.getD (i - 1) default).id < (l.getD i default).id) : ∀ (k i : Nat), i + k + 1 < l.length → (l.getD i default).id < (l.getD (i + k + 1) default).id
  | 0, i, hi => by
    have := h (i + 0 + 1) hi
    simpa using this
  | k + 1, i, hi => by
    have h1 := ids_lt h k i (by omega)
    have h2 := h (i + (k + 1) + 1) hi
    rcases h2 with h2 | h2
    · omega
    · rw [show i + (k + 1) + 1 - 1 = i + k + 1 by omega] at h2
      omega
theorem ids_ne {l : List GN} (h : storeOK l = true) {i j : Nat} (hi : i < l.length) (hj : j < l.length) (hne : i ≠ j) : (l.getD i default).id ≠ (l.getD j default).id := by
  have h1 := fun i hi => ((storeOK_iff.1 h).1 i hi).2
  rcases Nat.lt_or_ge i j with h2 | h2
  · have := ids_lt h1 (j - i - 1) i (by omega)
    rw [show i + (j - i - 1) + 1 = j by omega] at this
    omega
  · have := ids_lt h1 (i - j - 1) j (by omega)
    rw [show j + (i - j - 1) + 1 = i by omega] at this
    omega
theorem ids_idx {l : List GN} (h : storeOK l = true) {i : Nat} (hi : i < l.length) : idxI l (fun n => n.id == (l.getD i default).id) = i :=
  idxI_found (d := default) hi (beq_self_eq_true _) fun j hj => by
    rw [beq_eq_false_iff_ne]
    exact ids_ne h (by omega) hi (by omega)
theorem getN_at {l : List GN} (h : storeOK l = true) {i : Nat} (hi : i < l.length) : getN l (l.getD i default).id = l.getD i default := by
  unfold getN
  rw [ids_idx h hi, if_pos (by omega)]; rfl
theorem setN_true {l : List GN} {id : Int} {s : List UInt8} {v : GV} (h : storeOK l = true) (hs : (setN l id s v).2 = true) : ∃ (i : Nat) (u' : GN), i < l.length ∧ (l.getD i default).id = id ∧ (setN l id s v).1 = l.set i u' ∧ CellSet (l.getD i default) u' s v ∧ nameOK s = true ∧ okV false 3 v = true := by
  rw [setN_eq h] at hs ⊢
  unfold set5 at hs ⊢
  split at hs
  · cases hs
  rename_i h1
  rw [if_neg h1]
  have h2 : ¬ idxI l (fun n => n.id == id) < 0 := fun h => h1 (.inl h)
  have h3 : nameOK s = true := by
    rcases Bool.eq_false_or_eq_true (nameOK s) with h | h
    · exact h
    · exact absurd (.inr (.inl h)) h1
  have h4 : okV false 3 v = true := by
    rcases Bool.eq_false_or_eq_true (okV false 3 v) with h | h
    · exact h
    · exact absurd (.inr (.inr h)) h1
  rcases idxI_cases l (fun n => n.id == id) default with ⟨h5, _⟩ | ⟨i, h5, h6, h7, _⟩
  · omega
  rw [h5] at hs ⊢
  have h8 := ((storeOK_iff.1 h).1 i h6).1
  have h7 : (l.getD i default).id = id := by simpa using h7
  simp only [Int.toNat_natCast] at hs ⊢
  split at hs
  · rename_i h9
    rw [if_pos h9]
    obtain ⟨p, hp⟩ : ∃ p : Nat, idxI (l.getD i default).cells.ns (fun x => s == x) = p := ⟨_, (Int.toNat_of_nonneg h9).symm⟩
    rw [hp]
    exact ⟨i, _, h6, h7, rfl, cell_set h8 h4 hp, h3, h4⟩
  · rename_i h9
    rw [if_neg h9]
    split at hs
    · cases hs
    · rename_i h10
      rw [if_neg h10]
      exact ⟨i, _, h6, h7, rfl, cell_add h8 h3 h4 (by omega) (by omega), h3, h4⟩
theorem setN_false {l : List GN} {id : Int} {s : List UInt8} {v : GV} (h : storeOK l = true) (hs : (setN l id s v).2 = false) : (setN l id s v).1 = l := by
  rw [setN_eq h] at hs ⊢
  unfold set5 at hs ⊢
  split at hs
  · rename_i h1; rw [if_pos h1]
  rename_i h1
  rw [if_neg h1]
  split at hs
  · cases hs
  rename_i h2
  rw [if_neg h2]
  split at hs
  · rename_i h3; rw [if_pos h3]
  · cases hs
section law
variable {l : List GN} {i : Nat} {u' : GN} {s : List UInt8} {v : GV} (h : storeOK l = true) (hi : i < l.length) (hc : CellSet (l.getD i default) u' s v)
include h hi hc
theorem set_id (j : Nat) : ((l.set i u').getD j default).id = (l.getD j default).id := by
  have h0 := h
  rw [getD_set _ _ _ _ _ hi]
  split
  · rename_i e; subst e; exact hc.id
  · rfl
theorem set_ok : storeOK (l.set i u') = true := by
  obtain ⟨h1, h2, h3, h4, h5⟩ := storeOK_iff.1 h
  refine storeOK_iff.2 ⟨fun j hj => ⟨?_, ?_⟩, by rw [List.length_set]; exact h2, by rw [List.length_set]; exact h3, by rw [set_id h hi hc]; exact h4, ?_⟩
  · rw [getD_set _ _ _ _ _ hi]
    split
    · exact hc.ok
    · exact (h1 j (by simpa using hj)).1
  · rw [set_id h hi hc, set_id h hi hc]
    exact (h1 j (by simpa using hj)).2
  · rw [getD_set _ _ _ _ _ hi]
    split
    · rename_i e; subst e; rw [hc.ty]; exact h5
    · exact h5
theorem set_get : storeGet (l.set i u') (l.getD i default).id s = v := by
  have h1 := set_ok h hi hc
  have h2 := getN_at h1 (i := i) (by simpa using hi)
  rw [set_id h hi hc, getD_set _ _ _ _ _ hi, if_pos rfl] at h2
  unfold storeGet
  rw [if_pos h1, h2]
  obtain ⟨p, hp, hpl, hpv, _⟩ := hc.idx
  obtain ⟨a, b, ⟨c, d, e, f, g⟩⟩ := u'
  have hp : idxI g (fun x => s == x) = p := hp
  rw [cellG_at hp]; exact hpv
theorem set_other {j q : Nat} (hj : j < l.length) (hq : q < (l.getD j default).cells.ns.length) (hne : (l.getD j default).id ≠ (l.getD i default).id ∨ (l.getD j default).cells.ns.getD q [] ≠ s) :
    storeGet (l.set i u') (l.getD j default).id ((l.getD j default).cells.ns.getD q []) = (l.getD j default).cells.l.getD q default := by
  have h1 := set_ok h hi hc
  have h2 := getN_at h1 (i := j) (by simpa using hj)
  rw [set_id h hi hc, getD_set _ _ _ _ _ hi] at h2
  unfold storeGet
  rw [if_pos h1, h2]
  split
  · rename_i e
    subst e
    exact hc.rest q hq (hne.resolve_left fun h => h rfl)
  · have h3 := ((storeOK_iff.1 h).1 j hj).1
    generalize l.getD j default = u at h3 hq ⊢
    obtain ⟨a, b, ⟨c, d, e, f, g⟩⟩ := u
    obtain ⟨_, _, _, _, _, _, _, _, h9, _⟩ := okNd_iff.1 h3
    exact cellG_at (once_idx h9 hq)
theorem set_again (hs : nameOK s = true) (hv : okV false 3 v = true) : setN (l.set i u') (l.getD i default).id s v = (l.set i u', true) := by
  have h1 := set_ok h hi hc
  rw [setN_eq h1]
  unfold set5
  have h2 := ids_idx h1 (i := i) (by simpa using hi)
  rw [set_id h hi hc] at h2
  have hgd : (l.set i u').getD i default = u' := by rw [getD_set _ _ _ _ _ hi, if_pos rfl]
  rw [h2, Int.toNat_natCast, hgd]
  obtain ⟨p, hp, hpl, hpv, hps⟩ := hc.idx
  rw [if_neg (by rw [hs, hv]; simp), hp, if_pos (by omega), Int.toNat_natCast, hps, List.set_set]
end law
theorem okV_size {w : Bool} : ∀ {d : Nat} {v : GV}, okV w d v = true → v.size ≤ szR d
  | 0, v, h => by cases h
  | d + 1, ⟨k, n, t, l, ns⟩, h => by
    have h9 := plain_len (okV_plain h)
    rw [okV_succ] at h
    simp only [Bool.and_eq_true, all_range] at h
    have h1 : ∀ u ∈ l, u.size ≤ szR d := fun u hu => by
      obtain ⟨j, hj, rfl⟩ := List.getElem_of_mem hu
      have := okV_size (h.2 j hj)
      rwa [List.getD_eq_getElem?_getD, List.getElem?_eq_getElem hj] at this
    have h2 := sizes_le h1
    have h3 : l.length ≤ 12 := h9.2
    have h4 : l.length * szR d ≤ 12 * szR d := Nat.mul_le_mul_right _ h3
    simp only [GV.size, szR]; omega
theorem okNd_size {u : GN} (h : okNd u = true) : u.cells.size ≤ 1000000000 ∧ ∀ x ∈ u.cells.l, x.size ≤ 1000000000 := by
  obtain ⟨id, ty, ⟨k, n, t, l, ns⟩⟩ := u
  obtain ⟨_, _, _, _, _, _, h7, h8, _, h10⟩ := okNd_iff.1 h
  have h1 : ∀ u ∈ l, u.size ≤ szR 3 := fun u hu => by
    obtain ⟨j, hj, rfl⟩ := List.getElem_of_mem hu
    have := okV_size (h10 j hj)
    rwa [List.getD_eq_getElem?_getD, List.getElem?_eq_getElem hj] at this
  have h3 : szR 3 = 3770 := by decide
  have h2 := sizes_le h1
  have h4 : l.length * szR 3 ≤ 12 * szR 3 := Nat.mul_le_mul_right _ h8
  rw [h3] at h1 h2 h4
  exact ⟨by show GV.size ⟨k, n, t, l, ns⟩ ≤ _; simp only [GV.size]; omega, fun x hx => Nat.le_trans (h1 x hx) (by decide)⟩
end Go.Av
