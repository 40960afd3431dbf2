/- The program's stores: get and set, within bounds of their sizes. -/
import Derived.Test.YtfdafamjgnbecaaSea
import Derived.Test.YtfdafamjgnbecaaAvd
set_option linter.unusedVariables false
set_option linter.unusedSimpArgs false
set_option linter.unusedVariables false
set_option linter.unusedSimpArgs false
namespace Go.Av
open Go
set_option maxRecDepth 10000
set_option maxHeartbeats 1000000
theorem Heap.put_put2 : ∀ (H : Heap) (b : Nat) (x y : Blk), (H.put b x).put b y = H.put b y
  | [], 0, x, y => rfl
  | [], n + 1, x, y => by simp only [Heap.put]; rw [Heap.put_put2 [] n x y]
  | z :: H, 0, x, y => rfl
  | z :: H, n + 1, x, y => by simp only [Heap.put]; rw [Heap.put_put2 H n x y]
theorem Heap.put_old : ∀ (H L : Heap) (b : Nat) (x : Blk), b < H.length → Heap.put (H ++ L) b x = H.put b x ++ L
  | [], L, b, x, h => by simp at h
  | y :: H, L, 0, x, h => rfl
  | y :: H, L, b + 1, x, h => by
    simp only [List.cons_append, Heap.put]
    rw [Heap.put_old H L b x (by simpa using h)]
theorem Heap.at_putA {H : Heap} {b : Nat} (h : b < H.length) (x : Blk) (L : Heap) : Heap.at (H.put b x ++ L) b = x := by
  rw [Heap.at_old _ _ (by rw [Heap.put_length H b x h]; exact h), Heap.at_put_same]
theorem Heap.at_putB {H : Heap} {b : Nat} (h : b < H.length) (x : Blk) (L : Heap) (i : Nat) : Heap.at (H.put b x ++ L) (H.length + i) = L.at i := by
  have := Heap.at_app (H.put b x) L i
  rwa [Heap.put_length H b x h] at this
theorem Heap.at_putB0 {H : Heap} {b : Nat} (h : b < H.length) (x : Blk) (L : Heap) : Heap.at (H.put b x ++ L) H.length = L.at 0 := Heap.at_putB h x L 0
theorem Heap.put_putA {H : Heap} {b : Nat} (h : b < H.length) (x y : Blk) (L : Heap) : Heap.put (H.put b x ++ L) b y = H.put b y ++ L := by
  rw [Heap.put_old _ _ _ _ (by rw [Heap.put_length H b x h]; exact h), Heap.put_put2]
theorem Heap.put_putB {H : Heap} {b : Nat} (h : b < H.length) (x y : Blk) (L : Heap) (i : Nat) : Heap.put (H.put b x ++ L) (H.length + i) y = H.put b x ++ Heap.put L i y := by
  have := Heap.put_app (H.put b x) L i y
  rwa [Heap.put_length H b x h] at this
theorem put0_ok (u : GN) (id : Int) (b : Nat) (H : Heap) (hb : H.at b = .row 2 [[.nsl 1, .nsl 7]]) (hbl : b < H.length) (hf : u.fits) :
    FCall P 80 [.ptr b 0 0, .int .i64 id, .agg u.enc] H fun r H' => r = .bool true ∧ ∃ tk tr, H'.at b = .row 2 [[.asl tk 1 1 [[.int .i64 id]], .asl tr 1 7 [u.enc]]] ∧ H'.at tk = .tok 1 ∧ H'.at tr = .tok 1 ∧ tk ≠ tr ∧ tk ≠ b ∧ tr ≠ b ∧ H.length ≤ tk ∧ H.length ≤ tr ∧ tk < H'.length ∧ tr < H'.length ∧ H.length ≤ H'.length ∧ ∀ c, c < H.length → c ≠ b → H'.at c = H.at c := by
  refine fcall_walk T_ok ok_80 rfl ?_
  unfold Go.Proofs.Try.f80
  simp only [Option.getD_some, envOf, Nat.zero_add, Nat.reduceAdd]
  obtain ⟨uid, uty, ⟨uk, un, ut, ul, uns⟩⟩ := u
  have hb1 : ∀ G, Heap.at (H ++ G) b = .row 2 [[.nsl 1, .nsl 7]] := fun G => (Heap.at_old _ _ hbl).trans hb
  have p1 := fun L x => Heap.put_old H L b x hbl
  have p2 := fun x L => Heap.at_putA hbl x L
  have p3 := fun x L i => Heap.at_putB hbl x L i
  have p4 := fun x L => Heap.at_putB0 hbl x L
  have p5 := fun x y L => Heap.put_putA hbl x y L
  have p6 := fun x y L i => Heap.put_putB hbl x y L i
  have p7 := fun x => Heap.put_length H b x hbl
  (all_goals (have X1 := @GN.enc.eq_1; have X2 := @GV.enc.eq_1; have X3 := @hb1; have X4 := @p1; have X5 := @p2; have X6 := @p3; have X7 := @p4; have X8 := @p5; have X9 := @p6; have X10 := @p7; (repeat' (first | refine gg ?_ | (refine gd ?_ ?_ <;> (intro hcond; try (exfalso; omega))) | (refine gc ?_ ?_ <;> intro hcs) | fail)); all_goals try clear X1 X2 X3 X4 X5 X6 X7 X8 X9 X10))
  refine ard_done_of [(0, 1), (0, 2), (0, 3), (0, 4), (0, 5), (0, 6), (0, 7), (1, 5), (1, 6), (2, 5), (2, 6), (3, 5), (3, 6), (4, 5), (4, 6)] rfl rfl rfl rfl ?_ ?_
  · refine ep ?_; try exact trivial
    repeat' apply And.intro
    all_goals first | (simp; done) | (simp; omega) | skip
  (all_goals (have X1 := @GN.enc.eq_1; have X2 := @GV.enc.eq_1; have X3 := @hb1; have X4 := @p1; have X5 := @p2; have X6 := @p3; have X7 := @p4; have X8 := @p5; have X9 := @p6; have X10 := @p7; (repeat' (first | refine gg ?_ | (refine gd ?_ ?_ <;> (intro hcond; try (exfalso; omega))) | (refine gc ?_ ?_ <;> intro hcs) | fail)); all_goals try clear X1 X2 X3 X4 X5 X6 X7 X8 X9 X10))
  refine ⟨rfl, H.length + 2, H.length + 4, p2 _ _, p3 _ _ _, p3 _ _ _, by omega, by omega, by omega, by omega, by omega, ?_, ?_, ?_, fun c hc hcb => ?_⟩
  · simp [p7]
  · simp [p7]
  · simp [p7]
  · rw [Heap.at_old _ _ (by rw [p7]; exact hc), Heap.at_put_ne _ _ _ _ hcb]
end Go.Av
set_option linter.unusedVariables false
set_option linter.unusedSimpArgs false
namespace Go.Av
open Go
set_option maxRecDepth 10000
set_option maxHeartbeats 1000000
theorem put1_ok (l : List GN) (u : GN) (id : Int) (b tk tr : Nat) (H : Heap) (hb : H.at b = .row 2 [[.asl tk l.length 1 (keysAV l), .asl tr l.length 7 (encn l)]]) (hbl : b < H.length) (hl : Len l) (hpos : 0 < l.length) (hf : u.fits) (htk : H.at tk = .tok l.length) (htr : H.at tr = .tok l.length) (hne : tk ≠ tr) :
    FCall P 80 [.ptr b 0 0, .int .i64 id, .agg u.enc] H fun r H' => r = .bool (decide ((l.getD (l.length - 1) default).id < id)) ∧ H'.at b = .row 2 [[.asl tk (l.length + 1) 1 (keysAV l ++ [[.int .i64 id]]), .asl tr (l.length + 1) 7 (encn l ++ [u.enc])]] ∧ H'.at tk = .tok (l.length + 1) ∧ H'.at tr = .tok (l.length + 1) ∧ H.length ≤ H'.length ∧ ∀ c, c < H.length → c ≠ b → c ≠ tk → c ≠ tr → H'.at c = H.at c := by
  refine fcall_walk T_ok ok_80 rfl ?_
  unfold Go.Proofs.Try.f80
  simp only [Option.getD_some, envOf, Nat.zero_add, Nat.reduceAdd]
  obtain ⟨uid, uty, ⟨uk, un, ut, ul, uns⟩⟩ := u
  have hb1 : ∀ G, Heap.at (H ++ G) b = _ := fun G => (Heap.at_old _ _ hbl).trans hb
  have hlast : ((l.length : Int) - 1).toNat = l.length - 1 := by omega
  have hpos' : (0 : Int) < (l.length : Int) := by omega
  have hkl : (keysAV l).getD (l.length - 1) [] = [.int .i64 (l.getD (l.length - 1) default).id] := keys_get (by omega)
  have hz : ((l.length : Int) == 0) = false := beq_eq_false_iff_ne.2 (by omega)
  have tkl : tk < H.length := at_lt (by rw [htk]; simp)
  have trl : tr < H.length := at_lt (by rw [htr]; simp)
  have ntk : tk ≠ b := fun h => by rw [h, hb] at htk; cases htk
  have ntr : tr ≠ b := fun h => by rw [h, hb] at htr; cases htr
  (all_goals (have X1 := @GN.enc.eq_1; have X2 := @GV.enc.eq_1; have X3 := @keys_len; have X4 := @encn_len; have X5 := @hb1; have X6 := @hlast; have X7 := @hkl; have X8 := @hz; (repeat' (first | refine gg ?_ | (refine gd ?_ ?_ <;> (intro hcond; try (exfalso; omega))) | (refine gc ?_ ?_ <;> intro hcs) | fail)); all_goals try clear X1 X2 X3 X4 X5 X6 X7 X8))
  have gl : ∃ k, (H ++ [Blk.row 7 [[AV.int IntKind.i64 uid, AV.str uty, AV.int IntKind.i64 uk, AV.int IntKind.i64 un, AV.str ut, AV.fsl 5 (encs ul), AV.fsl 1 (strs uns)]], Blk.tok 1]).length = k ∧ k = H.length + 2 := ⟨_, rfl, by simp⟩
  have gn : (H ++ [Blk.row 7 [[AV.int IntKind.i64 uid, AV.str uty, AV.int IntKind.i64 uk, AV.int IntKind.i64 un, AV.str ut, AV.fsl 5 (encs ul), AV.fsl 1 (strs uns)]], Blk.tok 1]).at H.length = .row 7 [[AV.int IntKind.i64 uid, AV.str uty, AV.int IntKind.i64 uk, AV.int IntKind.i64 un, AV.str ut, AV.fsl 5 (encs ul), AV.fsl 1 (strs uns)]] := Heap.at_app H _ 0
  have gtk := Heap.at_old H [Blk.row 7 [[AV.int IntKind.i64 uid, AV.str uty, AV.int IntKind.i64 uk, AV.int IntKind.i64 un, AV.str ut, AV.fsl 5 (encs ul), AV.fsl 1 (strs uns)]], Blk.tok 1] tkl
  have gtr := Heap.at_old H [Blk.row 7 [[AV.int IntKind.i64 uid, AV.str uty, AV.int IntKind.i64 uk, AV.int IntKind.i64 un, AV.str ut, AV.fsl 5 (encs ul), AV.fsl 1 (strs uns)]], Blk.tok 1] trl
  have gb := Heap.at_old H [Blk.row 7 [[AV.int IntKind.i64 uid, AV.str uty, AV.int IntKind.i64 uk, AV.int IntKind.i64 un, AV.str ut, AV.fsl 5 (encs ul), AV.fsl 1 (strs uns)]], Blk.tok 1] hbl
  have gold : ∀ c, c < H.length → (H ++ [Blk.row 7 [[AV.int IntKind.i64 uid, AV.str uty, AV.int IntKind.i64 uk, AV.int IntKind.i64 un, AV.str ut, AV.fsl 5 (encs ul), AV.fsl 1 (strs uns)]], Blk.tok 1]).at c = H.at c := fun c hc => Heap.at_old _ _ hc
  generalize (H ++ [Blk.row 7 [[AV.int IntKind.i64 uid, AV.str uty, AV.int IntKind.i64 uk, AV.int IntKind.i64 un, AV.str ut, AV.fsl 5 (encs ul), AV.fsl 1 (strs uns)]], Blk.tok 1]) = G at *
  obtain ⟨k, gl, rfl⟩ := gl
  rw [htk] at gtk; rw [htr] at gtr; rw [hb] at gb
  have s1 : ∀ x, (G.put tk x).at b = G.at b := fun x => Heap.at_put_ne _ _ _ _ (fun h => ntk h.symm)
  rw [gb] at s1
  (all_goals (have X1 := @GN.enc.eq_1; have X2 := @GV.enc.eq_1; have X3 := @keys_len; have X4 := @encn_len; have X5 := @hlast; have X6 := @hkl; have X7 := @hz; have X8 := @gb; have X9 := @gtk; have X10 := @s1; (repeat' (first | refine gg ?_ | (refine gd ?_ ?_ <;> (intro hcond; try (exfalso; omega))) | (refine gc ?_ ?_ <;> intro hcs) | fail)); all_goals try clear X1 X2 X3 X4 X5 X6 X7 X8 X9 X10))
  have gl2 : ((G.put tk (Blk.tok (l.length + 1))).put b (Blk.row 2 [[AV.asl tk (l.length + 1) 1 (keysAV l ++ [[AV.int IntKind.i64 id]]), AV.asl tr l.length 7 (encn l)]])).length = G.length := by
    rw [Heap.put_length _ _ _ (by rw [Heap.put_length _ _ _ (by omega)]; omega), Heap.put_length _ _ _ (by omega)]
  have e0 : ∀ c, c ≠ b → c ≠ tk → ((G.put tk (Blk.tok (l.length + 1))).put b (Blk.row 2 [[AV.asl tk (l.length + 1) 1 (keysAV l ++ [[AV.int IntKind.i64 id]]), AV.asl tr l.length 7 (encn l)]])).at c = G.at c := fun c h1 h2 => by
    rw [Heap.at_put_ne _ _ _ _ h1, Heap.at_put_ne _ _ _ _ h2]
  have e1 := Heap.at_put_same (G.put tk (Blk.tok (l.length + 1))) b (Blk.row 2 [[AV.asl tk (l.length + 1) 1 (keysAV l ++ [[AV.int IntKind.i64 id]]), AV.asl tr l.length 7 (encn l)]])
  have e2 : ((G.put tk (Blk.tok (l.length + 1))).put b (Blk.row 2 [[AV.asl tk (l.length + 1) 1 (keysAV l ++ [[AV.int IntKind.i64 id]]), AV.asl tr l.length 7 (encn l)]])).at tk = Blk.tok (l.length + 1) := by
    rw [Heap.at_put_ne _ _ _ _ ntk, Heap.at_put_same]
  generalize ((G.put tk (Blk.tok (l.length + 1))).put b (Blk.row 2 [[AV.asl tk (l.length + 1) 1 (keysAV l ++ [[AV.int IntKind.i64 id]]), AV.asl tr l.length 7 (encn l)]])) = M at *
  have e3 := (e0 tr ntr (fun h => hne h.symm)).trans gtr
  have e4 := (e0 H.length (by omega) (by omega)).trans gn
  have a1 : ∀ L, Heap.at (M ++ L) tr = .tok l.length := fun L => (Heap.at_old _ _ (by omega)).trans e3
  have a2 : ∀ L, Heap.at (M ++ L) b = _ := fun L => (Heap.at_old _ _ (by omega)).trans e1
  have a3 : ∀ L x, Heap.put (M ++ L) tr x = M.put tr x ++ L := fun L x => Heap.put_old _ _ _ _ (by omega)
  have a4 : ∀ L x, Heap.at (M.put tr x ++ L) b = _ := fun L x => (Heap.at_old _ _ (by rw [Heap.put_length _ _ _ (by omega)]; omega)).trans ((Heap.at_put_ne _ _ _ _ (fun h => ntr h.symm)).trans e1)
  have a5 : ∀ L x y, Heap.put (M.put tr x ++ L) b y = (M.put tr x).put b y ++ L := fun L x y => Heap.put_old _ _ _ _ (by rw [Heap.put_length _ _ _ (by omega)]; omega)
  (all_goals (have X1 := @GN.enc.eq_1; have X2 := @GV.enc.eq_1; have X3 := @keys_len; have X4 := @encn_len; have X5 := @hlast; have X6 := @hkl; have X7 := @hz; have X8 := @e1; have X9 := @e3; have X10 := @e4; have X11 := @a1; have X12 := @a2; have X13 := @a3; have X14 := @a4; have X15 := @a5; (repeat' (first | refine gg ?_ | (refine gd ?_ ?_ <;> (intro hcond; try (exfalso; omega))) | (refine gc ?_ ?_ <;> intro hcs) | fail)); all_goals try clear X1 X2 X3 X4 X5 X6 X7 X8 X9 X10 X11 X12 X13 X14 X15))
  refine ard_done_of [(0, 1), (0, 2), (0, 3), (0, 4), (0, 5), (0, 6), (0, 7), (1, 5), (1, 6), (2, 5), (2, 6), (3, 5), (3, 6), (4, 5), (4, 6)] rfl rfl rfl rfl ?_ ?_
  · refine ep ?_; try exact trivial
    repeat' apply And.intro
    all_goals first | (simp; done) | (simp; omega) | skip
  (all_goals (have X1 := @GN.enc.eq_1; have X2 := @GV.enc.eq_1; have X3 := @keys_len; have X4 := @encn_len; have X5 := @hlast; have X6 := @hkl; have X7 := @hz; have X8 := @e1; have X9 := @e3; have X10 := @e4; have X11 := @a1; have X12 := @a2; have X13 := @a3; have X14 := @a4; have X15 := @a5; (repeat' (first | refine gg ?_ | (refine gd ?_ ?_ <;> (intro hcond; try (exfalso; omega))) | (refine gc ?_ ?_ <;> intro hcs) | fail)); all_goals try clear X1 X2 X3 X4 X5 X6 X7 X8 X9 X10 X11 X12 X13 X14 X15))
  have hlen3 : (M.put tr (Blk.tok (l.length + 1))).length = M.length := Heap.put_length _ _ _ (by omega)
  have hlen4 : ∀ x, ((M.put tr (Blk.tok (l.length + 1))).put b x).length = M.length := fun x => by rw [Heap.put_length _ _ _ (by omega), hlen3]
  refine ⟨rfl, ?_, ?_, ?_, ?_, fun c h1 h2 h3 h4 => ?_⟩
  · exact (Heap.at_old _ _ (by rw [hlen4]; omega)).trans (Heap.at_put_same _ _ _)
  · rw [Heap.at_old _ _ (by rw [hlen4]; omega), Heap.at_put_ne _ _ _ _ ntk, Heap.at_put_ne _ _ _ _ hne, e2]
  · rw [Heap.at_old _ _ (by rw [hlen4]; omega), Heap.at_put_ne _ _ _ _ ntr, Heap.at_put_same]
  · simp only [List.length_append, hlen4]; omega
  · rw [Heap.at_old _ _ (by rw [hlen4]; omega), Heap.at_put_ne _ _ _ _ h2, Heap.at_put_ne _ _ _ _ h4, e0 c h2 h3, gold c h1]
end Go.Av
set_option linter.unusedVariables false
set_option linter.unusedSimpArgs false
namespace Go.Av
open Go
set_option maxRecDepth 10000
set_option maxHeartbeats 1000000
/-! one address, one list -/
theorem fsl_open {K : Nat → Nat} {w : World} {sz : Nat} {xs : List (List AV)} {v : Value} (h : FRel K w (.fsl sz xs) v) : ∃ a cap, v = .slice a xs.length cap ∧ (xs.length = 0 ∨ ∃ (blk off : Nat) (g : Nat → Nat → Value), a = some ⟨blk, off, none⟩ ∧
      (∀ i j, i < xs.length → j < sz → w.cell? ⟨blk, off + (i * sz + j), none⟩ = some (g i j)) ∧ ∀ i j, i < xs.length → j < sz → FRel K w ((xs.getD i []).getD j .junk) (g i j)) := by
  cases h with
  | fsl0 _ ad cap => exact ⟨ad, cap, rfl, .inl rfl⟩
  | fsl _ xs' blk off cap g hK hcp hp hs hc ho h => exact ⟨_, cap, rfl, .inr ⟨blk, off, g, rfl, hc, h⟩⟩
theorem fsl_same {K : Nat → Nat} {w : World} {sz : Nat} {xs ys : List (List AV)} {v : Value} (h1 : FRel K w (.fsl sz xs) v) (h2 : FRel K w (.fsl sz ys) v) :
    xs.length = ys.length ∧ ∀ i j, i < xs.length → j < sz → ∃ x, FRel K w ((xs.getD i []).getD j .junk) x ∧ FRel K w ((ys.getD i []).getD j .junk) x := by
  obtain ⟨a, cap, rfl, h⟩ := fsl_open h1
  obtain ⟨a', cap', e, h'⟩ := fsl_open h2
  injection e with e1 e2 e3
  have e2 : xs.length = ys.length := by exact_mod_cast e2
  refine ⟨e2, fun i j hi hj => ?_⟩
  rcases h with h | ⟨blk, off, g, rfl, hc, h⟩
  · omega
  rcases h' with h' | ⟨blk', off', g', e, hc', h'⟩
  · omega
  rw [e] at e1
  cases e1
  have k1 := hc i j hi hj
  have k2 := hc' i j (by omega) hj
  rw [k1] at k2
  exact ⟨g i j, h i j hi hj, by rw [Option.some.inj k2]; exact h' i j (by omega) hj⟩
theorem FRel.int2 {K : Nat → Nat} {w : World} {k k' : IntKind} {m n : Int} {v : Value} (h1 : FRel K w (.int k m) v) (h2 : FRel K w (.int k' n) v) : m = n := by
  cases h1; cases h2; rfl
theorem FRel.str_open {K : Nat → Nat} {w : World} {s : List UInt8} {v : Value} (h : FRel K w (.str s) v) : ∃ x : ByteArray, v = .string x ∧ x.data.toList = s := by
  cases h with
  | str _ x h => exact ⟨x, rfl, h⟩
theorem FRel.str2 {K : Nat → Nat} {w : World} {s t : List UInt8} {v : Value} (h1 : FRel K w (.str s) v) (h2 : FRel K w (.str t) v) : s = t := by
  obtain ⟨x, rfl, h⟩ := h1.str_open
  obtain ⟨y, e, h'⟩ := h2.str_open
  injection e with e
  rw [← h, ← h', e]
theorem list_ext {α : Type} (d : α) : ∀ {l l' : List α}, l.length = l'.length → (∀ i, i < l.length → l.getD i d = l'.getD i d) → l = l'
  | [], [], _, _ => rfl
  | [], _ :: _, h, _ => by simp at h
  | _ :: _, [], h, _ => by simp at h
  | x :: l, y :: l', h, hh => by
    have h0 := hh 0 (by simp)
    simp only [List.getD_cons_zero] at h0
    have h1 : l = l' := list_ext d (by simpa using h) fun i hi => by simpa using hh (i + 1) (by simpa using hi)
    rw [h0, h1]
theorem strs_same {K : Nat → Nat} {w : World} {l l' : List (List UInt8)} {v : Value} (h1 : FRel K w (.fsl 1 (strs l)) v) (h2 : FRel K w (.fsl 1 (strs l')) v) : l = l' := by
  obtain ⟨k1, k2⟩ := fsl_same h1 h2
  rw [strs_len, strs_len] at k1
  refine list_ext [] k1 fun i hi => ?_
  obtain ⟨x, a, b⟩ := k2 i 0 (by rw [strs_len]; exact hi) (by omega)
  rw [strs_get hi] at a
  rw [strs_get (by omega)] at b
  exact a.str2 b
theorem encs_same' (n : Nat) (ih : ∀ (u v : GV), u.size < n → ∀ K w, (∀ j, j < 5 → ∃ x, FRel K w (u.enc.getD j .junk) x ∧ FRel K w (v.enc.getD j .junk) x) → u = v) (l l' : List GV) (hl : sizes l ≤ n) {K : Nat → Nat} {w : World} {v : Value} (h1 : FRel K w (.fsl 5 (encs l)) v) (h2 : FRel K w (.fsl 5 (encs l')) v) : l = l' := by
  obtain ⟨k1, k2⟩ := fsl_same h1 h2
  rw [encs_len, encs_len] at k1
  refine list_ext default k1 fun i hi => ih _ _ ?_ K w fun j hj => ?_
  · have := sizes_mem (mem_getD (d := default) hi); omega
  · have := k2 i j (by rw [encs_len]; exact hi) hj
    rwa [encs_get hi, encs_get (by omega)] at this
theorem enc_same : ∀ (n : Nat) (u v : GV), u.size < n → ∀ K w, (∀ j, j < 5 → ∃ x, FRel K w (u.enc.getD j .junk) x ∧ FRel K w (v.enc.getD j .junk) x) → u = v
  | 0, _, _, h => by omega
  | n + 1, ⟨k, m, t, l, ns⟩, ⟨k', m', t', l', ns'⟩, h => fun K w hh => by
    obtain ⟨x0, a0, b0⟩ := hh 0 (by omega)
    obtain ⟨x1, a1, b1⟩ := hh 1 (by omega)
    obtain ⟨x2, a2, b2⟩ := hh 2 (by omega)
    obtain ⟨x3, a3, b3⟩ := hh 3 (by omega)
    obtain ⟨x4, a4, b4⟩ := hh 4 (by omega)
    have e0 := FRel.int2 a0 b0
    have e1 := FRel.int2 a1 b1
    have e2 := FRel.str2 a2 b2
    have e4 := strs_same a4 b4
    have e3 := encs_same' n (enc_same n) l l' (by simp only [GV.size] at h; omega) a3 b3
    rw [e0, e1, e2, e3, e4]
theorem encs_same {l l' : List GV} {K : Nat → Nat} {w : World} {v : Value} (h1 : FRel K w (.fsl 5 (encs l)) v) (h2 : FRel K w (.fsl 5 (encs l')) v) : l = l' :=
  encs_same' (sizes l) (fun u v h => enc_same _ u v h) l l' (Nat.le_refl _) h1 h2
theorem encs_all5 (l : List GV) : ∀ x ∈ encs l, x.length = 5 := fun x hx => by
  rw [encs_eq] at hx; obtain ⟨v, _, rfl⟩ := List.mem_map.1 hx; exact enc_len v
theorem flat_len (l : List GV) : (encs l).flatten.length = l.length * 5 := by rw [flatten_len _ 5 (encs_all5 l), encs_len]
theorem span_same {l l' : List GV} (h0 : 0 < l.length) (hl : l.length = l'.length) {K : Nat → Nat} {w : World} {v : Value} (h1 : FRel K w (.fptr (encs l).flatten) v) (h2 : FRel K w (.fptr (encs l').flatten) v) : l = l' := by
  obtain ⟨a, rfl, _⟩ := h1.fptr_at (by rw [flat_len]; omega)
  have k1 := FRel.of_fptr (encs_all5 l) (by omega) (by rw [encs_len]; exact h0) h1
  have k2 := FRel.of_fptr (encs_all5 l') (by omega) (by rw [encs_len]; omega) h2
  rw [encs_len] at k1 k2
  rw [← hl] at k2
  exact encs_same k1 k2

theorem spanOf_ok (l : List GV) (h0 : 0 < l.length) (hl : Len l) : PCall P 63 [.fsl 5 (encs l)] (.agg [.fptr (encs l).flatten, .int .i64 l.length]) := by
  refine pcall_of_fcall (fcall_walk T_ok ok_63 rfl ?_)
  unfold Go.Proofs.Try.f63
  simp only [Option.getD_some, envOf, Nat.zero_add, Nat.reduceAdd]
  refine aw_seq ?_
  (all_goals (have X1 := @encs_len; (repeat' (first | refine gr ?_ | fail)); all_goals try clear X1))
  refine aw_seq ?_
  refine aw_seq ?_
  (all_goals (have X1 := @encs_len; (repeat' (first | refine gr ?_ | fail)); all_goals try clear X1))
  (have X1 := @encs_len; ((refine gd ?_ ?_ <;> (intro hcond; try (exfalso; omega)))); all_goals try clear X1)
  refine aw_skip ?_
  refine at_n ?_
  refine aw_seq ?_
  refine aw_reg ?_
  (have X1 := @encs_len; (refine ga ?_); all_goals try clear X1)
  refine ar_sem (sem_idx0 T_ok (s := 0) (d := ⟨1, 24, false, [.nsl 5], .slice 47⟩) (de := ⟨5, 80, true, [.int .i64 0, .int .i64 0, .str [], .nsl 5, .nsl 1], .struct [(0, 3), (1, 3), (2, 9), (3, 44), (4, 45)]⟩) rfl rfl rfl rfl (by decide) rfl rfl (by rw [encs_len]; exact h0)) rfl rfl rfl ?_
  (all_goals (have X1 := @encs_len; (repeat' (first | refine gx ?_ | (refine gd ?_ ?_ <;> (intro hcond; try (exfalso; omega))) | fail)); all_goals try clear X1))
  rfl
end Go.Av
set_option linter.unusedVariables false
set_option linter.unusedSimpArgs false
namespace Go.Av
open Go
set_option maxRecDepth 10000
set_option maxHeartbeats 1000000
theorem strs_all (ns : List (List UInt8)) : ∀ y ∈ strs ns, y.length = 1 := fun y hy => by
  simp [strs] at hy; obtain ⟨s, _, rfl⟩ := hy; rfl
theorem strs_frz : ∀ ns : List (List UInt8), frzLL (strs ns) = some (strs ns)
  | [] => rfl
  | s :: r => by
    have := strs_frz r
    simp only [strs, List.map_cons, frzLL, frzL, frz] at this ⊢
    rw [this]
theorem frzL_at : ∀ {l r : List AV}, frzL l = some r → ∀ i, i < l.length → frz (l.getD i .junk) = some (r.getD i .junk)
  | [], r, h, i, hi => by simp at hi
  | a :: l, r, h, i, hi => by
    simp only [frzL] at h
    split at h
    · rename_i b hb
      split at h
      · rename_i r' hr
        cases h
        cases i with
        | zero => simpa using hb
        | succ i =>
          have := frzL_at hr i (by simpa using hi)
          simpa using this
      · cases h
    · cases h
theorem bor_rowf {H : Heap} {S : List Nat} {b sz : Nat} {cap : Option Nat} {es : List (List AV)} (hb : b ∈ S) (ha : H.at b = .row sz es) (hs : ∀ x ∈ es, x.length = sz) (hf : ∀ x ∈ es, frzL x = some x) : Bor H S (.row b 0 es.length cap sz) (.fsl sz es) :=
  bor_row hb ha rfl rfl hs fun i j hi hj => bor_frz (frzL_at (hf _ (mem_getD hi)) j (by rw [hs _ (mem_getD hi)]; exact hj))
theorem strs_frzm (ns : List (List UInt8)) : ∀ x ∈ strs ns, frzL x = some x := fun y hy => by
  simp [strs] at hy; obtain ⟨s, _, rfl⟩ := hy; rfl
theorem encs_frzm (l : List GV) : ∀ x ∈ encs l, frzL x = some x := fun y hy => by
  rw [encs_eq] at hy; obtain ⟨v, _, rfl⟩ := List.mem_map.1 hy; exact enc_frz v
theorem copyTextsF_ok (ns : List (List UInt8)) (hl : Len ns) : PCall P 103 [.fsl 1 (strs ns)] (.fsl 1 (strs ns)) := by
  refine pcall_of_bor (fcall_walk T_ok ok_103 rfl ?_)
  unfold Go.Proofs.Try.f103
  simp only [Option.getD_some, envOf, Nat.zero_add, Nat.reduceAdd]
  have hall := strs_all ns
  have htk : (strs ns).take ns.length = strs ns := List.take_of_length_le (by rw [strs_len]; exact Nat.le_refl _)
  (all_goals (have X1 := @strs_len; have X2 := @hall; have X3 := @htk; (repeat' (first | refine gx ?_ | (refine gd ?_ ?_ <;> (intro hcond; try (exfalso; omega))) | fail)); all_goals try clear X1 X2 X3))
  · have : ns = [] := List.eq_nil_of_length_eq_zero (by omega)
    subst this
    exact ⟨[], bor_frz rfl⟩
  · simp only [List.take_zero, List.nil_append, Nat.min_self]
    rw [List.drop_of_length_le (by simp), List.append_nil]
    refine ⟨[0], ?_⟩
    have := bor_rowf (H := [.row 1 (strs ns)]) (S := [0]) (cap := some ns.length) (b := 0) (by simp) rfl (strs_all ns) (strs_frzm ns)
    rwa [strs_len] at this
/-! the chain of lists that are being copied -/
def Chain (H : Heap) : AV → List (List GV) → List Nat → Prop
  | up, [], ids => up = .nilp ∧ ids = []
  | up, l :: rest, ids => ∃ b c up' ids', up = .ptr b 0 0 ∧ H.at b = .row 4 [[.fptr (encs l).flatten, .int .i64 l.length, .row c 0 l.length (some l.length) 5, up']] ∧ (b < H.length ∧ c < H.length) ∧ 0 < l.length ∧ Len l ∧ ids = b :: ids' ∧ Chain H up' rest ids'
theorem Chain.mono {H H' : Heap} : ∀ {ls : List (List GV)} {up : AV} {ids : List Nat}, Chain H up ls ids → H.length ≤ H'.length → (∀ b ∈ ids, H'.at b = H.at b) → Chain H' up ls ids
  | [], up, ids, h, _, _ => h
  | l :: ls, up, ids, ⟨b, c, up', ids', h1, h2, h3, h4, h5, h6, h7⟩, hl, hh => by
    subst h6
    exact ⟨b, c, up', ids', h1, (hh b (by simp)).trans h2, ⟨by omega, by omega⟩, h4, h5, rfl, h7.mono hl fun c hc => hh c (by simp [hc])⟩
theorem Chain.cell {H : Heap} {ls : List (List GV)} {up : AV} {ids : List Nat} (h : Chain H up ls ids) : up.isCell = true := by
  cases ls with
  | nil => rw [h.1]; rfl
  | cons l ls => obtain ⟨b, m, up', ids', h1, _⟩ := h; rw [h1]; rfl
theorem Chain.blw {H : Heap} {ls : List (List GV)} {up : AV} {ids : List Nat} (h : Chain H up ls ids) : up.blw H.length = true := by
  cases ls with
  | nil => rw [h.1]; rfl
  | cons l ls => obtain ⟨b, m, up', ids', h1, _, h3, _⟩ := h; rw [h1]; simpa [AV.blw] using h3.1
theorem Chain.lt {H : Heap} : ∀ {ls : List (List GV)} {up : AV} {ids : List Nat}, Chain H up ls ids → ∀ b ∈ ids, b < H.length
  | [], up, ids, h, b, hb => by rw [h.2] at hb; cases hb
  | l :: ls, up, ids, ⟨b, c, up', ids', h1, h2, h3, h4, h5, h6, h7⟩, d, hd => by
    subst h6
    rcases List.mem_cons.1 hd with rfl | hd
    · exact h3.1
    · exact h7.lt d hd
theorem Chain.rows {H : Heap} : ∀ {ls : List (List GV)} {up : AV} {ids : List Nat}, Chain H up ls ids → ∀ b ∈ ids, (b < H.length ∧ (H.at b).blw H.length = true) ∧ ∃ sz es, H.at b = .row sz es
  | [], up, ids, h, b, hb => by rw [h.2] at hb; cases hb
  | l :: ls, up, ids, ⟨b, c, up', ids', h1, h2, h3, h4, h5, h6, h7⟩, d, hd => by
    subst h6
    rcases List.mem_cons.1 hd with rfl | hd
    · have := h7.blw
      refine ⟨⟨h3.1, ?_⟩, _, _, h2⟩
      rw [h2]
      simp [Blk.blw, blwL, AV.blw, this, h3.2]
    · exact h7.rows d hd
end Go.Av
set_option linter.unusedVariables false
set_option linter.unusedSimpArgs false
namespace Go.Av
open Go
set_option maxRecDepth 10000
set_option maxHeartbeats 1000000
theorem solid_of_cell {a : AV} (h : a.isCell = true) : a.solid = true := by cases a <;> first | rfl | (simp [AV.isCell] at h)
theorem cells_of_cell {a : AV} (h : a.isCell = true) : a.cells = [a] := by cases a <;> first | rfl | (simp [AV.isCell] at h)
theorem getD_mid {α : Type} {x y : List α} {e d : α} {i : Nat} (h : x.length = i) : (x ++ e :: y).getD i d = e := by
  subst h; simp [List.getD_eq_getElem?_getD]
theorem set_mid {α : Type} {x y : List α} {e e' : α} {i : Nat} (h : x.length = i) : (x ++ e :: y).set i e' = x ++ e' :: y := by
  subst h; simp
theorem P_span : SpanT P 102 93 47 3 where
  fs := ⟨_, _, rfl, by decide, by decide, rfl, rfl, rfl, rfl⟩
  held := by kernel_rfl
  ptr := rfl
  num := rfl
  size := ⟨_, rfl, by decide⟩
theorem copyWithinF_ok (v : GV) (hf : v.fits) (H : Heap) (up : AV) (ls : List (List GV)) (log : List Nat) (hC : Chain H up ls log) (hsz : ∀ m ∈ ls, v.size ≤ sizes m)
    (ih : ∀ (u : GV) (H : Heap) (up : AV) (ls : List (List GV)) (log : List Nat), u.size < v.size → u.fits → Chain H up ls log → (∀ m ∈ ls, u.size ≤ sizes m) →
      FCall P 85 [.agg u.enc, up] H fun r H' => r = .agg u.enc ∧ ∃ N, H' = H ++ N) :
    FCall P 85 [.agg v.enc, up] H fun r H' => r = .agg v.enc ∧ ∃ N, H' = H ++ N := by
  obtain ⟨k, x, t, l, ns⟩ := v
  obtain ⟨f1, f2, f3, f4, f5, f6, f7⟩ := hf
  have hup := hC.cell
  have hlog := hC.lt
  refine FCall.give ?_
  refine fcall_walk T_ok ok_85 rfl ?_
  unfold Go.Proofs.Try.f85
  simp only [Option.getD_some, envOf, Nat.zero_add, Nat.reduceAdd, GV.enc]
  (all_goals (have X1 := @encs_len; have X2 := @hup; (repeat' (first | refine gx ?_ | (refine gd ?_ ?_ <;> (intro hcond; try (exfalso; omega))) | fail)); all_goals try clear X1 X2))
  (have X1 := @encs_len; have X2 := @hup; ((apply ard_call rfl ok_103); (focus exact eva); (focus exact copyTextsF_ok ns f6); (focus rfl); (focus rfl)); all_goals try clear X1 X2)
  (all_goals (have X1 := @encs_len; have X2 := @hup; (repeat' (first | refine gx ?_ | (refine gd ?_ ?_ <;> (intro hcond; try (exfalso; omega))) | fail)); all_goals try clear X1 X2))
  refine ard_done_of [(0, 2), (0, 3), (0, 4), (0, 5), (0, 6), (0, 7), (0, 8), (0, 10), (1, 2), (1, 3), (1, 4), (1, 5), (1, 6), (1, 7), (1, 8), (1, 10), (2, 4), (2, 5), (2, 6), (2, 7), (2, 8), (2, 10), (3, 4), (3, 5), (3, 6), (3, 7), (3, 8), (3, 10), (4, 6), (4, 7), (4, 8), (4, 10), (5, 6), (5, 7), (5, 8), (5, 10), (6, 10), (7, 10), (8, 10), (9, 10)] rfl rfl rfl rfl ?_ ?_
  · refine ep ?_; try exact trivial
    repeat' apply And.intro
    all_goals first | (simp; done) | (simp; omega) | skip
  (all_goals (have X1 := @encs_len; have X2 := @hup; (repeat' (first | refine gx ?_ | (refine gd ?_ ?_ <;> (intro hcond; try (exfalso; omega))) | fail)); all_goals try clear X1 X2))
  · refine ⟨.agg [.int .i64 k, .int .i64 x, .str t, .fsl 5 (encs l), .fsl 1 (strs ns)], [], bor_frz ?_, by simp, rfl, Heap.kill_app _ _ _ (by simp)⟩
    have : l = [] := List.eq_nil_of_length_eq_zero (by omega)
    subst this; rfl
  have h0 : 0 < l.length := by omega
  (have X1 := @encs_len; have X2 := @hup; ((apply ar_call rfl ok_63); (focus exact eva); (focus exact spanOf_ok l h0 f4); (focus rfl); (focus rfl)); all_goals try clear X1 X2)
  (all_goals (have X1 := @encs_len; have X2 := @hup; (repeat' (first | refine gx ?_ | (refine gd ?_ ?_ <;> (intro hcond; try (exfalso; omega))) | fail)); all_goals try clear X1 X2))
  have hsl : ∀ m ∈ ls, sizes l < sizes m := fun m hm => by have := hsz m hm; simp only [GV.size] at this; omega
  obtain ⟨G, hG⟩ : ∃ G, H ++ [Blk.row 5 [[.int .i64 k, .int .i64 x, .str t, .fsl 5 (encs l), .fsl 1 (strs ns)]], Blk.row 5 [[.int .i64 0, .int .i64 0, .str [], .nsl 5, .nsl 1]], Blk.row 5 [[.int .i64 k, .int .i64 x, .str t, .nsl 5, .fsl 1 (strs ns)]], Blk.row 2 [[.fptr (encs l).flatten, .int .i64 l.length]]] = G := ⟨_, rfl⟩
  rw [hG]
  refine aw_loopn (fun kk env H1 => ∃ a ls' lg, kk = lg.length ∧ Chain G a ls' lg ∧ (∀ m ∈ ls', sizes l < sizes m) ∧ env = [(7, a), (6, .ptr (H.length + 3) 0 0), (5, .ptr (H.length + 2) 0 0), (4, .ptr (H.length + 1) 0 0), (2, .ptr H.length 0 0), (1, up)] ∧ H1 = G) log.length
    [(7, up), (6, .ptr (H.length + 3) 0 0), (5, .ptr (H.length + 2) 0 0), (4, .ptr (H.length + 1) 0 0), (2, .ptr H.length 0 0), (1, up)] _ sb (heapW_refl _) rfl ⟨up, ls, log, rfl, ?_, hsl, rfl, rfl⟩ ?_
  · rw [← hG]; exact hC.mono (by simp) fun c hc => Heap.at_old _ _ (hlog c hc)
  rintro kk env H1 ⟨a, ls', lg, rfl, hCa, hsa, rfl, rfl⟩
  have hupa := hCa.cell
  cases ls' with
  | nil =>
    obtain ⟨rfl, rfl⟩ := hCa
    subst hG
    have hups := solid_of_cell hup
    have hupc := cells_of_cell hup
    (all_goals (have X1 := @encs_len; have X2 := @hup; have X3 := @hups; have X4 := @hupc; (repeat' (first | refine gx ?_ | (refine gd ?_ ?_ <;> (intro hcond; try (exfalso; omega))) | fail)); all_goals try clear X1 X2 X3 X4))
    refine aw_loopn (fun kk env H1 => ∃ i : Nat, i ≤ l.length ∧ kk = l.length - i ∧ env = [(4, .ptr (H.length + 1) 0 0), (5, .ptr (H.length + 2) 0 0), (8, .ptr (H.length + 5) 0 0), (60, .fsl 5 (encs l)), (61, .int .i64 l.length), (62, .int .i64 i)] ∧
      H.length + 6 ≤ H1.length ∧ H1.at (H.length + 1) = .row 5 [[.int .i64 0, .int .i64 0, .str [], .nsl 5, .nsl 1]] ∧ H1.at (H.length + 2) = .row 5 [[.int .i64 k, .int .i64 x, .str t, .row (H.length + 4) 0 l.length (some l.length) 5, .fsl 1 (strs ns)]] ∧ H1.at (H.length + 4) = .row 5 (encs (l.take i) ++ List.replicate (l.length - i) [.int .i64 0, .int .i64 0, .str [], .nsl 5, .nsl 1]) ∧
      (H1.at (H.length + 5) = .row 4 [[.fptr (encs l).flatten, .int .i64 l.length, .row (H.length + 4) 0 l.length (some l.length) 5, up]]) ∧ ∃ N, H1 = H ++ N) l.length
      [(4, .ptr (H.length + 1) 0 0), (5, .ptr (H.length + 2) 0 0), (8, .ptr (H.length + 5) 0 0), (60, .fsl 5 (encs l)), (61, .int .i64 l.length), (62, .int .i64 0)] _ sb (heapW_refl _) rfl ⟨0, Nat.zero_le _, rfl, rfl, by simp, Heap.at_app _ _ 1, Heap.at_app _ _ 2, (Heap.at_app _ _ 4).trans rfl, Heap.at_app _ _ 5, _, rfl⟩ ?_
    rintro kk env H1 ⟨i, hi, rfl, rfl, hle, g1, g2, g4, g5, N, hN⟩
    by_cases hlt : i < l.length
    · obtain ⟨u, hu⟩ : ∃ u, l.getD i default = u := ⟨_, rfl⟩
      have hum : u ∈ l := hu ▸ mem_getD hlt
      have huf := fitss_mem f5 u hum
      have hus := sizes_mem hum
      have hge : (encs l).getD i [] = u.enc := by rw [encs_get hlt, hu]
      have a2 : ∀ L, Heap.at (H1 ++ L) (H.length + 2) = _ := fun L => (Heap.at_old _ _ (by omega)).trans g2
      have a4 : ∀ L, Heap.at (H1 ++ L) (H.length + 4) = _ := fun L => (Heap.at_old _ _ (by omega)).trans g4
      have b4 : ∀ L x, Heap.put (H1 ++ L) (H.length + 4) x = H1.put (H.length + 4) x ++ L := fun L x => Heap.put_old _ _ _ _ (by omega)
      obtain ⟨uk, un, ut, ul, uns⟩ := u
      (all_goals (have X1 := @encs_len; have X2 := @a2; have X3 := @a4; have X4 := @b4; have X5 := @hge; (repeat' (first | refine gx ?_ | (refine gd ?_ ?_ <;> (intro hcond; try (exfalso; omega))) | fail)); all_goals try clear X1 X2 X3 X4 X5))
      obtain ⟨G, hG⟩ : ∃ G, H1 ++ [Blk.row 5 [[.int .i64 uk, .int .i64 un, .str ut, .fsl 5 (encs ul), .fsl 1 (strs uns)]]] = G := ⟨_, rfl⟩
      have hGl : H1.length < G.length := by rw [← hG]; simp
      have hCG : Chain G (.ptr (H.length + 5) 0 0) (l :: ls) ((H.length + 5) :: log) := ⟨H.length + 5, H.length + 4, up, log, rfl, by rw [← hG]; exact (Heap.at_old _ _ (by omega)).trans g5, ⟨by omega, by omega⟩, h0, f4, rfl, hC.mono (by rw [← hG, hN]; simp) fun c hc => by
        rw [← hG, hN, List.append_assoc]; exact Heap.at_old _ _ (hlog c hc)⟩
      rw [hG]
      (have X1 := @encs_len; have X2 := @a2; have X3 := @a4; have X4 := @b4; have X5 := @hge; ((apply ard_rcall (log := (H.length + 5) :: log) rfl ok_85); (focus exact eva); (focus exact fun H2 e1 e2 => ih ⟨uk, un, ut, ul, uns⟩ H2 _ (l :: ls) _ (by simp only [GV.size] at hus ⊢; omega) huf (hCG.mono (by omega) e2) (by intro m hm; rcases List.mem_cons.1 hm with rfl | hm; exact Nat.le_of_lt hus; exact Nat.le_of_lt (Nat.lt_trans hus (hsl m hm)))); (rotate_left 5); (focus rfl); (focus rfl)); all_goals try clear X1 X2 X3 X4 X5)
      rotate_left
      · simp only [blwL, AV.blw, Bool.and_true, Bool.true_and, Nat.blt_eq]; omega
      · exact fun c hc => (hCG.rows c hc).1
      · exact fun c hc => (hCG.rows c hc).2
      · rfl
      · rfl
      have hrep : List.replicate (l.length - i) [AV.int .i64 0, .int .i64 0, .str [], .nsl 5, .nsl 1] = [AV.int .i64 0, .int .i64 0, .str [], .nsl 5, .nsl 1] :: List.replicate (l.length - (i + 1)) [AV.int .i64 0, .int .i64 0, .str [], .nsl 5, .nsl 1] := by
        rw [show l.length - i = (l.length - (i + 1)) + 1 by omega]; rfl
      have hXl : (encs (l.take i)).length = i := by rw [encs_len]; simp; omega
      have hgm := fun (z d : List AV) => getD_mid (y := List.replicate (l.length - (i + 1)) [AV.int .i64 0, .int .i64 0, .str [], .nsl 5, .nsl 1]) (e := z) (d := d) hXl
      have hsm := fun (z z' : List AV) => set_mid (y := List.replicate (l.length - (i + 1)) [AV.int .i64 0, .int .i64 0, .str [], .nsl 5, .nsl 1]) (e := z) (e' := z') hXl
      have G4 : G.at (H.length + 4) = .row 5 (encs (l.take i) ++ [AV.int .i64 0, .int .i64 0, .str [], .nsl 5, .nsl 1] :: List.replicate (l.length - (i + 1)) [AV.int .i64 0, .int .i64 0, .str [], .nsl 5, .nsl 1]) := by rw [← hG, ← hrep]; exact a4 _
      (all_goals (have X1 := @encs_len; have X2 := @G4; have X3 := @hgm; have X4 := @hsm; have X5 := @GV.enc.eq_1; (repeat' (first | refine gx ?_ | (refine gd ?_ ?_ <;> (intro hcond; try (exfalso; omega))) | fail)); all_goals try clear X1 X2 X3 X4 X5))
      have hput : ∀ x c, c ≠ H.length + 4 → c < H1.length → (G.put (H.length + 4) x).at c = H1.at c := fun x c h1 h2 => by
        rw [Heap.at_put_ne _ _ _ _ h1, ← hG]; exact Heap.at_old _ _ h2
      refine anextn [(4, .ptr (H.length + 1) 0 0), (5, .ptr (H.length + 2) 0 0), (8, .ptr (H.length + 5) 0 0), (60, .fsl 5 (encs l)), (61, .int .i64 l.length), (62, .int .i64 ((i + 1 : Nat) : Int))] _ (k' := l.length - (i + 1)) (by omega) (by rw [Heap.put_length _ _ _ (by omega)]; omega) sb (heapW_refl _) rfl
        ⟨i + 1, by omega, rfl, rfl, by rw [Heap.put_length _ _ _ (by omega)]; omega, (hput _ _ (by omega) (by omega)).trans g1, (hput _ _ (by omega) (by omega)).trans g2, ?_, (hput _ _ (by omega) (by omega)).trans g5, ?_⟩
      · rw [Heap.at_put_same, encs_take hlt, hu]
        simp only [List.append_assoc, List.cons_append, List.nil_append, GV.enc]
      · rw [← hG, hN, List.append_assoc, Heap.put_app]
        exact ⟨_, rfl⟩
    · have : i = l.length := by omega
      subst this
      have e1 := Heap.at_put_same H1 (H.length + 1) (Blk.row 5 [[.int .i64 k, .int .i64 x, .str t, .row (H.length + 4) 0 l.length (some l.length) 5, .fsl 1 (strs ns)]])
      (all_goals (have X1 := @encs_len; have X2 := @g2; have X3 := @g1; have X4 := @e1; (repeat' (first | refine gx ?_ | (refine gd ?_ ?_ <;> (intro hcond; try (exfalso; omega))) | fail)); all_goals try clear X1 X2 X3 X4))
      have f4 : (H1.put (H.length + 1) (Blk.row 5 [[.int .i64 k, .int .i64 x, .str t, .row (H.length + 4) 0 l.length (some l.length) 5, .fsl 1 (strs ns)]])).at (H.length + 4) = .row 5 (encs l) := by rw [Heap.at_put_ne _ _ _ _ (by omega), g4]; simp
      refine ⟨_, [H.length + 4], bor_agg (cs' := [.int .i64 k, .int .i64 x, .str t, .fsl 5 (encs l), .fsl 1 (strs ns)]) rfl (BorL.get ⟨bor_frz rfl, bor_frz rfl, bor_frz rfl, ?_, bor_frz rfl, trivial⟩), by simp, rfl, ?_⟩
      · have := bor_rowf (S := [H.length + 4]) (cap := some l.length) (by simp) f4 (encs_all5 l) (encs_frzm l)
        rwa [encs_len] at this
      · rw [hN, Heap.put_app]
        exact Heap.kill_app _ _ _ (by simp)
  | cons m ls' =>
    obtain ⟨b, cd, up', lg', rfl, hbb, hmd, hm0, hml, rfl, hCr⟩ := hCa
    have hG3 : H1.at (H.length + 3) = Blk.row 2 [[.fptr (encs l).flatten, .int .i64 l.length]] := by rw [← hG]; exact Heap.at_app _ _ 3
    (all_goals (have X1 := @encs_len; have X2 := @hup; have X3 := @hbb; have X4 := @hG3; (repeat' (first | refine gx ?_ | (refine gd ?_ ?_ <;> (intro hcond; try (exfalso; omega))) | fail)); all_goals try clear X1 X2 X3 X4))
    refine ard_eff (eff_spanNe (cs := (encs m).flatten) (cs' := (encs l).flatten) (m := m.length) (m' := l.length) rfl P_span (by kernel_rfl) ?_ ?_ (by rw [flat_len]; omega) (by rw [flat_len]; omega) ?_) rfl rfl ?_
    · rfl
    · rfl
    · intro K w v h1 h2 he
      have := span_same hm0 (by omega) h1 h2
      have := hsa m (by simp)
      subst_vars
      omega
    (all_goals (have X1 := @encs_len; have X2 := @hup; have X3 := @hbb; have X4 := @hG3; (repeat' (first | refine gx ?_ | (refine gd ?_ ?_ <;> (intro hcond; try (exfalso; omega))) | fail)); all_goals try clear X1 X2 X3 X4))
    exact anextn [(7, up'), (6, .ptr (H.length + 3) 0 0), (5, .ptr (H.length + 2) 0 0), (4, .ptr (H.length + 1) 0 0), (2, .ptr H.length 0 0), (1, up)] _ (k' := lg'.length) (by simp) (Nat.le_refl _) sb (heapW_refl _) rfl ⟨up', ls', lg', rfl, hCr, fun m hm => hsa m (by simp [hm]), rfl, rfl⟩
end Go.Av
set_option linter.unusedVariables false
set_option linter.unusedSimpArgs false
namespace Go.Av
open Go
set_option maxRecDepth 10000
set_option maxHeartbeats 1000000
theorem copyWithinF_all : ∀ (n : Nat) (v : GV), v.size < n → v.fits → ∀ (H : Heap) (up : AV) (ls : List (List GV)) (log : List Nat), Chain H up ls log → (∀ m ∈ ls, v.size ≤ sizes m) →
    FCall P 85 [.agg v.enc, up] H fun r H' => r = .agg v.enc ∧ ∃ N, H' = H ++ N
  | 0, _, h => by omega
  | n + 1, v, h => fun hf H up ls log hC hsz => copyWithinF_ok v hf H up ls log hC hsz fun u H up ls log hu huf hC hsz => copyWithinF_all n u (by omega) huf H up ls log hC hsz
theorem copyWithinF (v : GV) (hf : v.fits) (H : Heap) (up : AV) (ls : List (List GV)) (log : List Nat) (hC : Chain H up ls log) (hsz : ∀ m ∈ ls, v.size ≤ sizes m) :
    FCall P 85 [.agg v.enc, up] H fun r H' => r = .agg v.enc ∧ ∃ N, H' = H ++ N := copyWithinF_all _ v (Nat.lt_succ_self _) hf H up ls log hC hsz
theorem copyValueF_ok (v : GV) (hf : v.fits) : PCall P 57 [.agg v.enc] (.agg v.enc) := by
  refine pcall_of_fcall (fcall_walk T_ok ok_57 rfl ?_)
  unfold Go.Proofs.Try.f57
  simp only [Option.getD_some, envOf, Nat.zero_add, Nat.reduceAdd]
  obtain ⟨k, n, t, l, ns⟩ := v
  (all_goals (have X1 := @GV.enc.eq_1; (repeat' (first | refine gx ?_ | (refine gd ?_ ?_ <;> (intro hcond; try (exfalso; omega))) | fail)); all_goals try clear X1))
  (have X1 := @GV.enc.eq_1; ((apply ar_fcall rfl ok_85); (focus exact eva); (focus exact copyWithinF _ hf _ _ [] [] ⟨rfl, rfl⟩ (by simp)); (focus rfl); (focus rfl)); all_goals try clear X1)
  rintro _ _ ⟨rfl, N, rfl⟩
  (all_goals (have X1 := @GV.enc.eq_1; (repeat' (first | refine gx ?_ | (refine gd ?_ ?_ <;> (intro hcond; try (exfalso; omega))) | fail)); all_goals try clear X1))
  rfl
end Go.Av
set_option linter.unusedVariables false
set_option linter.unusedSimpArgs false
namespace Go.Av
open Go
set_option maxRecDepth 10000
set_option maxHeartbeats 1000000
/-- the table of the first i nodes -/
def Tb (H : Heap) (b : Nat) (l : List GN) : Prop := ∃ tk tr, H.at b = .row 2 [[.asl tk l.length 1 (keysAV l), .asl tr l.length 7 (encn l)]]
def TbN (H0 H : Heap) (b : Nat) (l : List GN) : Prop := (l = [] → H.at b = .row 2 [[.nsl 1, .nsl 7]]) ∧ (l ≠ [] → ∃ tk tr, H.at b = .row 2 [[.asl tk l.length 1 (keysAV l), .asl tr l.length 7 (encn l)]] ∧ H.at tk = .tok l.length ∧ H.at tr = .tok l.length ∧ tk ≠ tr ∧ H0.length ≤ tk ∧ H0.length ≤ tr)
def putOk (l : List GN) (i : Nat) : Bool := i == 0 || decide ((l.getD (i - 1) default).id < (l.getD i default).id)
theorem putAny_ok (l : List GN) (i : Nat) (hi : i < l.length) (b : Nat) (H0 H : Heap) (hT : TbN H0 H b (l.take i)) (hb0 : H0.length ≤ b) (hbl : b < H.length) (hle : H0.length ≤ H.length) (hl : Len l) (hf : (l.getD i default).fits) :
    FCall P 80 [.ptr b 0 0, .int .i64 (l.getD i default).id, .agg (l.getD i default).enc] H fun r H' => r = .bool (putOk l i) ∧ TbN H0 H' b (l.take (i + 1)) ∧ H.length ≤ H'.length ∧ ∀ c, c < H0.length → H'.at c = H.at c := by
  obtain ⟨u, hu⟩ : ∃ u, l.getD i default = u := ⟨_, rfl⟩
  have ht : l.take (i + 1) = l.take i ++ [u] := by
    rw [List.take_succ_eq_append_getElem hi, ← hu, List.getD_eq_getElem?_getD, List.getElem?_eq_getElem hi]; rfl
  have hk : keysAV (l.take (i + 1)) = keysAV (l.take i) ++ [[.int .i64 u.id]] := by rw [ht]; simp [keysAV]
  have he : encn (l.take (i + 1)) = encn (l.take i) ++ [u.enc] := by rw [ht]; simp [encn]
  have hne : l.take (i + 1) ≠ [] := by rw [ht]; simp
  have hlen : (l.take (i + 1)).length = i + 1 := by simp; omega
  rw [hu] at hf ⊢
  rcases Nat.eq_zero_or_pos i with rfl | hpos
  · refine FCall.mono (put0_ok u u.id b H (hT.1 rfl) hbl hf) ?_
    rintro r H' ⟨rfl, tk, tr, h1, h2, h3, h4, h5, h6, h7, h8, h9, h10, h11, h12⟩
    refine ⟨rfl, ⟨fun h => absurd h hne, fun _ => ⟨tk, tr, ?_, ?_, ?_, h4, by omega, by omega⟩⟩, h11, fun c hc => h12 c (by omega) (by omega)⟩
    · rw [h1, hlen, hk, he]; rfl
    · rw [h2, hlen]
    · rw [h3, hlen]
  · have hnl : l.take i ≠ [] := fun h => by
      have := congrArg List.length h
      rw [List.length_take, List.length_nil] at this
      omega
    have hli : (l.take i).length = i := by simp; omega
    obtain ⟨tk, tr, h1, h2, h3, h4, h5, h6⟩ := hT.2 hnl
    refine FCall.mono (put1_ok (l.take i) u u.id b tk tr H h1 hbl (by have := hl; simp only [Len] at *; omega) (by omega) hf h2 h3 h4) ?_
    rintro r H' ⟨rfl, k1, k2, k3, k4, k5⟩
    refine ⟨?_, ⟨fun h => absurd h hne, fun _ => ⟨tk, tr, ?_, ?_, ?_, h4, h5, h6⟩⟩, k4, fun c hc => k5 c (by omega) (by omega) (by omega) (by omega)⟩
    · unfold putOk
      have : (l.take i).getD (i - 1) default = l.getD (i - 1) default := by
        simp only [List.getD_eq_getElem?_getD]; rw [List.getElem?_take_of_lt (by omega)]
      rw [hli, this, hu, show (i == 0) = false by simp; omega]; rfl
    · rw [k1, hlen, hk, he, hli]
    · rw [k2, hlen, hli]
    · rw [k3, hlen, hli]
theorem nodeC_eq (l : List GN) (i : Nat) : nodeC l i = (okNd (l.getD i default) && putOk l i) := rfl

theorem tableOf_ok (l : List GN) (hl : Len l) (hf : ∀ v ∈ l, v.fits) (H : Heap) : FCall P 52 [.fsl 7 (encn l)] H fun r H' => ∃ b, r = .tup [.ptr b 0 0, .bool (storeOK l)] ∧ H.length ≤ b ∧ b < H'.length ∧ (∀ c, c < H.length → H'.at c = H.at c) ∧ (storeOK l = true → Tb H' b l) := by
  refine fcall_walk T_ok ok_52 rfl ?_
  unfold Go.Proofs.Try.f52
  simp only [Option.getD_some, envOf, Nat.zero_add, Nat.reduceAdd]
  (all_goals (have X1 := @encn_len; have X2 := @encn_get; have X3 := @Int.toNat_zero; (repeat' (first | refine gg ?_ | (refine gd ?_ ?_ <;> (intro hcond; try (exfalso; omega))) | (refine gc ?_ ?_ <;> intro hcs) | fail)); all_goals try clear X1 X2 X3))
  rotate_right
  · refine aw_loopn (fun kk env H1 => ∃ i : Nat, i ≤ l.length ∧ kk = l.length - i ∧ (∀ j, j < i → nodeC l j = true) ∧ H.length < H1.length ∧ (∀ c, c < H.length → H1.at c = H.at c) ∧ TbN H H1 H.length (l.take i) ∧ env = [(0, .fsl 7 (encn l)), (4, .ptr H.length 0 0), (32, .fsl 7 (encn l)), (33, .int .i64 l.length), (34, .int .i64 i)]) l.length
      [(0, .fsl 7 (encn l)), (4, .ptr H.length 0 0), (32, .fsl 7 (encn l)), (33, .int .i64 l.length), (34, .int .i64 0)] _ sb (heapW_refl _) rfl ⟨0, Nat.zero_le _, rfl, fun j hj => by omega, by simp, fun c hc => Heap.at_old _ _ hc, ⟨fun _ => Heap.at_app _ _ 0, fun h => absurd (by simp) h⟩, rfl⟩ ?_
    rintro kk env H1 ⟨i, hi, rfl, hinv, hlt1, hold, hT, rfl⟩
    by_cases hlt : i < l.length
    · obtain ⟨u, hu⟩ : ∃ u, l.getD i default = u := ⟨_, rfl⟩
      have hfu : u.fits := hu ▸ hf _ (mem_getD hlt)
      obtain ⟨id, ty, ⟨ck, cn, ct, cl, cns⟩⟩ := u
      have hg : (encn l).getD i [] = GN.enc ⟨id, ty, ⟨ck, cn, ct, cl, cns⟩⟩ := by rw [encn_get hlt, hu]
      (all_goals (have X1 := @encn_len; have X2 := @hg; have X3 := @GN.enc.eq_1; have X4 := @GV.enc.eq_1; (repeat' (first | refine gg ?_ | (refine gd ?_ ?_ <;> (intro hcond; try (exfalso; omega))) | (refine gc ?_ ?_ <;> intro hcs) | fail)); all_goals try clear X1 X2 X3 X4))
      (have X1 := @encn_len; have X2 := @hg; have X3 := @GN.enc.eq_1; have X4 := @GV.enc.eq_1; ((apply ar_call rfl ok_79); (focus exact eva); (focus exact nodeOk_ok ⟨id, ty, ⟨ck, cn, ct, cl, cns⟩⟩ hfu); (focus rfl); (focus rfl)); all_goals try clear X1 X2 X3 X4)
      (all_goals (have X1 := @encn_len; have X2 := @hg; have X3 := @GN.enc.eq_1; have X4 := @GV.enc.eq_1; (repeat' (first | refine gg ?_ | (refine gd ?_ ?_ <;> (intro hcond; try (exfalso; omega))) | (refine gc ?_ ?_ <;> intro hcs) | fail)); all_goals try clear X1 X2 X3 X4))
      · have hs : storeOK l = false := by
          unfold storeOK
          rw [allr_false hlt (by rw [nodeC_eq, hu]; simp_all)]; simp
        exact ⟨H.length, by rw [hs]; rfl, Nat.le_refl _, by simp; omega, fun c hc => by rw [Heap.at_old _ _ (by omega)]; exact hold c hc, fun h => by rw [hs] at h; cases h⟩
      have hT2 : TbN H (H1 ++ [Blk.row 7 [[.int .i64 id, .str ty, .int .i64 ck, .int .i64 cn, .str ct, .fsl 5 (encs cl), .fsl 1 (strs cns)]]]) H.length (l.take i) := by
        refine ⟨fun h => by rw [Heap.at_old _ _ hlt1]; exact hT.1 h, fun h => ?_⟩
        obtain ⟨tk, tr, q1, q2, q3, q4, q5, q6⟩ := hT.2 h
        exact ⟨tk, tr, by rw [Heap.at_old _ _ hlt1]; exact q1, by rw [Heap.at_old _ _ (at_lt (by rw [q2]; simp))]; exact q2, by rw [Heap.at_old _ _ (at_lt (by rw [q3]; simp))]; exact q3, q4, q5, q6⟩
      have hput := putAny_ok l i hlt H.length H _ hT2 (Nat.le_refl _) (by simp; omega) (by simp; omega) hl (by rw [hu]; exact hfu)
      rw [hu] at hput
      (have X1 := @encn_len; have X2 := @hg; have X3 := @GN.enc.eq_1; have X4 := @GV.enc.eq_1; ((apply ar_fcall rfl ok_80); (focus exact eva); (focus exact hput); (focus rfl); (focus rfl)); all_goals try clear X1 X2 X3 X4)
      rintro _ H3 ⟨rfl, hT3, hle3, hold3⟩
      have hold4 : ∀ c, c < H.length → H3.at c = H.at c := fun c hc => by rw [hold3 c hc, Heap.at_old _ _ (by omega)]; exact hold c hc
      have hle4 : H.length < H3.length := by simp at hle3; omega
      (all_goals (have X1 := @encn_len; (repeat' (first | refine gg ?_ | (refine gd ?_ ?_ <;> (intro hcond; try (exfalso; omega))) | (refine gc ?_ ?_ <;> intro hcs) | fail)); all_goals try clear X1))
      · have hs : storeOK l = false := by
          unfold storeOK
          rw [allr_false hlt (by rw [nodeC_eq, hu]; simp_all)]; simp
        exact ⟨H.length, by rw [hs]; rfl, Nat.le_refl _, hle4, hold4, fun h => by rw [hs] at h; cases h⟩
      · refine anextn [(0, .fsl 7 (encn l)), (4, .ptr H.length 0 0), (32, .fsl 7 (encn l)), (33, .int .i64 l.length), (34, .int .i64 ((i + 1 : Nat) : Int))] _ (k' := l.length - (i + 1)) (by omega) (by simp at hle3; omega) sb (heapW_refl _) rfl
          ⟨i + 1, by omega, rfl, snoc_all hinv (by rw [nodeC_eq, hu]; simp_all), hle4, hold4, hT3, rfl⟩
    · have : i = l.length := by omega
      subst this
      (all_goals (have X1 := @encn_len; (repeat' (first | refine gg ?_ | (refine gd ?_ ?_ <;> (intro hcond; try (exfalso; omega))) | (refine gc ?_ ?_ <;> intro hcs) | fail)); all_goals try clear X1))
      have hs : storeOK l = true := by
        unfold storeOK queryB; rw [allr_true hinv]; simp_all; try omega
      refine ⟨H.length, by rw [hs]; rfl, Nat.le_refl _, hlt1, hold, fun _ => ?_⟩
      rw [List.take_length] at hT
      obtain ⟨tk, tr, h, _⟩ := hT.2 (fun h => by subst h; simp at *)
      exact ⟨tk, tr, h⟩
  all_goals
    have hs : storeOK l = false := by
      unfold storeOK queryB
      simp_all
      try omega
    exact ⟨H.length, by rw [hs]; rfl, Nat.le_refl _, by simp, fun c hc => Heap.at_old _ _ hc, fun h => by rw [hs] at h; cases h⟩
end Go.Av
set_option linter.unusedVariables false
set_option linter.unusedSimpArgs false
namespace Go.Av
open Go
set_option maxRecDepth 10000
set_option maxHeartbeats 1000000
theorem storeOK_at {l : List GN} (h : storeOK l = true) {i : Nat} (hi : i < l.length) : okNd (l.getD i default) = true := by
  unfold storeOK at h
  simp only [Bool.and_eq_true] at h
  have := List.all_eq_true.1 h.1.1.1 i (by simpa using hi)
  rw [nodeC_eq, Bool.and_eq_true] at this
  exact this.1
theorem okNd_len {u : GN} (h : okNd u = true) : u.cells.ns.length = u.cells.l.length := by
  obtain ⟨id, ty, ⟨k, n, t, l, ns⟩⟩ := u
  unfold okNd at h
  simp only [Bool.and_eq_true, beq_iff_eq] at h
  obtain ⟨⟨⟨⟨h1, h2⟩, h3⟩, h4⟩, h5⟩ := h
  have h4 : k = 5 := h4
  subst h4
  rw [okV_succ] at h5
  simp only [Bool.and_eq_true] at h5
  have := h5.1.1.1
  simp [plainV] at this
  show ns.length = l.length
  omega
def storeGet (l : List GN) (id : Int) (s : List UInt8) : GV := if storeOK l then cellG (getN l id) s else zeroV
theorem getN_len {l : List GN} (h : storeOK l = true) (id : Int) : (getN l id).cells.ns.length = (getN l id).cells.l.length := by
  unfold getN
  split
  · rename_i h0
    rcases idxI_cases l (fun n => n.id == id) default with ⟨h1, _⟩ | ⟨i, h1, h2, _⟩
    · omega
    · rw [h1]; exact okNd_len (storeOK_at h h2)
  · rfl
theorem zeroV_fits : zeroV.fits := by simp only [zeroV, GV.fits, fitss, I64]; simp
theorem zeroN_fits : zeroN.fits := ⟨by decide, by simp [zeroN], zeroV_fits⟩
theorem getN_fits {l : List GN} (hf : ∀ v ∈ l, v.fits) (id : Int) : (getN l id).fits := by
  unfold getN
  split
  · rcases idxI_cases l (fun n => n.id == id) default with ⟨h1, _⟩ | ⟨i, h1, h2, _⟩
    · omega
    · rw [h1]; exact hf _ (mem_getD h2)
  · exact zeroN_fits
theorem cellG_fits {u : GN} (hf : u.fits) (hl : u.cells.ns.length = u.cells.l.length) (s : List UInt8) : (cellG u s).fits := by
  obtain ⟨id, ty, ⟨k, n, t, l, ns⟩⟩ := u
  obtain ⟨g1, g2, f1, f2, f3, f4, f5, f6, f7⟩ := hf
  unfold cellG
  split
  · rename_i h0
    have h0 : 0 ≤ idxI ns (fun x => s == x) := h0
    rcases idxI_cases ns (fun x => s == x) [] with ⟨h1, _⟩ | ⟨i, h1, h2, _⟩
    · exfalso; omega
    · show GV.fits (l.getD (idxI ns (fun x => s == x)).toNat default)
      rw [h1]
      exact fitss_mem f5 _ (mem_getD (by have : ns.length = l.length := hl; simp; omega))
  · exact zeroV_fits

theorem implStoreOk_ok (l : List GN) (hl : Len l) (hf : ∀ v ∈ l, v.fits) : PCall P 23 [.fsl 7 (encn l)] (.bool (storeOK l)) := by
  refine pcall_of_fcall (fcall_walk T_ok ok_23 rfl ?_)
  unfold Go.Proofs.Try.f23
  simp only [Option.getD_some, envOf, Nat.zero_add, Nat.reduceAdd]
  (all_goals (have X1 := @encn_len; (repeat' (first | refine gg ?_ | (refine gd ?_ ?_ <;> (intro hcond; try (exfalso; omega))) | (refine gc ?_ ?_ <;> intro hcs) | fail)); all_goals try clear X1))
  (have X1 := @encn_len; ((apply ar_fcall rfl ok_52); (focus exact eva); (focus exact tableOf_ok l hl hf _); (focus rfl); (focus rfl)); all_goals try clear X1)
  rintro _ H' ⟨b, rfl, h1, h2, h3, h4⟩
  (all_goals (have X1 := @encn_len; (repeat' (first | refine gg ?_ | (refine gd ?_ ?_ <;> (intro hcond; try (exfalso; omega))) | (refine gc ?_ ?_ <;> intro hcs) | fail)); all_goals try clear X1))
  rfl
theorem implStoreGet_ok (l : List GN) (id : Int) (s : List UInt8) (hl : Len l) (hf : ∀ v ∈ l, v.fits) : PCall P 26 [.fsl 7 (encn l), .int .i64 id, .str s] (.agg (storeGet l id s).enc) := by
  refine pcall_of_fcall (fcall_walk T_ok ok_26 rfl ?_)
  unfold Go.Proofs.Try.f26
  simp only [Option.getD_some, envOf, Nat.zero_add, Nat.reduceAdd]
  (all_goals (have X1 := @encn_len; (repeat' (first | refine gg ?_ | (refine gd ?_ ?_ <;> (intro hcond; try (exfalso; omega))) | (refine gc ?_ ?_ <;> intro hcs) | fail)); all_goals try clear X1))
  (have X1 := @encn_len; ((apply ar_fcall rfl ok_52); (focus exact eva); (focus exact tableOf_ok l hl hf _); (focus rfl); (focus rfl)); all_goals try clear X1)
  rintro _ H' ⟨b, rfl, h1, h2, h3, h4⟩
  have h0 := h3 0 (by simp)
  have hp0 := fun x => Heap.at_put_same H' 0 x
  (all_goals (have X1 := @encn_len; have X2 := @h0; have X3 := @hp0; (repeat' (first | refine gg ?_ | (refine gd ?_ ?_ <;> (intro hcond; try (exfalso; omega))) | (refine gc ?_ ?_ <;> intro hcs) | fail)); all_goals try clear X1 X2 X3))
  · unfold storeGet; simp_all [zeroV, GV.enc, encs, strs]; rfl
  have hs : storeOK l = true := by simpa using hcs
  obtain ⟨tk, tr, hT⟩ := h4 hs
  (have X1 := @encn_len; have X2 := @h0; have X3 := @hp0; ((apply ar_fcall rfl ok_64); (focus exact eva); (focus exact get_ok l id b tk _ tr _ H' hT h2 hl); (focus rfl); (focus rfl)); all_goals try clear X1 X2 X3)
  rintro _ _ ⟨⟨ok, h⟩, N, rfl⟩
  have h5 : Heap.at (H' ++ N) 0 = _ := (Heap.at_old _ _ (by simp at h1; omega)).trans h0
  have hGl : 0 < (H' ++ N).length := by simp at h1 ⊢; omega
  generalize (H' ++ N) = G at *
  have q1 := fun L => Heap.at_old G L hGl
  rw [h5] at q1
  have q2 := fun L x => Heap.put_old G L 0 x hGl
  have q3 := fun L x => Heap.at_putA hGl x L
  have hc := cellOf_ok (getN l id) s (getN_fits hf id) (getN_len hs id)
  have hv := copyValueF_ok (cellG (getN l id) s) (cellG_fits (getN_fits hf id) (getN_len hs id) s)
  rw [show storeGet l id s = cellG (getN l id) s by unfold storeGet; rw [if_pos hs]]
  obtain ⟨c, hcg⟩ : ∃ c, cellG (getN l id) s = c := ⟨_, rfl⟩
  rw [hcg] at hc hv ⊢
  obtain ⟨ck, cn, ct, cl, cns⟩ := c
  rcases h with rfl | ⟨rfl, hz⟩
  · obtain ⟨u, hu⟩ : ∃ u, getN l id = u := ⟨_, rfl⟩
    rw [hu] at hc ⊢
    obtain ⟨uid, uty, ⟨uk, un, ut, ul, uns⟩⟩ := u
    (all_goals (have X1 := @GN.enc.eq_1; have X2 := @GV.enc.eq_1; have X3 := @q1; have X4 := @q2; have X5 := @q3; (repeat' (first | refine gg ?_ | (refine gd ?_ ?_ <;> (intro hcond; try (exfalso; omega))) | (refine gc ?_ ?_ <;> intro hcs) | fail)); all_goals try clear X1 X2 X3 X4 X5))
    (have X1 := @GN.enc.eq_1; have X2 := @GV.enc.eq_1; have X3 := @q1; have X4 := @q2; have X5 := @q3; ((apply ar_call rfl ok_65); (focus exact eva); (focus exact hc); (focus rfl); (focus rfl)); all_goals try clear X1 X2 X3 X4 X5)
    (all_goals (have X1 := @GN.enc.eq_1; have X2 := @GV.enc.eq_1; have X3 := @q1; have X4 := @q2; have X5 := @q3; (repeat' (first | refine gg ?_ | (refine gd ?_ ?_ <;> (intro hcond; try (exfalso; omega))) | (refine gc ?_ ?_ <;> intro hcs) | fail)); all_goals try clear X1 X2 X3 X4 X5))
    (have X1 := @GN.enc.eq_1; have X2 := @GV.enc.eq_1; have X3 := @q1; have X4 := @q2; have X5 := @q3; ((apply ar_call rfl ok_57); (focus exact eva); (focus exact hv); (focus rfl); (focus rfl)); all_goals try clear X1 X2 X3 X4 X5)
    (all_goals (have X1 := @GN.enc.eq_1; have X2 := @GV.enc.eq_1; have X3 := @q1; have X4 := @q2; have X5 := @q3; (repeat' (first | refine gg ?_ | (refine gd ?_ ?_ <;> (intro hcond; try (exfalso; omega))) | (refine gc ?_ ?_ <;> intro hcs) | fail)); all_goals try clear X1 X2 X3 X4 X5))
    rfl
  · rw [hz] at hc
    (all_goals (have X1 := @GV.enc.eq_1; have X2 := @q1; have X3 := @q2; have X4 := @q3; (repeat' (first | refine gg ?_ | (refine gd ?_ ?_ <;> (intro hcond; try (exfalso; omega))) | (refine gc ?_ ?_ <;> intro hcs) | fail)); all_goals try clear X1 X2 X3 X4))
    (have X1 := @GV.enc.eq_1; have X2 := @q1; have X3 := @q2; have X4 := @q3; ((apply ar_call rfl ok_65); (focus exact eva); (focus exact hc); (focus rfl); (focus rfl)); all_goals try clear X1 X2 X3 X4)
    (all_goals (have X1 := @GV.enc.eq_1; have X2 := @q1; have X3 := @q2; have X4 := @q3; (repeat' (first | refine gg ?_ | (refine gd ?_ ?_ <;> (intro hcond; try (exfalso; omega))) | (refine gc ?_ ?_ <;> intro hcs) | fail)); all_goals try clear X1 X2 X3 X4))
    (have X1 := @GV.enc.eq_1; have X2 := @q1; have X3 := @q2; have X4 := @q3; ((apply ar_call rfl ok_57); (focus exact eva); (focus exact hv); (focus rfl); (focus rfl)); all_goals try clear X1 X2 X3 X4)
    (all_goals (have X1 := @GV.enc.eq_1; have X2 := @q1; have X3 := @q2; have X4 := @q3; (repeat' (first | refine gg ?_ | (refine gd ?_ ?_ <;> (intro hcond; try (exfalso; omega))) | (refine gc ?_ ?_ <;> intro hcs) | fail)); all_goals try clear X1 X2 X3 X4))
    rfl
end Go.Av
set_option linter.unusedVariables false
set_option linter.unusedSimpArgs false
namespace Go.Av
open Go
set_option maxRecDepth 10000
set_option maxHeartbeats 1000000
/-- a list in memory of the call's own -/
def LiveL (n : Nat) (Bs : List Blk) (sz : Nat) (es : List (List AV)) (a : AV) : Prop := (es = [] ∧ a = .nsl sz) ∨ (es ≠ [] ∧ ∃ i cap, i < Bs.length ∧ a = .row (n + i) 0 es.length cap sz ∧ Heap.at Bs i = .row sz es)
/-- a value whose two lists are in memory of the call's own, and no more -/
def LTB (n : Nat) (v : GV) (Bs : List Blk) (r : AV) : Prop := ∃ aL aN, r = .agg [.int .i64 v.k, .int .i64 v.n, .str v.t, aL, aN] ∧ LiveL n Bs 5 (encs v.l) aL ∧ LiveL n Bs 1 (strs v.ns) aN ∧ ∀ x ∈ Bs, x = .dead ∨ x = .row 5 (encs v.l) ∨ x = .row 1 (strs v.ns)
theorem LiveL.get {n : Nat} {Bs : List Blk} {sz : Nat} {es : List (List AV)} {a : AV} (h : LiveL n Bs sz es a) : a.isCell = true ∧ a.idin [] n = true := by
  rcases h with ⟨_, rfl⟩ | ⟨_, i, cap, hi, rfl, _⟩
  · exact ⟨rfl, rfl⟩
  · refine ⟨rfl, ?_⟩
    simp [AV.idin]
theorem heap_only (H N : Heap) (is : List Nat) : ∃ Bs : List Blk, Bs.length = N.length ∧ (∀ i ∈ is, i < N.length → Heap.at Bs i = N.at i) ∧ (∀ x ∈ Bs, x = .dead ∨ ∃ i ∈ is, x = N.at i) ∧ ∀ b, WeakB (Heap.at (H ++ N) b) (Heap.at (H ++ Bs) b) := by
  have hat : ∀ i, i < N.length → Heap.at ((List.range N.length).map fun i => if i ∈ is then N.at i else .dead) i = if i ∈ is then N.at i else .dead := fun i hi => by
    unfold Heap.at
    simp [List.getD_eq_getElem?_getD, hi]
  refine ⟨(List.range N.length).map fun i => if i ∈ is then N.at i else .dead, by simp, fun i h1 h2 => ?_, fun x hx => ?_, fun b => ?_⟩
  · rw [hat i h2, if_pos h1]
  · obtain ⟨i, _, rfl⟩ := List.mem_map.1 hx
    split
    · exact .inr ⟨i, ‹_›, rfl⟩
    · exact .inl rfl
  · rcases Nat.lt_or_ge b H.length with h | h
    · rw [Heap.at_old _ _ h, Heap.at_old _ _ h]; exact .refl _
    · obtain ⟨i, rfl⟩ : ∃ i, b = H.length + i := ⟨b - H.length, by omega⟩
      rw [Heap.at_app, Heap.at_app]
      rcases Nat.lt_or_ge i N.length with h2 | h2
      · rw [hat i h2]
        split
        · exact .refl _
        · exact .dead _
      · have : Heap.at ((List.range N.length).map fun i => if i ∈ is then N.at i else .dead) i = .dead := by
          unfold Heap.at; rw [List.getD_eq_getElem?_getD, List.getElem?_eq_none (by simpa using h2)]; rfl
        rw [this]; exact .dead _
theorem ltb_of {H : Heap} {N : List Blk} {v : GV} {aL aN : AV} (h1 : LiveL H.length N 5 (encs v.l) aL) (h2 : LiveL H.length N 1 (strs v.ns) aN) : ∃ Bs : List Blk, Bs.length = N.length ∧ (∀ b, WeakB (Heap.at (H ++ N) b) (Heap.at (H ++ Bs) b)) ∧ LTB H.length v Bs (.agg [.int .i64 v.k, .int .i64 v.n, .str v.t, aL, aN]) := by
  rcases h1 with ⟨e1, rfl⟩ | ⟨e1, i, ci, hi, rfl, ai⟩ <;> rcases h2 with ⟨e2, rfl⟩ | ⟨e2, j, cj, hj, rfl, aj⟩
  · obtain ⟨Bs, k1, k2, k3, k4⟩ := heap_only H N []
    exact ⟨Bs, k1, k4, _, _, rfl, .inl ⟨e1, rfl⟩, .inl ⟨e2, rfl⟩, fun x hx => (k3 x hx).imp id fun ⟨_, h, _⟩ => by cases h⟩
  · obtain ⟨Bs, k1, k2, k3, k4⟩ := heap_only H N [j]
    exact ⟨Bs, k1, k4, _, _, rfl, .inl ⟨e1, rfl⟩, .inr ⟨e2, j, _, by omega, rfl, (k2 j (by simp) hj).trans aj⟩, fun x hx => (k3 x hx).imp id fun ⟨q, h, e⟩ => .inr (by simp at h; rw [e, h, aj])⟩
  · obtain ⟨Bs, k1, k2, k3, k4⟩ := heap_only H N [i]
    exact ⟨Bs, k1, k4, _, _, rfl, .inr ⟨e1, i, _, by omega, rfl, (k2 i (by simp) hi).trans ai⟩, .inl ⟨e2, rfl⟩, fun x hx => (k3 x hx).imp id fun ⟨q, h, e⟩ => .inl (by simp at h; rw [e, h, ai])⟩
  · obtain ⟨Bs, k1, k2, k3, k4⟩ := heap_only H N [i, j]
    exact ⟨Bs, k1, k4, _, _, rfl, .inr ⟨e1, i, _, by omega, rfl, (k2 i (by simp) hi).trans ai⟩, .inr ⟨e2, j, _, by omega, rfl, (k2 j (by simp) hj).trans aj⟩, fun x hx => (k3 x hx).imp id fun ⟨q, h, e⟩ => by
      simp at h
      rcases h with rfl | rfl
      · exact .inl (e.trans ai)
      · exact .inr (e.trans aj)⟩
theorem LiveL.mono {n : Nat} {Bs Bs' : List Blk} {sz : Nat} {es : List (List AV)} {a : AV} (h : LiveL n Bs sz es a) (hl : Bs.length ≤ Bs'.length) (he : ∀ i, i < Bs.length → Heap.at Bs i = .row sz es → Heap.at Bs' i = .row sz es) : LiveL n Bs' sz es a := by
  rcases h with h | ⟨h1, i, cap, h2, h3, h4⟩
  · exact .inl h
  · exact .inr ⟨h1, i, cap, by omega, h3, he i h2 h4⟩
/-- the copy of a list of texts -/
def cpS (n : Nat) (ns : List (List UInt8)) : AV × List Blk := match ns with
  | [] => (.nsl 1, [])
  | _ => (.row n 0 ns.length (some ns.length) 1, [.row 1 (strs ns)])
theorem strs_abv (n : Nat) : ∀ ns : List (List UInt8), (strs ns).all (abvL n) = true
  | [] => rfl
  | s :: r => by simp only [strs, List.map_cons, List.all_cons, abvL, AV.abv]; exact strs_abv n r
theorem cpS_abv (n : Nat) (ns : List (List UInt8)) : (cpS n ns).1.abv n = true ∧ ∀ x ∈ (cpS n ns).2, Blk.abv n x = true := by
  cases ns with
  | nil => exact ⟨rfl, fun x hx => by cases hx⟩
  | cons s r =>
    refine ⟨by simp [cpS, AV.abv], fun x hx => ?_⟩
    simp [cpS] at hx; subst hx
    exact strs_abv n (s :: r)
theorem copyTextsL_ok (ns : List (List UInt8)) (hl : Len ns) (H : Heap) : FCall P 103 [.fsl 1 (strs ns)] H fun r H' => r = (cpS H.length ns).1 ∧ H' = H ++ (cpS H.length ns).2 := by
  refine fcall_walk T_ok ok_103 rfl ?_
  unfold Go.Proofs.Try.f103
  simp only [Option.getD_some, envOf, Nat.zero_add, Nat.reduceAdd]
  have hall := strs_all ns
  (all_goals (have X1 := @strs_len; have X2 := @hall; (repeat' (first | refine gx ?_ | (refine gd ?_ ?_ <;> (intro hcond; try (exfalso; omega))) | fail)); all_goals try clear X1 X2))
  · have : ns = [] := List.eq_nil_of_length_eq_zero (by omega)
    subst this
    exact ⟨rfl, by simp [cpS]⟩
  · cases ns with
    | nil => simp at hcond
    | cons s ns =>
      refine ⟨rfl, ?_⟩
      simp only [List.take_zero, List.nil_append, Nat.min_self, cpS]
      rw [List.drop_of_length_le (by simp), List.append_nil, List.take_of_length_le (by rw [strs_len]; exact Nat.le_refl _)]
theorem copyWithinL_ok (v : GV) (hf : v.fits) (H : Heap) : FCall P 85 [.agg v.enc, .nilp] H fun r H' => ∃ Bs, H' = H ++ Bs ∧ LTB H.length v Bs r := by
  refine FCall.kill (R := fun r H' => ∃ N aL aN, H' = H ++ N ∧ r = .agg [.int .i64 v.k, .int .i64 v.n, .str v.t, aL, aN] ∧ LiveL H.length N 5 (encs v.l) aL ∧ LiveL H.length N 1 (strs v.ns) aN) ?_ ?_
  rotate_left
  · rintro r _ ⟨N, aL, aN, rfl, rfl, h1, h2⟩
    obtain ⟨Bs, h3, h4, h5⟩ := ltb_of h1 h2
    exact ⟨H ++ Bs, by simp [h3], h4, Bs, rfl, h5⟩
  obtain ⟨k, x, t, l, ns⟩ := v
  obtain ⟨f1, f2, f3, f4, f5, f6, f7⟩ := hf
  refine fcall_walk T_ok ok_85 rfl ?_
  unfold Go.Proofs.Try.f85
  simp only [Option.getD_some, envOf, Nat.zero_add, Nat.reduceAdd, GV.enc]
  (all_goals (have X1 := @encs_len; (repeat' (first | refine gx ?_ | (refine gd ?_ ?_ <;> (intro hcond; try (exfalso; omega))) | fail)); all_goals try clear X1))
  (have X1 := @encs_len; ((apply ard_fcall (log := []) rfl ok_103); (focus exact eva); (focus exact fun H1 e1 e2 => by simpa [e1] using copyTextsL_ok ns f6 H1); (rotate_left 5); (focus rfl); (focus rfl)); all_goals try clear X1)
  rotate_left
  · rfl
  · intro b hb; cases hb
  · intro b hb; cases hb
  · simpa using (cpS_abv (H.length + 2) ns).1
  · simpa using (cpS_abv (H.length + 2) ns).2
  have hcT : (cpS (H.length + 2) ns).1.isCell = true := by cases ns <;> rfl
  have hN : LiveL H.length (.dead :: .dead :: (cpS (H.length + 2) ns).2) 1 (strs ns) (cpS (H.length + 2) ns).1 := by
    cases ns with
    | nil => exact .inl ⟨rfl, rfl⟩
    | cons s ns => exact .inr ⟨by simp [strs], 2, some (ns.length + 1), by simp [cpS], by simp [cpS, strs], rfl⟩
  obtain ⟨⟨aT, S⟩, hcp⟩ : ∃ p, cpS (H.length + 2) ns = p := ⟨_, rfl⟩
  simp only [hcp, List.append_assoc, List.cons_append, List.nil_append] at hcT hN ⊢
  have hsT := solid_of_cell hcT
  have hclT := cells_of_cell hcT
  (all_goals (have X1 := @encs_len; have X2 := @hcT; have X3 := @hsT; have X4 := @hclT; (repeat' (first | refine gx ?_ | (refine gd ?_ ?_ <;> (intro hcond; try (exfalso; omega))) | fail)); all_goals try clear X1 X2 X3 X4))
  refine ard_done_of [(0, 2), (0, 3), (0, 4), (0, 5), (0, 6), (0, 7), (0, 8), (0, 10), (1, 2), (1, 3), (1, 4), (1, 5), (1, 6), (1, 7), (1, 8), (1, 10), (2, 4), (2, 5), (2, 6), (2, 7), (2, 8), (2, 10), (3, 4), (3, 5), (3, 6), (3, 7), (3, 8), (3, 10), (4, 6), (4, 7), (4, 8), (4, 10), (5, 6), (5, 7), (5, 8), (5, 10), (6, 10), (7, 10), (8, 10), (9, 10)] rfl rfl rfl rfl ?_ ?_
  · refine ep ?_; try exact trivial
    repeat' apply And.intro
    all_goals first | (apply all_newWr'; intro k x h1 h2; simp at h1 h2 ⊢; done) | (apply all_newWr'; intro k x h1 h2; simp at h1 h2 ⊢; omega) | (simp; done) | (simp; omega) | skip
  (all_goals (have X1 := @encs_len; have X2 := @hcT; have X3 := @hsT; have X4 := @hclT; (repeat' (first | refine gx ?_ | (refine gd ?_ ?_ <;> (intro hcond; try (exfalso; omega))) | fail)); all_goals try clear X1 X2 X3 X4))
  · have hl0 : l = [] := List.eq_nil_of_length_eq_zero (by omega)
    subst hl0
    exact ⟨_, .nsl 5, aT, rfl, rfl, .inl ⟨rfl, rfl⟩, hN.mono (by simp) fun i h1 h2 => by
      match i, h1, h2 with
      | 0, _, h2 => cases h2
      | 1, _, h2 => cases h2
      | i + 2, h1, h2 =>
        have h1 : i < S.length := by simpa using h1
        have h2 : Heap.at S i = .row 1 (strs ns) := h2
        exact (Heap.at_old S _ h1).trans h2⟩
  have h0 : 0 < l.length := by omega
  (have X1 := @encs_len; have X2 := @hcT; have X3 := @hsT; have X4 := @hclT; ((apply ar_call rfl ok_63); (focus exact eva); (focus exact spanOf_ok l h0 f4); (focus rfl); (focus rfl)); all_goals try clear X1 X2 X3 X4)
  (all_goals (have X1 := @encs_len; have X2 := @hcT; have X3 := @hsT; have X4 := @hclT; (repeat' (first | refine gx ?_ | (refine gd ?_ ?_ <;> (intro hcond; try (exfalso; omega))) | fail)); all_goals try clear X1 X2 X3 X4))
  refine aw_loopn (fun kk env H1 => env = [(7, .nilp), (6, .ptr (H.length + (S.length + 1 + 1 + 1)) 0 0), (5, .ptr (H.length + (S.length + 1 + 1)) 0 0), (4, .ptr (H.length + 1) 0 0), (2, .ptr H.length 0 0), (1, .nilp)] ∧ H1 = H ++ Blk.row 5 [[.int .i64 k, .int .i64 x, .str t, .fsl 5 (encs l), .fsl 1 (strs ns)]] :: Blk.row 5 [[.int .i64 0, .int .i64 0, .str [], .nsl 5, .nsl 1]] :: (S ++ [Blk.row 5 [[.int .i64 k, .int .i64 x, .str t, .nsl 5, aT]], Blk.row 2 [[.fptr (encs l).flatten, .int .i64 l.length]]])) 0
    [(7, .nilp), (6, .ptr (H.length + (S.length + 1 + 1 + 1)) 0 0), (5, .ptr (H.length + (S.length + 1 + 1)) 0 0), (4, .ptr (H.length + 1) 0 0), (2, .ptr H.length 0 0), (1, .nilp)] _ sb (heapW_refl _) rfl ⟨rfl, rfl⟩ ?_
  rintro kk env H1 ⟨rfl, rfl⟩
  (all_goals (have X1 := @encs_len; have X2 := @hcT; have X3 := @hsT; have X4 := @hclT; (repeat' (first | refine gx ?_ | (refine gd ?_ ?_ <;> (intro hcond; try (exfalso; omega))) | fail)); all_goals try clear X1 X2 X3 X4))
  have haN : LiveL H.length (Blk.row 5 [[.int .i64 k, .int .i64 x, .str t, .fsl 5 (encs l), .fsl 1 (strs ns)]] :: Blk.row 5 [[.int .i64 0, .int .i64 0, .str [], .nsl 5, .nsl 1]] :: (S ++ [Blk.row 5 [[.int .i64 k, .int .i64 x, .str t, .row (H.length + (S.length + 2 + 1 + 1)) 0 l.length (some l.length) 5, aT]], Blk.row 2 [[.fptr (encs l).flatten, .int .i64 l.length]], Blk.row 5 (List.replicate l.length [.int .i64 0, .int .i64 0, .str [], .nsl 5, .nsl 1]), Blk.row 4 [[.fptr (encs l).flatten, .int .i64 l.length, .row (H.length + (S.length + 2 + 1 + 1)) 0 l.length (some l.length) 5, .nilp]]])) 1 (strs ns) aT := hN.mono (by simp) fun i h1 h2 => by
    match i, h1, h2 with
    | 0, _, h2 => cases h2
    | 1, _, h2 => cases h2
    | i + 2, h1, h2 =>
      have h1 : i < S.length := by simpa using h1
      have h2 : Heap.at S i = .row 1 (strs ns) := h2
      exact (Heap.at_old S _ h1).trans h2
  have hSa : ∀ (L : List Blk) (i : Nat), Heap.at (S ++ L) (S.length + i) = Heap.at L i := fun L i => Heap.at_app S L i
  have z2 : ∀ L : List Blk, ∀ x0 x1, Heap.at (H ++ x0 :: x1 :: (S ++ L)) (H.length + (S.length + 1 + 1)) = Heap.at L 0 := fun L x0 x1 => (Heap.at_app H _ _).trans (hSa L 0)
  have z4 : ∀ L : List Blk, ∀ x0 x1, Heap.at (H ++ x0 :: x1 :: (S ++ L)) (H.length + (S.length + 2 + 1 + 1)) = Heap.at L 2 := fun L x0 x1 => (Heap.at_app H _ _).trans (hSa L 2)
  have z5 : ∀ L : List Blk, ∀ x0 x1, Heap.at (H ++ x0 :: x1 :: (S ++ L)) (H.length + (S.length + 3 + 1 + 1)) = Heap.at L 3 := fun L x0 x1 => (Heap.at_app H _ _).trans (hSa L 3)
  obtain ⟨a, ha⟩ : ∃ a, H.length + (S.length + 1 + 1) = a := ⟨_, rfl⟩
  obtain ⟨b, hb⟩ : ∃ b, H.length + (S.length + 2 + 1 + 1) = b := ⟨_, rfl⟩
  obtain ⟨c, hc⟩ : ∃ c, H.length + (S.length + 3 + 1 + 1) = c := ⟨_, rfl⟩
  rw [ha] at z2
  rw [hb] at z4 haN
  rw [hc] at z5
  rw [ha, hb, hc]
  refine aw_loopn (fun kk env H1 => ∃ i : Nat, i ≤ l.length ∧ kk = l.length - i ∧ env = [(4, .ptr (H.length + 1) 0 0), (5, .ptr a 0 0), (8, .ptr c 0 0), (60, .fsl 5 (encs l)), (61, .int .i64 l.length), (62, .int .i64 i)] ∧
      H.length + S.length + 6 ≤ H1.length ∧ H1.at (H.length + 1) = .row 5 [[.int .i64 0, .int .i64 0, .str [], .nsl 5, .nsl 1]] ∧ H1.at a = .row 5 [[.int .i64 k, .int .i64 x, .str t, .row b 0 l.length (some l.length) 5, aT]] ∧ H1.at b = .row 5 (encs (l.take i) ++ List.replicate (l.length - i) [.int .i64 0, .int .i64 0, .str [], .nsl 5, .nsl 1]) ∧
      (H1.at c = .row 4 [[.fptr (encs l).flatten, .int .i64 l.length, .row b 0 l.length (some l.length) 5, .nilp]]) ∧ ∃ N, H1 = H ++ N ∧ LiveL H.length N 1 (strs ns) aT) l.length
      [(4, .ptr (H.length + 1) 0 0), (5, .ptr a 0 0), (8, .ptr c 0 0), (60, .fsl 5 (encs l)), (61, .int .i64 l.length), (62, .int .i64 0)] _ sb (heapW_refl _) rfl ⟨0, Nat.zero_le _, rfl, rfl, by simp; omega, Heap.at_app _ _ 1, z2 _ _ _, (z4 _ _ _).trans rfl, z5 _ _ _, _, rfl, haN⟩ ?_
  rintro kk env H1 ⟨i, hi, rfl, rfl, hle, g1, g2, g4, g5, N, hN1, hLN⟩
  by_cases hlt : i < l.length
  · obtain ⟨u, hu⟩ : ∃ u, l.getD i default = u := ⟨_, rfl⟩
    have hum : u ∈ l := hu ▸ mem_getD hlt
    have huf := fitss_mem f5 u hum
    have hus := sizes_mem hum
    have hge : (encs l).getD i [] = u.enc := by rw [encs_get hlt, hu]
    have a2 : ∀ L, Heap.at (H1 ++ L) a = _ := fun L => (Heap.at_old _ _ (by omega)).trans g2
    have a4 : ∀ L, Heap.at (H1 ++ L) b = _ := fun L => (Heap.at_old _ _ (by omega)).trans g4
    obtain ⟨uk, un, ut, ul, uns⟩ := u
    (all_goals (have X1 := @encs_len; have X2 := @a2; have X3 := @a4; have X4 := @hge; (repeat' (first | refine gx ?_ | (refine gd ?_ ?_ <;> (intro hcond; try (exfalso; omega))) | fail)); all_goals try clear X1 X2 X3 X4))
    obtain ⟨G, hG⟩ : ∃ G, H1 ++ [Blk.row 5 [[.int .i64 uk, .int .i64 un, .str ut, .fsl 5 (encs ul), .fsl 1 (strs uns)]]] = G := ⟨_, rfl⟩
    have hGl : H1.length < G.length := by rw [← hG]; simp
    have hCG : Chain G (.ptr c 0 0) (l :: []) (c :: []) := ⟨c, b, .nilp, [], rfl, by rw [← hG]; exact (Heap.at_old _ _ (by omega)).trans g5, ⟨by omega, by omega⟩, h0, f4, rfl, rfl, rfl⟩
    rw [hG]
    (have X1 := @encs_len; have X2 := @a2; have X3 := @a4; have X4 := @hge; ((apply ard_rcall (log := c :: []) rfl ok_85); (focus exact eva); (focus exact fun H2 e1 e2 => copyWithinF ⟨uk, un, ut, ul, uns⟩ huf H2 _ (l :: []) _ (hCG.mono (by omega) e2) (by intro m hm; rcases List.mem_cons.1 hm with rfl | hm; exact Nat.le_of_lt hus; cases hm)); (rotate_left 5); (focus rfl); (focus rfl)); all_goals try clear X1 X2 X3 X4)
    rotate_left
    · simp only [blwL, AV.blw, Bool.and_true, Bool.true_and, Nat.blt_eq]; omega
    · exact fun c hc => (hCG.rows c hc).1
    · exact fun c hc => (hCG.rows c hc).2
    · rfl
    · rfl
    have hrep : List.replicate (l.length - i) [AV.int .i64 0, .int .i64 0, .str [], .nsl 5, .nsl 1] = [AV.int .i64 0, .int .i64 0, .str [], .nsl 5, .nsl 1] :: List.replicate (l.length - (i + 1)) [AV.int .i64 0, .int .i64 0, .str [], .nsl 5, .nsl 1] := by
      rw [show l.length - i = (l.length - (i + 1)) + 1 by omega]; rfl
    have hXl : (encs (l.take i)).length = i := by rw [encs_len]; simp; omega
    have hgm := fun (z d : List AV) => getD_mid (y := List.replicate (l.length - (i + 1)) [AV.int .i64 0, .int .i64 0, .str [], .nsl 5, .nsl 1]) (e := z) (d := d) hXl
    have hsm := fun (z z' : List AV) => set_mid (y := List.replicate (l.length - (i + 1)) [AV.int .i64 0, .int .i64 0, .str [], .nsl 5, .nsl 1]) (e := z) (e' := z') hXl
    have G4 : G.at b = .row 5 (encs (l.take i) ++ [AV.int .i64 0, .int .i64 0, .str [], .nsl 5, .nsl 1] :: List.replicate (l.length - (i + 1)) [AV.int .i64 0, .int .i64 0, .str [], .nsl 5, .nsl 1]) := by rw [← hG, ← hrep]; exact a4 _
    (all_goals (have X1 := @encs_len; have X2 := @G4; have X3 := @hgm; have X4 := @hsm; have X5 := @GV.enc.eq_1; (repeat' (first | refine gx ?_ | (refine gd ?_ ?_ <;> (intro hcond; try (exfalso; omega))) | fail)); all_goals try clear X1 X2 X3 X4 X5))
    have hput : ∀ x c, c ≠ b → c < H1.length → (G.put b x).at c = H1.at c := fun x c h1 h2 => by
      rw [Heap.at_put_ne _ _ _ _ h1, ← hG]; exact Heap.at_old _ _ h2
    refine anextn [(4, .ptr (H.length + 1) 0 0), (5, .ptr a 0 0), (8, .ptr c 0 0), (60, .fsl 5 (encs l)), (61, .int .i64 l.length), (62, .int .i64 ((i + 1 : Nat) : Int))] _ (k' := l.length - (i + 1)) (by omega) (by rw [Heap.put_length _ _ _ (by omega)]; omega) sb (heapW_refl _) rfl
      ⟨i + 1, by omega, rfl, rfl, by rw [Heap.put_length _ _ _ (by omega)]; omega, (hput _ _ (by omega) (by omega)).trans g1, (hput _ _ (by omega) (by omega)).trans g2, ?_, (hput _ _ (by omega) (by omega)).trans g5, ?_⟩
    · rw [Heap.at_put_same, encs_take hlt, hu]
      simp only [List.append_assoc, List.cons_append, List.nil_append, GV.enc]
    · have hNl : H1.length = H.length + N.length := by rw [hN1]; simp
      have hbN : b = H.length + (b - H.length) := by omega
      rw [← hG, hN1, List.append_assoc]
      conv => enter [1, N, 1, 1, 2]; rw [hbN]
      rw [Heap.put_app]
      refine ⟨_, rfl, hLN.mono (by rw [Heap.put_length _ _ _ (by simp; omega)]; simp) fun j h1 h2 => ?_⟩
      rw [Heap.at_put_ne]
      · exact (Heap.at_old _ _ h1).trans h2
      · intro e
        have : H1.at b = .row 1 (strs ns) := by rw [hN1, hbN, Heap.at_app, ← e]; exact h2
        rw [g4] at this
        cases this
  · have : i = l.length := by omega
    subst this
    have e1 := Heap.at_put_same H1 (H.length + 1) (Blk.row 5 [[.int .i64 k, .int .i64 x, .str t, .row b 0 l.length (some l.length) 5, aT]])
    (all_goals (have X1 := @encs_len; have X2 := @g2; have X3 := @g1; have X4 := @e1; have X5 := @hcT; have X6 := @hsT; have X7 := @hclT; (repeat' (first | refine gx ?_ | (refine gd ?_ ?_ <;> (intro hcond; try (exfalso; omega))) | fail)); all_goals try clear X1 X2 X3 X4 X5 X6 X7))
    have f4 : (H1.put (H.length + 1) (Blk.row 5 [[.int .i64 k, .int .i64 x, .str t, .row b 0 l.length (some l.length) 5, aT]])).at b = .row 5 (encs l) := by rw [Heap.at_put_ne _ _ _ _ (by omega), g4]; simp
    have hNl : H1.length = H.length + N.length := by rw [hN1]; simp
    have hbN : b = H.length + (b - H.length) := by omega
    have hpl : ∀ x, (Heap.put N 1 x).length = N.length := fun x => Heap.put_length N 1 x (by omega)
    have hbl : b - H.length < N.length := by omega
    have hNa : N.at 1 = .row 5 [[.int .i64 0, .int .i64 0, .str [], .nsl 5, .nsl 1]] := by rw [hN1, Heap.at_app] at g1; exact g1
    have hNb : N.at (b - H.length) = .row 5 (encs l) := by
      have h9 := g4
      rw [hN1] at h9
      conv at h9 => lhs; rw [hbN]
      rw [Heap.at_app] at h9
      rw [h9]; simp
    have hEl : (encs l).length = l.length := encs_len l
    rw [hN1, Heap.put_app]
    refine ⟨_, .row b 0 l.length (some l.length) 5, aT, rfl, rfl, .inr ⟨fun h => ?_, b - H.length, some l.length, by rw [hpl]; exact hbl, ?_, ?_⟩, hLN.mono (by rw [hpl]; exact Nat.le_refl _) fun j h1 h2 => ?_⟩
    · have h8 : (encs l).length = 0 := by rw [show encs l = [] from h]; rfl
      omega
    · rw [← hbN]; show AV.row b 0 l.length (some l.length) 5 = .row b 0 (encs l).length (some l.length) 5; rw [hEl]
    · rw [Heap.at_put_ne _ _ _ _ (by omega)]; exact hNb
    · rw [Heap.at_put_ne]
      · exact h2
      · intro e
        rw [e, hNa] at h2
        cases h2
end Go.Av
set_option linter.unusedVariables false
set_option linter.unusedSimpArgs false
namespace Go.Av
open Go
set_option maxRecDepth 10000
set_option maxHeartbeats 1000000
theorem LiveL.shift {n n' : Nat} {Bs : List Blk} {sz : Nat} {es : List (List AV)} {a : AV} (h : LiveL n' Bs sz es a) (p : List Blk) (hn : n' = n + p.length) : LiveL n (p ++ Bs) sz es a := by
  rcases h with h | ⟨h1, i, cap, h2, h3, h4⟩
  · exact .inl h
  · refine .inr ⟨h1, p.length + i, cap, by simp; omega, ?_, (Heap.at_app p Bs i).trans h4⟩
    rw [h3, hn, Nat.add_assoc]
theorem copyValueL_ok (v : GV) (hf : v.fits) (H : Heap) : FCall P 57 [.agg v.enc] H fun r H' => ∃ Bs, H' = H ++ Bs ∧ LTB H.length v Bs r := by
  refine FCall.kill (R := fun r H' => ∃ N aL aN, H' = H ++ N ∧ r = .agg [.int .i64 v.k, .int .i64 v.n, .str v.t, aL, aN] ∧ LiveL H.length N 5 (encs v.l) aL ∧ LiveL H.length N 1 (strs v.ns) aN) ?_ ?_
  rotate_left
  · rintro r _ ⟨N, aL, aN, rfl, rfl, h1, h2⟩
    obtain ⟨Bs, h3, h4, h5⟩ := ltb_of h1 h2
    exact ⟨H ++ Bs, by simp [h3], h4, Bs, rfl, h5⟩
  refine fcall_walk T_ok ok_57 rfl ?_
  unfold Go.Proofs.Try.f57
  simp only [Option.getD_some, envOf, Nat.zero_add, Nat.reduceAdd]
  obtain ⟨k, n, t, l, ns⟩ := v
  (all_goals (have X1 := @GV.enc.eq_1; (repeat' (first | refine gx ?_ | (refine gd ?_ ?_ <;> (intro hcond; try (exfalso; omega))) | fail)); all_goals try clear X1))
  (have X1 := @GV.enc.eq_1; ((apply ar_fcall rfl ok_85); (focus exact eva); (focus exact copyWithinL_ok ⟨k, n, t, l, ns⟩ hf _); (focus rfl); (focus rfl)); all_goals try clear X1)
  rintro _ _ ⟨Bs, rfl, aL, aN, rfl, hL, hN, _⟩
  have hcL := hL.get.1
  have hcN := hN.get.1
  have hsL := solid_of_cell hcL
  have hsN := solid_of_cell hcN
  have hclL := cells_of_cell hcL
  have hclN := cells_of_cell hcN
  simp only [List.append_assoc, List.cons_append, List.nil_append, GV.k, GV.n, GV.t]
  (all_goals (have X1 := @GV.enc.eq_1; have X2 := @hcL; have X3 := @hcN; have X4 := @hsL; have X5 := @hsN; have X6 := @hclL; have X7 := @hclN; (repeat' (first | refine gx ?_ | (refine gd ?_ ?_ <;> (intro hcond; try (exfalso; omega))) | fail)); all_goals try clear X1 X2 X3 X4 X5 X6 X7))
  refine ⟨_, aL, aN, rfl, rfl, hL.shift (p := [_, _]) ?_, hN.shift (p := [_, _]) ?_⟩
  · simp
  · simp
end Go.Av
set_option linter.unusedVariables false
set_option linter.unusedSimpArgs false
namespace Go.Av
open Go
set_option maxRecDepth 10000
set_option maxHeartbeats 1000000
theorem LTB.idin {n : Nat} {v : GV} {Bs : List Blk} {r : AV} (h : LTB n v Bs r) : r.idin [] n = true ∧ ∀ x ∈ Bs, Blk.idin [] n x = true := by
  obtain ⟨aL, aN, rfl, hL, hN, hB⟩ := h
  refine ⟨?_, fun x hx => ?_⟩
  · simp [AV.idin, idinL, hL.get.2, hN.get.2]
  · have h1 : ∀ ys : List (List AV), (∀ y ∈ ys, idinL [] n y = true) → Blk.idin [] n (.row 5 ys) = true ∧ Blk.idin [] n (.row 1 ys) = true := fun ys h => by simp [Blk.idin]; exact h
    rcases hB x hx with rfl | rfl | rfl
    · rfl
    · refine (h1 _ fun y hy => ?_).1
      rw [encs_eq] at hy; obtain ⟨w, _, rfl⟩ := List.mem_map.1 hy
      cases w; rfl
    · refine (h1 _ fun y hy => ?_).2
      simp [strs] at hy; obtain ⟨w, _, rfl⟩ := hy
      rfl
def LiveH (n : Nat) (H : Heap) (sz : Nat) (es : List (List AV)) (a : AV) : Prop := (es = [] ∧ a = .nsl sz) ∨ (es ≠ [] ∧ ∃ i cap, a = .row i 0 es.length cap sz ∧ H.at i = .row sz es ∧ n ≤ i)
def LiveNd (n : Nat) (H : Heap) (u : GN) (r : List AV) : Prop := ∃ aL aN, r = [.int .i64 u.id, .str u.ty, .int .i64 u.cells.k, .int .i64 u.cells.n, .str u.cells.t, aL, aN] ∧ LiveH n H 5 (encs u.cells.l) aL ∧ LiveH n H 1 (strs u.cells.ns) aN
theorem LiveH.mono {n : Nat} {H H' : Heap} {sz : Nat} {es : List (List AV)} {a : AV} (h : LiveH n H sz es a) (hh : ∀ c, H.at c = .row sz es → H'.at c = .row sz es) : LiveH n H' sz es a := by
  rcases h with h | ⟨h1, i, cap, h2, h3, h4⟩
  · exact .inl h
  · exact .inr ⟨h1, i, cap, h2, hh i h3, h4⟩
theorem LiveL.heap {n : Nat} {H : Heap} {Bs : List Blk} {sz : Nat} {es : List (List AV)} {a : AV} (h : LiveL H.length Bs sz es a) (hn : n ≤ H.length) : LiveH n (H ++ Bs) sz es a := by
  rcases h with h | ⟨h1, i, cap, h2, h3, h4⟩
  · exact .inl h
  · exact .inr ⟨h1, H.length + i, cap, h3, (Heap.at_app _ _ _).trans h4, by omega⟩
theorem set_snoc {α : Type} (xs : List α) (k : Nat) (y e : α) (h : k ≠ xs.length) : xs.set k y ++ [e] = (xs ++ [e]).set k y := by
  rcases Nat.lt_or_ge k xs.length with h1 | h1
  · rw [List.set_append_left _ _ h1]
  · rw [List.set_eq_of_length_le h1, List.set_eq_of_length_le (by simp; omega)]
abbrev zN : List AV := [.int .i64 0, .str [], .int .i64 0, .int .i64 0, .str [], .nsl 5, .nsl 1]
theorem copyNodesL_ok (l : List GN) (hl : Len l) (hf : ∀ v ∈ l, v.fits) (h0 : 0 < l.length) (at' : Nat) (H : Heap) : FCall P 30 [.fsl 7 (encn l)] H fun r H' => ∃ b live, r = .row b 0 l.length (some l.length) 7 ∧ H.length ≤ b ∧ b < H'.length ∧ (∀ c, c < H.length → H'.at c = H.at c) ∧ H'.at b = .row 7 ((encn l).set at' live) ∧ (at' < l.length → LiveNd H.length H' (l.getD at' default) live) := by
  refine fcall_walk T_ok ok_30 rfl ?_
  unfold Go.Proofs.Try.f30
  simp only [Option.getD_some, envOf, Nat.zero_add, Nat.reduceAdd]
  (all_goals (have X1 := @encn_len; (repeat' (first | refine gx ?_ | (refine gd ?_ ?_ <;> (intro hcond; try (exfalso; omega))) | fail)); all_goals try clear X1))
  refine aw_loopn (fun kk env H1 => ∃ (i : Nat) (live : List AV), i ≤ l.length ∧ kk = l.length - i ∧ env = [(3, .row H.length 0 l.length (some l.length) 7), (12, .fsl 7 (encn l)), (13, .int .i64 l.length), (14, .int .i64 i)] ∧ H.length < H1.length ∧ (∀ c, c < H.length → H1.at c = H.at c) ∧
      H1.at H.length = .row 7 ((encn (l.take i)).set at' live ++ List.replicate (l.length - i) zN) ∧ (at' < i → LiveNd H.length H1 (l.getD at' default) live)) l.length
    [(3, .row H.length 0 l.length (some l.length) 7), (12, .fsl 7 (encn l)), (13, .int .i64 l.length), (14, .int .i64 0)] _ sb (heapW_refl _) rfl ⟨0, [], Nat.zero_le _, rfl, rfl, by simp, fun c hc => Heap.at_old _ _ hc, Heap.at_app _ _ 0, fun h => by omega⟩ ?_
  rintro kk env H1 ⟨i, live, hi, rfl, rfl, hle, hold, hat, hlive⟩
  by_cases hlt : i < l.length
  · obtain ⟨u, hu⟩ : ∃ u, l.getD i default = u := ⟨_, rfl⟩
    have huf : u.fits := hu ▸ hf _ (mem_getD hlt)
    have hge : (encn l).getD i [] = u.enc := by rw [encn_get hlt, hu]
    obtain ⟨uid, uty, ⟨uk, un, ut, ul, uns⟩⟩ := u
    have hrep : List.replicate (l.length - i) zN = zN :: List.replicate (l.length - (i + 1)) zN := by
      rw [show l.length - i = (l.length - (i + 1)) + 1 by omega]; rfl
    have hXl : ((encn (l.take i)).set at' live).length = i := by rw [List.length_set, encn_len]; simp; omega
    have hgm := fun (z d : List AV) => getD_mid (y := List.replicate (l.length - (i + 1)) zN) (e := z) (d := d) hXl
    have hsm := fun (z z' : List AV) => set_mid (y := List.replicate (l.length - (i + 1)) zN) (e := z) (e' := z') hXl
    have htk : encn (l.take (i + 1)) = encn (l.take i) ++ [GN.enc ⟨uid, uty, ⟨uk, un, ut, ul, uns⟩⟩] := by
      rw [List.take_succ_eq_append_getElem hlt]; unfold encn; rw [List.map_append, List.map_cons, List.map_nil, ← hu, List.getD_eq_getElem?_getD, List.getElem?_eq_getElem hlt]; rfl
    rw [hrep] at hat
    by_cases hia : i = at'
    · subst hia
      (all_goals (have X1 := @encn_len; have X2 := @hge; have X3 := @GN.enc.eq_1; have X4 := @GV.enc.eq_1; (repeat' (first | refine gx ?_ | (refine gd ?_ ?_ <;> (intro hcond; try (exfalso; omega))) | fail)); all_goals try clear X1 X2 X3 X4))
      (have X1 := @encn_len; have X2 := @hge; have X3 := @GN.enc.eq_1; have X4 := @GV.enc.eq_1; ((apply ard_ocall (log := []) (F := fun r ws Bs => ws = [] ∧ LTB (H1.length + 1) ⟨uk, un, ut, ul, uns⟩ Bs r) rfl ok_57); (focus exact eva); (focus exact fun H2 e1 e2 => FCall.mono (copyValueL_ok ⟨uk, un, ut, ul, uns⟩ huf.2.2 H2) (by rintro r _ ⟨Bs, rfl, h⟩; rw [e1] at h; exact ⟨[], Bs, ⟨rfl, by simpa using h⟩, rfl⟩)); (focus rfl); (focus rfl); (focus (simp only [List.length_cons, List.length_nil, Nat.zero_add, Nat.reduceAdd]; kernel_rfl))); all_goals try clear X1 X2 X3 X4)
      · (refine orderOK_pre 9 [(0, 1), (0, 2), (0, 3), (0, 4), (0, 5), (0, 6), (0, 7), (0, 8), (1, 2), (1, 3), (1, 4), (1, 5), (1, 6), (1, 7), (1, 8), (2, 4), (2, 5), (2, 6), (2, 7), (2, 8), (3, 4), (3, 5), (3, 6), (3, 7), (3, 8), (4, 6), (4, 7), (4, 8), (5, 6), (5, 7), (5, 8)] rfl rfl rfl rfl rfl ?_)
        refine ep ?_; try exact trivial
        all_goals first | (simp; done) | skip
      · simp [blwL, AV.blw]
      · intro b hb; cases hb
      · intro b hb; cases hb
      · rintro r ws Bs ⟨rfl, h⟩
        rw [show (H1 ++ [Blk.row 7 [[.int .i64 uid, .str uty, .int .i64 uk, .int .i64 un, .str ut, .fsl 5 (encs ul), .fsl 1 (strs uns)]]]).length = H1.length + 1 by simp]
        exact ⟨h.idin.1, (by simp), h.idin.2⟩
      rintro r ws Bs ⟨rfl, aL, aN, rfl, hL, hN, hBs⟩
      have hcL := hL.get.1
      have hcN := hN.get.1
      have hsL := solid_of_cell hcL
      have hsN := solid_of_cell hcN
      have hclL := cells_of_cell hcL
      have hclN := cells_of_cell hcN
      simp only [Heap.puts, GV.k, GV.n, GV.t]
      have hnl : (H1 ++ [Blk.row 7 [[.int .i64 uid, .str uty, .int .i64 uk, .int .i64 un, .str ut, .fsl 5 (encs ul), .fsl 1 (strs uns)]]]).length = H1.length + 1 := by simp
      rw [← hnl] at hL hN
      have hLH := hL.heap (n := H.length) (by simp; omega)
      have hNH := hN.heap (n := H.length) (by simp; omega)
      obtain ⟨G, hG⟩ : ∃ G, (H1 ++ [Blk.row 7 [[.int .i64 uid, .str uty, .int .i64 uk, .int .i64 un, .str ut, .fsl 5 (encs ul), .fsl 1 (strs uns)]]]) ++ Bs = G := ⟨_, rfl⟩
      have hGo : ∀ c, c < H1.length → G.at c = H1.at c := fun c hc => by rw [← hG, List.append_assoc]; exact Heap.at_old _ _ hc
      have hGl : H1.length < G.length := by rw [← hG]; simp
      have gat := (hGo _ hle).trans hat
      rw [hG] at hLH hNH ⊢
      (all_goals (have X1 := @encn_len; have X2 := @gat; have X3 := @hgm; have X4 := @hsm; have X5 := @hcL; have X6 := @hcN; have X7 := @hsL; have X8 := @hsN; have X9 := @hclL; have X10 := @hclN; (repeat' (first | refine gx ?_ | (refine gd ?_ ?_ <;> (intro hcond; try (exfalso; omega))) | fail)); all_goals try clear X1 X2 X3 X4 X5 X6 X7 X8 X9 X10))
      refine ard_done_of [(0, 1), (0, 2), (0, 3), (0, 4), (0, 5), (0, 6), (0, 7), (0, 8), (0, 9), (1, 2), (1, 3), (1, 4), (1, 5), (1, 6), (1, 7), (1, 8), (1, 9), (2, 4), (2, 5), (2, 6), (2, 7), (2, 8), (3, 4), (3, 5), (3, 6), (3, 7), (3, 8), (4, 6), (4, 7), (4, 8), (5, 6), (5, 7), (5, 8)] rfl rfl rfl rfl ?_ ?_
      · refine ep ?_; try exact trivial
        repeat' apply And.intro
        all_goals first | (apply all_newWr'; intro k x h1 h2; simp at h1 h2 ⊢; done) | (apply all_newWr'; intro k x h1 h2; simp at h1 h2 ⊢; omega) | (simp; done) | (simp; omega) | skip
      (all_goals (have X1 := @encn_len; have X2 := @gat; have X3 := @hgm; have X4 := @hsm; have X5 := @hcL; have X6 := @hcN; have X7 := @hsL; have X8 := @hsN; have X9 := @hclL; have X10 := @hclN; (repeat' (first | refine gx ?_ | (refine gd ?_ ?_ <;> (intro hcond; try (exfalso; omega))) | fail)); all_goals try clear X1 X2 X3 X4 X5 X6 X7 X8 X9 X10))
      have hput : ∀ x c, c ≠ H.length → c < H1.length → (G.put H.length x).at c = H1.at c := fun x c h1 h2 => by
        rw [Heap.at_put_ne _ _ _ _ h1]; exact hGo _ h2
      refine anextn [(3, .row H.length 0 l.length (some l.length) 7), (12, .fsl 7 (encn l)), (13, .int .i64 l.length), (14, .int .i64 ((i + 1 : Nat) : Int))] _ (k' := l.length - (i + 1)) (by omega) (by rw [Heap.put_length _ _ _ (by omega)]; omega) sb (heapW_refl _) rfl
        ⟨i + 1, [.int .i64 uid, .str uty, .int .i64 uk, .int .i64 un, .str ut, aL, aN], by omega, rfl, rfl, by rw [Heap.put_length _ _ _ (by omega)]; omega, fun c hc => (hput _ _ (by omega) (by omega)).trans (hold c hc), ?_, fun _ => ?_⟩
      · rw [Heap.at_put_same, htk, List.set_append_right _ _ (by rw [encn_len]; simp; omega)]
        rw [List.set_eq_of_length_le (by rw [encn_len]; simp; omega), show i - (encn (l.take i)).length = 0 by rw [encn_len]; simp; omega]
        simp only [List.append_assoc, List.cons_append, List.nil_append, List.set_cons_zero]
      · rw [hu]
        refine ⟨aL, aN, rfl, hLH.mono fun c hc => ?_, hNH.mono fun c hc => ?_⟩
        · rw [Heap.at_put_ne _ _ _ _ (fun e => by rw [e, gat] at hc; cases hc)]; exact hc
        · rw [Heap.at_put_ne _ _ _ _ (fun e => by rw [e, gat] at hc; cases hc)]; exact hc
    · obtain ⟨G, hG⟩ : ∃ G, H1 ++ [Blk.row 7 [[.int .i64 uid, .str uty, .int .i64 uk, .int .i64 un, .str ut, .fsl 5 (encs ul), .fsl 1 (strs uns)]]] = G := ⟨_, rfl⟩
      have hGo : ∀ c, c < H1.length → G.at c = H1.at c := fun c hc => by rw [← hG]; exact Heap.at_old _ _ hc
      have hGl : H1.length < G.length := by rw [← hG]; simp
      have gat := (hGo _ hle).trans hat
      (all_goals (have X1 := @encn_len; have X2 := @hge; have X3 := @GN.enc.eq_1; have X4 := @GV.enc.eq_1; (repeat' (first | refine gx ?_ | (refine gd ?_ ?_ <;> (intro hcond; try (exfalso; omega))) | fail)); all_goals try clear X1 X2 X3 X4))
      (have X1 := @encn_len; have X2 := @hge; have X3 := @GN.enc.eq_1; have X4 := @GV.enc.eq_1; ((apply ard_call rfl ok_57); (focus exact eva); (focus exact copyValueF_ok ⟨uk, un, ut, ul, uns⟩ huf.2.2); (focus rfl); (focus rfl)); all_goals try clear X1 X2 X3 X4)
      rw [hG]
      (all_goals (have X1 := @encn_len; have X2 := @hge; have X3 := @GN.enc.eq_1; have X4 := @GV.enc.eq_1; have X5 := @gat; have X6 := @hgm; have X7 := @hsm; (repeat' (first | refine gx ?_ | (refine gd ?_ ?_ <;> (intro hcond; try (exfalso; omega))) | fail)); all_goals try clear X1 X2 X3 X4 X5 X6 X7))
      have hput : ∀ x c, c ≠ H.length → c < H1.length → (G.put H.length x).at c = H1.at c := fun x c h1 h2 => by
        rw [Heap.at_put_ne _ _ _ _ h1]; exact hGo _ h2
      refine anextn [(3, .row H.length 0 l.length (some l.length) 7), (12, .fsl 7 (encn l)), (13, .int .i64 l.length), (14, .int .i64 ((i + 1 : Nat) : Int))] _ (k' := l.length - (i + 1)) (by omega) (by rw [Heap.put_length _ _ _ (by omega)]; omega) sb (heapW_refl _) rfl
        ⟨i + 1, live, by omega, rfl, rfl, by rw [Heap.put_length _ _ _ (by omega)]; omega, fun c hc => (hput _ _ (by omega) (by omega)).trans (hold c hc), ?_, fun hlt' => ?_⟩
      · rw [Heap.at_put_same, htk, ← set_snoc _ _ _ _ (by rw [encn_len]; simp; omega)]
        simp only [List.append_assoc, List.cons_append, List.nil_append, GN.enc, GV.enc]
      · obtain ⟨aL, aN, e, hL, hN⟩ := hlive (by omega)
        have hsame : ∀ c sz es, sz ≠ 7 → H1.at c = .row sz es → (G.put H.length (Blk.row 7 (List.set (encn (List.take i l)) at' live ++ [.int .i64 uid, .str uty, .int .i64 uk, .int .i64 un, .str ut, .fsl 5 (encs ul), .fsl 1 (strs uns)] :: List.replicate (l.length - (i + 1)) zN))).at c = .row sz es := fun c sz es h7 hc => by
          rw [hput _ _ (fun e => by rw [e, hat] at hc; cases hc; exact h7 rfl) (at_lt (by rw [hc]; simp))]; exact hc
        exact ⟨aL, aN, e, hL.mono fun c hc => hsame c _ _ (by decide) hc, hN.mono fun c hc => hsame c _ _ (by decide) hc⟩
  · have : i = l.length := by omega
    subst this
    (all_goals (have X1 := @encn_len; (repeat' (first | refine gx ?_ | (refine gd ?_ ?_ <;> (intro hcond; try (exfalso; omega))) | fail)); all_goals try clear X1))
    rw [List.take_length, Nat.sub_self, List.replicate_zero, List.append_nil] at hat
    exact ⟨H.length, live, rfl, Nat.le_refl _, hle, hold, hat, hlive⟩
end Go.Av
set_option linter.unusedVariables false
set_option linter.unusedSimpArgs false
namespace Go.Av
open Go
set_option maxRecDepth 10000
set_option maxHeartbeats 1000000
def setCell (u : GN) (p : Nat) (v : GV) : GN := ⟨u.id, u.ty, ⟨u.cells.k, u.cells.n, u.cells.t, u.cells.l.set p v, u.cells.ns⟩⟩
def addCell (u : GN) (s : List UInt8) (v : GV) : GN := ⟨u.id, u.ty, ⟨u.cells.k, u.cells.n, u.cells.t, u.cells.l ++ [v], u.cells.ns ++ [s]⟩⟩
def setN (l : List GN) (id : Int) (s : List UInt8) (v : GV) : List GN × Bool :=
  if storeOK l then
    if idxI l (fun n => n.id == id) < 0 ∨ nameOK s = false ∨ okV false 3 v = false then (l, false)
    else if 0 ≤ idxI (l.getD (idxI l (fun n => n.id == id)).toNat default).cells.ns (fun x => s == x) then
      (l.set (idxI l (fun n => n.id == id)).toNat (setCell (l.getD (idxI l (fun n => n.id == id)).toNat default) (idxI (l.getD (idxI l (fun n => n.id == id)).toNat default).cells.ns (fun x => s == x)).toNat v), true)
    else if 12 ≤ (l.getD (idxI l (fun n => n.id == id)).toNat default).cells.ns.length then (l, false)
    else (l.set (idxI l (fun n => n.id == id)).toNat (addCell (l.getD (idxI l (fun n => n.id == id)).toNat default) s v), true)
  else ([], false)
theorem liveH_lt {n : Nat} {H : Heap} {sz : Nat} {es : List (List AV)} {a : AV} (h : LiveH n H sz es a) (hs : ∀ x ∈ es, x.length = sz) (hf : ∀ x ∈ es, frzL x = some x) : Bor H (List.range H.length) a (.fsl sz es) := by
  rcases h with ⟨rfl, rfl⟩ | ⟨_, i, cap, rfl, hi, _⟩
  · exact bor_frz rfl
  · exact bor_rowf (by simpa using at_lt (by rw [hi]; simp)) hi hs hf
theorem liveNd_bor {n : Nat} {H : Heap} {u : GN} {r : List AV} (h : LiveNd n H u r) : BorL H (List.range H.length) r u.enc := by
  obtain ⟨aL, aN, rfl, hL, hN⟩ := h
  obtain ⟨id, ty, ⟨k, m, t, l, ns⟩⟩ := u
  exact ⟨bor_frz rfl, bor_frz rfl, bor_frz rfl, bor_frz rfl, bor_frz rfl, liveH_lt hL (encs_all5 l) (encs_frzm l), liveH_lt hN (strs_all ns) (strs_frzm ns), trivial⟩
theorem encn_frzm (l : List GN) : ∀ x ∈ encn l, frzL x = some x := fun y hy => by
  simp only [encn, List.mem_map] at hy; obtain ⟨v, _, rfl⟩ := hy
  obtain ⟨id, ty, ⟨k, n, t, l, ns⟩⟩ := v; rfl
theorem encn_all7 (l : List GN) : ∀ x ∈ encn l, x.length = 7 := fun y hy => by
  simp only [encn, List.mem_map] at hy; obtain ⟨v, _, rfl⟩ := hy
  obtain ⟨id, ty, ⟨k, n, t, l, ns⟩⟩ := v; rfl
theorem encn_set (l : List GN) (i : Nat) (u : GN) : encn (l.set i u) = (encn l).set i u.enc := by simp [encn, List.map_set]
/-- nodes in memory of the call's own, one of them with its lists -/
theorem bor_nodes {H : Heap} {b at' : Nat} {cap : Option Nat} {l : List GN} {live : List AV} {u' : GN} (hat : H.at b = .row 7 ((encn l).set at' live)) (hb : at' < l.length → BorL H (List.range H.length) live u'.enc) :
    Bor H (List.range H.length) (.row b 0 l.length cap 7) (.fsl 7 (encn (l.set at' u'))) := by
  refine bor_row (by simpa using at_lt (by rw [hat]; simp)) hat (by rw [List.length_set, encn_len]) (by rw [encn_len, List.length_set]) (encn_all7 _) fun i j hi hj => ?_
  rw [encn_set]
  by_cases h : i = at'
  · subst h
    have hi' : i < l.length := hi
    have e1 : ((encn l).set i live).getD i [] = live := by simp [List.getD_eq_getElem?_getD, encn_len, hi]
    have e2 : ((encn l).set i u'.enc).getD i [] = u'.enc := by simp [List.getD_eq_getElem?_getD, encn_len, hi]
    rw [e1, e2]
    have hl := (hb hi').len
    refine BorL.get (hb hi') j ?_
    rw [← hl, encn_all7 [u'] u'.enc (by simp [encn])]
    exact hj
  · have e1 : ((encn l).set at' live).getD i [] = (encn l).getD i [] := by simp only [List.getD_eq_getElem?_getD]; rw [List.getElem?_set_ne (by omega)]
    have e2 : ((encn l).set at' u'.enc).getD i [] = (encn l).getD i [] := by simp only [List.getD_eq_getElem?_getD]; rw [List.getElem?_set_ne (by omega)]
    rw [e1, e2]
    have hm : (encn l).getD i [] ∈ encn l := mem_getD (by rw [encn_len]; exact hi)
    exact bor_frz (frzL_at (encn_frzm l _ hm) j (by rw [encn_all7 _ _ hm]; exact hj))
theorem set_self {α : Type} (l : List α) (i : Nat) (d : α) : l.set i (l.getD i d) = l := by
  rcases Nat.lt_or_ge i l.length with h | h
  · rw [List.getD_eq_getElem?_getD, List.getElem?_eq_getElem h]; simp
  · exact List.set_eq_of_length_le h
theorem bor_tup2 {H : Heap} {S : List Nat} {a a' : AV} {b : Bool} (h : Bor H S a a') : Bor H S (.tup [a, .bool b]) (.tup [a', .bool b]) := fun C v hH hv => by
  have hb : Bor H S (.bool b) (.bool b) := bor_frz rfl
  cases hv with
  | fro _ _ hf =>
    cases hf with
    | tup _ vs hl hx =>
      refine .tup _ vs hl fun i hi => ?_
      match i, hi with
      | 0, hi => exact h C _ hH (.fro _ _ (hx 0 hi))
      | 1, hi => exact hb C _ hH (.fro _ _ (hx 1 hi))
      | i + 2, hi => simp at hi; omega
  | tup _ vs hl hx =>
    refine .tup _ vs hl fun i hi => ?_
    match i, hi with
    | 0, hi => exact h C _ hH (hx 0 hi)
    | 1, hi => exact hb C _ hH (hx 1 hi)
    | i + 2, hi => simp at hi; omega
theorem storeOK_pos {l : List GN} (h : storeOK l = true) : 0 < l.length ∧ l.length ≤ 12 := by
  unfold storeOK at h
  simp only [Bool.and_eq_true, decide_eq_true_eq] at h
  omega

abbrev zvAV : List AV := [.int .i64 0, .int .i64 0, .str [], .nsl 5, .nsl 1]
abbrev zvF : List AV := [.int .i64 0, .int .i64 0, .str [], .fsl 5 [], .fsl 1 []]
abbrev zvConst : Value := .agg #[.int .i64 0, .int .i64 0, .string { data := #[] }, .slice none 0 0, .slice none 0 0]
theorem zv_rel (C : Ctx) : VRel C (.agg zvAV) zvConst := .fro _ _ (.agg _ _ rfl fun i hi => by
  match i, hi with
  | 0, _ => exact .int _ _
  | 1, _ => exact .int _ _
  | 2, _ => exact .str _ _ rfl
  | 3, _ => exact .nsl _
  | 4, _ => exact .nsl _
  | i + 5, hi => simp at hi; omega)
theorem ard_zero {n : Nat} {ops : Array Oper} {Q : Env → Heap → Prop} {os : List Oper} {acc : List Itm} {env : Env} {H : Heap} {d : Tmp} {ty : TypeId} {pos : String} {after : Array Edge} {guard : Option (Nat × Bool)}
    (hd : Nat.blt d n = true) (hg : aguard ops ⟨some d, .buildSlice 44 1 #[(0, .const zvConst)], ty, pos, after, guard⟩ env = some true)
    (hk : AReg P n ops true Q os (⟨⟨some d, .buildSlice 44 1 #[(0, .const zvConst)], ty, pos, after, guard⟩, ⟨.asl H.length 1 5 [zvF], [(H.length, .tok 1)], []⟩⟩ :: acc) ((d, .asl H.length 1 5 [zvF]) :: env) (H ++ [.tok 1])) :
    AReg P n ops true Q (⟨some d, .buildSlice 44 1 #[(0, .const zvConst)], ty, pos, after, guard⟩ :: os) acc env H := by
  refine ard_sem (H' := H ++ [.tok 1]) (sem_buildSliceF T_ok (d := ⟨1, 24, false, [.nsl 5], .slice 47⟩) (de := ⟨5, 80, true, [.int .i64 0, .int .i64 0, .str [], .nsl 5, .nsl 1], .struct [(0, 3), (1, 3), (2, 9), (3, 44), (4, 45)]⟩) (es := [zvAV]) (xs := [zvF]) H.length (fun _ => .agg zvAV) (fun C a henv x hx => ?_) rfl rfl rfl rfl rfl rfl (by decide)) ?_ hg ?_ hk
  · simp [Op.operands] at hx
    subst hx
    exact zv_rel C
  · simp [hd, okIdsB]
  · simp [Heap.puts, Heap.put_len]
theorem getD_set_eq {α : Type} {l : List α} {i : Nat} {y d : α} (h : i < l.length) : (l.set i y).getD i d = y := by simp [List.getD_eq_getElem?_getD, h]
theorem puts_move {M : Heap} {c : Nat} (hc : c < M.length) (x y : Blk) : Heap.puts (M ++ [x]) [(c, .dead), (M.length + 1, y)] = M.put c .dead ++ [x, y] := by
  show Heap.put (Heap.put (M ++ [x]) c .dead) (M.length + 1) y = _
  rw [Heap.put_old _ _ _ _ hc]
  have := Heap.put_app (M.put c .dead) [x] 1 y
  rw [Heap.put_length _ _ _ hc] at this
  rw [this]; rfl
theorem puts_new {M : Heap} (x y : Blk) : Heap.puts (M ++ [x]) [(M.length + 1, y)] = M ++ [x, y] := by
  show Heap.put (M ++ [x]) (M.length + 1) y = _
  rw [Heap.put_app]; rfl
theorem implStoreSet_ok (l : List GN) (id : Int) (s : List UInt8) (v : GV) (hl : Len l) (hf : ∀ v ∈ l, v.fits) (hs : Len s) (hv : v.fits) : PCall P 20 [.fsl 7 (encn l), .int .i64 id, .str s, .agg v.enc] (.tup [.fsl 7 (encn (setN l id s v).1), .bool (setN l id s v).2]) := by
  refine pcall_of_bor (fcall_walk T_ok ok_20 rfl ?_)
  unfold Go.Proofs.Try.f20
  simp only [Option.getD_some, envOf, Nat.zero_add, Nat.reduceAdd]
  obtain ⟨vk, vn, vt, vl, vns⟩ := v
  (all_goals (have X1 := @encn_len; have X2 := @GV.enc.eq_1; (repeat' (first | refine gg ?_ | (refine gd ?_ ?_ <;> (intro hcond; try (exfalso; omega))) | (refine gc ?_ ?_ <;> intro hcs) | fail)); all_goals try clear X1 X2))
  (have X1 := @encn_len; have X2 := @GV.enc.eq_1; ((apply ar_fcall rfl ok_52); (focus exact eva); (focus exact tableOf_ok l hl hf _); (focus rfl); (focus rfl)); all_goals try clear X1 X2)
  rintro _ H' ⟨tb, rfl, h1, h2, h3, h4⟩
  have q0 : H'.at 0 = _ := h3 0 (by simp)
  (all_goals (have X1 := @encn_len; have X2 := @GV.enc.eq_1; (repeat' (first | refine gg ?_ | (refine gd ?_ ?_ <;> (intro hcond; try (exfalso; omega))) | (refine gc ?_ ?_ <;> intro hcs) | fail)); all_goals try clear X1 X2))
  · have hok : storeOK l = false := by simpa using hcs
    refine ⟨[], bor_frz ?_⟩
    unfold setN
    rw [hok]
    rfl
  have hok : storeOK l = true := by simpa using hcs
  obtain ⟨h0, h12⟩ := storeOK_pos hok
  obtain ⟨tk, tr, hT⟩ := h4 hok
  (have X1 := @encn_len; have X2 := @GV.enc.eq_1; ((apply ar_fcall rfl ok_30); (focus exact eva); (focus exact copyNodesL_ok l hl hf h0 (idxI l (fun n => n.id == id)).toNat H'); (focus rfl); (focus rfl)); all_goals try clear X1 X2)
  rintro _ H2 ⟨b, live, rfl, k1, k2, k3, k4, k5⟩
  have hT2 := (k3 tb h2).trans hT
  have h1' : 1 ≤ tb := h1
  have q2 : H2.at 0 = Blk.row 5 [[.int .i64 vk, .int .i64 vn, .str vt, .fsl 5 (encs vl), .fsl 1 (strs vns)]] := (k3 0 (by omega)).trans q0
  (all_goals (have X1 := @encn_len; have X2 := @GV.enc.eq_1; (repeat' (first | refine gg ?_ | (refine gd ?_ ?_ <;> (intro hcond; try (exfalso; omega))) | (refine gc ?_ ?_ <;> intro hcs) | fail)); all_goals try clear X1 X2))
  (have X1 := @encn_len; have X2 := @GV.enc.eq_1; ((apply ar_fcall rfl ok_53); (focus exact eva); (focus exact place_ok l id tb tk _ tr _ H2 hT2 hl); (focus rfl); (focus rfl)); all_goals try clear X1 X2)
  rintro _ H3 ⟨rfl, e3⟩
  rw [e3]
  clear e3 H3
  have hsame : setN l id s ⟨vk, vn, vt, vl, vns⟩ = (l, false) → ∃ S, Bor H2 S (aresV [.row b 0 l.length (some l.length) 7, .bool false]) (.tup [.fsl 7 (encn (setN l id s ⟨vk, vn, vt, vl, vns⟩).1), .bool (setN l id s ⟨vk, vn, vt, vl, vns⟩).2]) := fun hset => by
    rw [hset]
    refine ⟨List.range H2.length, bor_tup2 ?_⟩
    have := bor_nodes (cap := some l.length) k4 (fun h => liveNd_bor (k5 h))
    rwa [set_self] at this
  obtain ⟨K, hK⟩ : ∃ K, idxI l (fun n => n.id == id) = K := ⟨_, rfl⟩
  rw [hK] at k4 k5 ⊢
  (all_goals (have X1 := @encn_len; have X2 := @q2; (repeat' (first | refine gg ?_ | (refine gd ?_ ?_ <;> (intro hcond; try (exfalso; omega))) | (refine gc ?_ ?_ <;> intro hcs) | fail)); all_goals try clear X1 X2))
  · refine hsame ?_
    unfold setN; rw [if_pos hok, if_pos (.inl (by rw [hK]; exact hcs))]
  (have X1 := @encn_len; have X2 := @q2; ((apply ar_call rfl ok_54); (focus exact eva); (focus exact isName_ok s hs); (focus rfl); (focus rfl)); all_goals try clear X1 X2)
  (all_goals (have X1 := @encn_len; have X2 := @q2; (repeat' (first | refine gg ?_ | (refine gd ?_ ?_ <;> (intro hcond; try (exfalso; omega))) | (refine gc ?_ ?_ <;> intro hcs) | fail)); all_goals try clear X1 X2))
  · refine hsame ?_
    unfold setN; rw [if_pos hok, if_pos (.inr (.inl (by simpa using hcs)))]
  (have X1 := @encn_len; have X2 := @q2; ((apply ar_call rfl ok_55); (focus exact eva); (focus exact fitsIn_ok 3 ⟨vk, vn, vt, vl, vns⟩ (by omega) hv); (focus rfl); (focus rfl)); all_goals try clear X1 X2)
  (all_goals (have X1 := @encn_len; have X2 := @q2; (repeat' (first | refine gg ?_ | (refine gd ?_ ?_ <;> (intro hcond; try (exfalso; omega))) | (refine gc ?_ ?_ <;> intro hcs) | fail)); all_goals try clear X1 X2))
  · refine hsame ?_
    unfold setN; rw [if_pos hok, if_pos (.inr (.inr (by simpa using hcs)))]
  rename_i hge0
  rcases idxI_cases l (fun n => n.id == id) default with ⟨e1, _⟩ | ⟨i, e1, e2, _⟩
  · rw [hK] at e1; omega
  rw [hK] at e1
  subst e1
  rw [Int.toNat_natCast] at k4 k5
  obtain ⟨u, hu⟩ : ∃ u, l.getD i default = u := ⟨_, rfl⟩
  have huf : u.fits := hu ▸ hf _ (mem_getD e2)
  have hlen := okNd_len (storeOK_at hok e2)
  rw [hu] at hlen k5
  have hset0 : setN l id s ⟨vk, vn, vt, vl, vns⟩ = if 0 ≤ idxI u.cells.ns (fun x => s == x) then (l.set i (setCell u (idxI u.cells.ns (fun x => s == x)).toNat ⟨vk, vn, vt, vl, vns⟩), true)
      else if 12 ≤ u.cells.ns.length then (l, false) else (l.set i (addCell u s ⟨vk, vn, vt, vl, vns⟩), true) := by
    unfold setN
    rw [if_pos hok, if_neg, hK, Int.toNat_natCast, hu]
    rintro (h | h | h)
    · rw [hK] at h; omega
    · simp_all
    · simp_all
  obtain ⟨uid, uty, ⟨uk, un, ut, ul, uns⟩⟩ := u
  have hlen : uns.length = ul.length := hlen
  obtain ⟨g1, g2, f1, f2, f3, f4, f5, f6, f7⟩ := huf
  obtain ⟨aL, aN, rfl, hL, hN⟩ := k5 e2
  have hL : LiveH H'.length H2 5 (encs ul) aL := hL
  have hN : LiveH H'.length H2 1 (strs uns) aN := hN
  have hgv : ((encn l).set i [.int .i64 uid, .str uty, .int .i64 uk, .int .i64 un, .str ut, aL, aN]).getD i [] = [.int .i64 uid, .str uty, .int .i64 uk, .int .i64 un, .str ut, aL, aN] := by
    simp [List.getD_eq_getElem?_getD, encn_len, e2]
  have hgs : ∀ y, ((encn l).set i [.int .i64 uid, .str uty, .int .i64 uk, .int .i64 un, .str ut, aL, aN]).set i y = (encn l).set i y := fun y => List.set_set ..
  have hcL : aL.isCell = true := by rcases hL with ⟨_, rfl⟩ | ⟨_, c, cap, rfl, _, _⟩ <;> rfl
  have hcN : aN.isCell = true := by rcases hN with ⟨_, rfl⟩ | ⟨_, c, cap, rfl, _, _⟩ <;> rfl
  have hsL := solid_of_cell hcL
  have hsN := solid_of_cell hcN
  have hclL := cells_of_cell hcL
  have hclN := cells_of_cell hcN
  have hi8 : ((i : Nat) : Int) < l.length := by omega
  have k4 : H2.at b = .row 7 ((encn l).set i [.int .i64 uid, .str uty, .int .i64 uk, .int .i64 un, .str ut, aL, aN]) := k4
  (all_goals (have X1 := @encn_len; have X2 := @q2; have X3 := @k4; have X4 := @hgv; have X5 := @hgs; have X6 := @hcL; have X7 := @hcN; have X8 := @hsL; have X9 := @hsN; have X10 := @hclL; have X11 := @hclN; have X12 := @Int.toNat_natCast; (repeat' (first | refine gg ?_ | (refine gd ?_ ?_ <;> (intro hcond; try (exfalso; omega))) | (refine gc ?_ ?_ <;> intro hcs) | fail)); all_goals try clear X1 X2 X3 X4 X5 X6 X7 X8 X9 X10 X11 X12))
  refine ar_lend (S := List.range H2.length) rfl ok_56 (show BorL H2 _ [aN, .str s] [.fsl 1 (strs uns), .str s] from ⟨liveH_lt hN (strs_all uns) (strs_frzm uns), bor_frz rfl, trivial⟩) (placeOf_ok uns s f6) rfl rfl rfl ?_
  (all_goals (have X1 := @encn_len; have X2 := @q2; have X3 := @k4; have X4 := @hgv; have X5 := @hgs; have X6 := @hcL; have X7 := @hcN; have X8 := @hsL; have X9 := @hsN; have X10 := @hclL; have X11 := @hclN; have X12 := @Int.toNat_natCast; (repeat' (first | refine gg ?_ | (refine gd ?_ ?_ <;> (intro hcond; try (exfalso; omega))) | (refine gc ?_ ?_ <;> intro hcs) | fail)); all_goals try clear X1 X2 X3 X4 X5 X6 X7 X8 X9 X10 X11 X12))
  · rcases idxI_cases uns (fun x => s == x) [] with ⟨e1, _⟩ | ⟨p, e1, ep, _⟩
    · rw [e1] at hcond; omega
    have hpl2 : p < ul.length := by omega
    rcases hL with ⟨hn, _⟩ | ⟨_, c, cap, rfl, hc, hcn⟩
    · have := congrArg List.length hn; rw [encs_len, List.length_nil] at this; omega
    have hset : setN l id s ⟨vk, vn, vt, vl, vns⟩ = (l.set i (setCell ⟨uid, uty, ⟨uk, un, ut, ul, uns⟩⟩ p ⟨vk, vn, vt, vl, vns⟩), true) := by
      rw [hset0]
      have e1' : idxI (GN.mk uid uty ⟨uk, un, ut, ul, uns⟩).cells.ns (fun x => s == x) = p := e1
      rw [e1', if_pos (Int.natCast_nonneg p)]; rfl
    rw [hset, e1]
    obtain ⟨⟨pk, pn, pt, pl, pns⟩, hpv⟩ : ∃ x, ul.getD p default = x := ⟨_, rfl⟩
    have hgp : (encs ul).getD p [] = [.int .i64 pk, .int .i64 pn, .str pt, .fsl 5 (encs pl), .fsl 1 (strs pns)] := by rw [encs_get hpl2, hpv]; rfl
    rw [encs_len]
    (have X1 := @GV.enc.eq_1; have X2 := @encn_len; have X3 := @encs_len; have X4 := @q2; have X5 := @k4; have X6 := @hgv; have X7 := @hgs; have X8 := @hc; have X9 := @hgp; have X10 := @Int.toNat_natCast; ((apply ard_call rfl ok_57); (focus exact eva); (focus exact copyValueF_ok ⟨vk, vn, vt, vl, vns⟩ hv); (focus rfl); (focus rfl)); all_goals try clear X1 X2 X3 X4 X5 X6 X7 X8 X9 X10)
    (all_goals (have X1 := @GV.enc.eq_1; have X2 := @encn_len; have X3 := @encs_len; have X4 := @q2; have X5 := @k4; have X6 := @hgv; have X7 := @hgs; have X8 := @hc; have X9 := @hgp; have X10 := @Int.toNat_natCast; (repeat' (first | refine gg ?_ | (refine gd ?_ ?_ <;> (intro hcond; try (exfalso; omega))) | (refine gc ?_ ?_ <;> intro hcs) | fail)); all_goals try clear X1 X2 X3 X4 X5 X6 X7 X8 X9 X10))
    have hcb : c ≠ b := fun e => by rw [e, k4] at hc; cases hc
    have hne' : ∀ x q, q ≠ c → (H2.put c x).at q = H2.at q := fun x q h => Heap.at_put_ne _ _ _ _ h
    refine ⟨List.range _, bor_tup2 (bor_nodes (cap := some l.length) ((hne' _ _ (fun e => hcb e.symm)).trans k4) fun _ => liveNd_bor (u := setCell ⟨uid, uty, ⟨uk, un, ut, ul, uns⟩⟩ p ⟨vk, vn, vt, vl, vns⟩) ⟨.row c 0 (encs ul).length cap 5, aN, rfl, .inr ⟨?_, c, cap, ?_, ?_, hcn⟩, hN.mono fun q hq => ?_⟩)⟩
    · intro h8
      have h8 := congrArg List.length h8
      rw [encs_len, List.length_nil] at h8
      have h8 : (ul.set p ⟨vk, vn, vt, vl, vns⟩).length = 0 := h8
      rw [List.length_set] at h8; omega
    · show AV.row c 0 (encs ul).length cap 5 = AV.row c 0 (encs (ul.set p ⟨vk, vn, vt, vl, vns⟩)).length cap 5; rw [encs_len, encs_len, List.length_set]
    · rw [Heap.at_put_same]; show _ = Blk.row 5 (encs (ul.set p ⟨vk, vn, vt, vl, vns⟩)); rw [encs_eq (ul.set _ _), List.map_set, ← encs_eq]; rfl
    · exact (hne' _ _ (fun e => by rw [e, hc] at hq; cases hq)).trans hq
  · rcases hL with ⟨hn, rfl⟩ | ⟨hne, c, cap, rfl, hc, hcn⟩ <;> rcases hN with ⟨hn', rfl⟩ | ⟨hne', d, cap', rfl, hd, hdn⟩
    · have hul : ul = [] := List.eq_nil_of_length_eq_zero (by rw [← encs_len, hn]; rfl)
      have hun : uns = [] := List.eq_nil_of_length_eq_zero (by rw [hlen, hul]; rfl)
      subst hul; subst hun
      have k4 : H2.at b = .row 7 ((encn l).set i [.int .i64 uid, .str uty, .int .i64 uk, .int .i64 un, .str ut, .nsl 5, .nsl 1]) := k4
      have hgv : ((encn l).set i [.int .i64 uid, .str uty, .int .i64 uk, .int .i64 un, .str ut, .nsl 5, .nsl 1]).getD i [] = [.int .i64 uid, .str uty, .int .i64 uk, .int .i64 un, .str ut, .nsl 5, .nsl 1] := hgv
      have hgs : ∀ y, ((encn l).set i [.int .i64 uid, .str uty, .int .i64 uk, .int .i64 un, .str ut, .nsl 5, .nsl 1]).set i y = (encn l).set i y := hgs
      have p1 := fun L => (Heap.at_old H2 L k2).trans k4
      have p2 := fun L x => Heap.put_old H2 L b x k2
      have p3 := fun x L => Heap.at_putA k2 x L
      have p4 : ∀ x L, Heap.at (H2.put b x ++ L) 0 = _ := fun x L => ((Heap.at_old _ _ (by rw [Heap.put_length _ _ _ k2]; omega)).trans (Heap.at_put_ne _ _ _ _ (by omega))).trans q2
      have p5 := fun x y L => Heap.put_putA k2 x y L
      have p6 := fun (y : List AV) => getD_set_eq (l := encn l) (i := i) (y := y) (d := []) (by rw [encn_len]; exact e2)
      have p7 := fun x L i => Heap.at_putB k2 x L i
      have p8 := fun x L => Heap.at_putB0 k2 x L
      have p9 := fun x y L i => Heap.put_putB k2 x y L i
      have p10 := fun x => Heap.put_length H2 b x k2
      (all_goals (have X1 := @GV.enc.eq_1; have X2 := @encn_len; have X3 := @q2; have X4 := @k4; have X5 := @hgv; have X6 := @hgs; have X7 := @Int.toNat_natCast; have X8 := @p1; have X9 := @p2; have X10 := @p3; have X11 := @p4; have X12 := @p5; have X13 := @p6; have X14 := @p7; have X15 := @p8; have X16 := @p9; have X17 := @p10; (repeat' (first | refine gg ?_ | (refine gd ?_ ?_ <;> (intro hcond; try (exfalso; omega))) | (refine gc ?_ ?_ <;> intro hcs) | fail)); all_goals try clear X1 X2 X3 X4 X5 X6 X7 X8 X9 X10 X11 X12 X13 X14 X15 X16 X17))
      (have X1 := @GV.enc.eq_1; have X2 := @encn_len; have X3 := @q2; have X4 := @k4; have X5 := @hgv; have X6 := @hgs; have X7 := @Int.toNat_natCast; have X8 := @p1; have X9 := @p2; have X10 := @p3; have X11 := @p4; have X12 := @p5; have X13 := @p6; have X14 := @p7; have X15 := @p8; have X16 := @p9; have X17 := @p10; ((apply ard_call rfl ok_57); (focus exact eva); (focus exact copyValueF_ok ⟨vk, vn, vt, vl, vns⟩ hv); (focus rfl); (focus rfl)); all_goals try clear X1 X2 X3 X4 X5 X6 X7 X8 X9 X10 X11 X12 X13 X14 X15 X16 X17)
      have x2 := p3 (Blk.row 7 ((encn l).set i [.int .i64 uid, .str uty, .int .i64 uk, .int .i64 un, .str ut, .nsl 5, .asl (H2.length + 1) 1 1 [[.str s]]])) [Blk.tok 1, Blk.tok 1]
      have x4 : (H2.put b (Blk.row 7 ((encn l).set i [.int .i64 uid, .str uty, .int .i64 uk, .int .i64 un, .str ut, .nsl 5, .asl (H2.length + 1) 1 1 [[.str s]]])) ++ [Blk.tok 1, Blk.tok 1]).length = H2.length + 2 := by rw [List.length_append, p10]; rfl
      generalize (H2.put b (Blk.row 7 ((encn l).set i [.int .i64 uid, .str uty, .int .i64 uk, .int .i64 un, .str ut, .nsl 5, .asl (H2.length + 1) 1 1 [[.str s]]])) ++ [Blk.tok 1, Blk.tok 1]) = M2 at *
      (have X1 := @GV.enc.eq_1; have X2 := @encn_len; have X3 := @q2; have X4 := @k4; have X5 := @hgv; have X6 := @hgs; have X7 := @Int.toNat_natCast; have X8 := @p1; have X9 := @p2; have X10 := @p3; have X11 := @p4; have X12 := @p5; have X13 := @p6; have X14 := @p7; have X15 := @p8; have X16 := @p9; have X17 := @p10; (refine ga ?_); all_goals try clear X1 X2 X3 X4 X5 X6 X7 X8 X9 X10 X11 X12 X13 X14 X15 X16 X17)
      refine ard_zero rfl rfl ?_
      refine ard_sem (v := .row (M2.length + 1) 0 1 none 5) (wr := [(M2.length + 1, .row 5 [zvF])]) (log := []) (H' := M2 ++ [.tok 1, .row 5 [zvF]]) (sem_app_new T_ok (n := M2.length + 1) (d := ⟨1, 24, false, [.nsl 5], .slice 47⟩) (de := ⟨5, 80, true, [.int .i64 0, .int .i64 0, .str [], .nsl 5, .nsl 1], .struct [(0, 3), (1, 3), (2, 9), (3, 44), (4, 45)]⟩) (s1 := 0) (s2 := 0) rfl rfl rfl rfl rfl rfl rfl rfl rfl rfl rfl (by simp) (by simp) (by simp) (by simp)) (by simp [okIdsB, Nat.ble_eq]) rfl (puts_new _ _) ?_
      have w1 := fun q (hq : q < M2.length) => Heap.at_old M2 [Blk.tok 1, Blk.row 5 [zvF]] hq
      have w2 : Heap.at (M2 ++ [Blk.tok 1, Blk.row 5 [zvF]]) (M2.length + 1) = .row 5 [zvF] := Heap.at_app _ _ 1
      have w3 : (M2 ++ [Blk.tok 1, Blk.row 5 [zvF]]).length = M2.length + 2 := by simp
      generalize (M2 ++ [Blk.tok 1, Blk.row 5 [zvF]]) = M3 at *
      have v1 := (w1 b (by omega)).trans x2
      have v3 := (Heap.at_put_ne M3 (M2.length + 1) b (Blk.row 5 [[.int .i64 vk, .int .i64 vn, .str vt, .fsl 5 (encs vl), .fsl 1 (strs vns)]]) (by omega)).trans v1
      (all_goals (have X1 := @GV.enc.eq_1; have X2 := @encn_len; have X3 := @encs_len; have X4 := @w2; have X5 := @v3; have X6 := @hgv; have X7 := @hgs; have X8 := @p6; have X9 := @Int.toNat_natCast; have X10 := @Int.toNat_zero; (repeat' (first | refine gg ?_ | (refine gd ?_ ?_ <;> (intro hcond; try (exfalso; omega))) | (refine gc ?_ ?_ <;> intro hcs) | fail)); all_goals try clear X1 X2 X3 X4 X5 X6 X7 X8 X9 X10))
      refine ard_done_of [(0, 4), (0, 5), (0, 7), (1, 4), (1, 5), (1, 7), (2, 4), (2, 5), (2, 7), (3, 4), (3, 5), (3, 7), (4, 6), (4, 7), (5, 6), (5, 7), (6, 7), (9, 11), (9, 12), (9, 13), (10, 11), (10, 12), (10, 13)] rfl rfl rfl rfl ?_ ?_
      · refine ep ?_; try exact trivial
        have o2 : b ≠ M2.length + 1 := by omega
        have o3 : b ≠ M2.length := by omega
        have o5 : M2.length ≠ 0 := by omega
        repeat' apply And.intro
        all_goals first | (simp; done) | (simp; omega) | (simp [o2, o3, o2.symm, o3.symm, o5, o5.symm]; done) | (simp [o2, o3, o2.symm, o3.symm, o5, o5.symm]; omega) | skip
      (all_goals (have X1 := @GV.enc.eq_1; have X2 := @encn_len; have X3 := @encs_len; have X4 := @w2; have X5 := @v3; have X6 := @hgv; have X7 := @hgs; have X8 := @p6; have X9 := @Int.toNat_natCast; have X10 := @Int.toNat_zero; (repeat' (first | refine gg ?_ | (refine gd ?_ ?_ <;> (intro hcond; try (exfalso; omega))) | (refine gc ?_ ?_ <;> intro hcs) | fail)); all_goals try clear X1 X2 X3 X4 X5 X6 X7 X8 X9 X10))
      have hset : setN l id s ⟨vk, vn, vt, vl, vns⟩ = (l.set i (addCell ⟨uid, uty, ⟨uk, un, ut, [], []⟩⟩ s ⟨vk, vn, vt, vl, vns⟩), true) := by
        rw [hset0]
        rw [if_neg (by show ¬ 0 ≤ idxI ([] : List (List UInt8)) (fun x => s == x); simp [idxI]), if_neg (by show ¬ 12 ≤ 0; omega)]
      rw [hset, List.set_set]
      have u1 : (M3.put (M2.length + 1) (Blk.row 5 [[.int .i64 vk, .int .i64 vn, .str vt, .fsl 5 (encs vl), .fsl 1 (strs vns)]])).length = M3.length := Heap.put_length _ _ _ (by omega)
      refine ⟨List.range _, bor_tup2 (bor_nodes (cap := some l.length) (u' := addCell ⟨uid, uty, ⟨uk, un, ut, [], []⟩⟩ s ⟨vk, vn, vt, vl, vns⟩) (Heap.at_put_same _ _ _) fun _ => ⟨bor_frz rfl, bor_frz rfl, bor_frz rfl, bor_frz rfl, bor_frz rfl, ?_, bor_frz rfl, trivial⟩)⟩
      refine bor_rowf (es := [[.int .i64 vk, .int .i64 vn, .str vt, .fsl 5 (encs vl), .fsl 1 (strs vns)]]) ?_ ((Heap.at_put_ne _ _ _ _ (by omega)).trans (Heap.at_put_same _ _ _)) (by simp) (by simp [frzL, frz])
      rw [List.mem_range, Heap.put_length _ _ _ (by omega)]; omega
    · exfalso
      have h8 := congrArg List.length hn
      rw [encs_len, List.length_nil] at h8
      exact hne' (List.eq_nil_of_length_eq_zero (by rw [strs_len]; omega))
    · exfalso
      have h8 := congrArg List.length hn'
      rw [strs_len, List.length_nil] at h8
      exact hne (List.eq_nil_of_length_eq_zero (by rw [encs_len]; omega))
    · have hdl : d < H2.length := at_lt (by rw [hd]; simp)
      have hcl : c < H2.length := at_lt (by rw [hc]; simp)
      rw [encs_len, strs_len] at *
      (all_goals (have X1 := @GV.enc.eq_1; have X2 := @encn_len; have X3 := @encs_len; have X4 := @strs_len; have X5 := @q2; have X6 := @k4; have X7 := @hgv; have X8 := @hgs; have X9 := @hc; have X10 := @hd; have X11 := @Int.toNat_natCast; (repeat' (first | refine gg ?_ | (refine gd ?_ ?_ <;> (intro hcond; try (exfalso; omega))) | (refine gc ?_ ?_ <;> intro hcs) | fail)); all_goals try clear X1 X2 X3 X4 X5 X6 X7 X8 X9 X10 X11))
      · refine hsame ?_
        rw [hset0]
        have e1' : idxI (GN.mk uid uty ⟨uk, un, ut, ul, uns⟩).cells.ns (fun x => s == x) = idxI uns (fun x => s == x) := rfl
        rw [e1', if_neg (by assumption), if_pos (by show 12 ≤ uns.length; omega)]
      have hcb : c ≠ b := fun e => by rw [e, k4] at hc; cases hc
      have hdb : d ≠ b := fun e => by rw [e, k4] at hd; cases hd
      have hcd : c ≠ d := fun e => by rw [e, hd] at hc; cases hc
      have hc0 : c ≠ 0 := by omega
      have hd0 : d ≠ 0 := fun e => by rw [e, q2] at hd; cases hd
      refine ar_sem (v := .row (H2.length + 1) 0 (uns.length + 1) none 1) (wr := [(d, .dead), (H2.length + 1, .row 1 (strs uns ++ [[.str s]]))]) (log := [d]) (H' := H2.put d .dead ++ [.tok 1, .row 1 (strs uns ++ [[.str s]])]) (sem_app_move T_ok (n := H2.length + 1) (d := ⟨1, 24, false, [.nsl 1], .slice 9⟩) (de := ⟨1, 16, false, [.str []], .str⟩) (s1 := 0) (s2 := 0) (b := d) (len := uns.length) (es := strs uns) rfl rfl rfl rfl rfl rfl rfl rfl ((Heap.at_old _ _ hdl).trans hd) (strs_len _) rfl rfl rfl (by simp) (by simp) (by simp [Len] at f6 ⊢; omega) (by omega) (by simp)) (by simp [okIdsB, Nat.ble_eq]) rfl (puts_move hdl _ _) ?_
      have m1 := fun q (hq : q < H2.length) (hqd : q ≠ d) => (Heap.at_old (H2.put d .dead) [Blk.tok 1, Blk.row 1 (strs uns ++ [[.str s]])] (by rw [Heap.put_length _ _ _ hdl]; exact hq)).trans (Heap.at_put_ne H2 d q .dead hqd)
      have m2 : Heap.at (H2.put d .dead ++ [Blk.tok 1, Blk.row 1 (strs uns ++ [[.str s]])]) (H2.length + 1) = .row 1 (strs uns ++ [[.str s]]) := Heap.at_putB hdl _ _ 1
      have m3 : (H2.put d .dead ++ [Blk.tok 1, Blk.row 1 (strs uns ++ [[.str s]])]).length = H2.length + 2 := by rw [List.length_append, Heap.put_length _ _ _ hdl]; rfl
      generalize (H2.put d .dead ++ [Blk.tok 1, Blk.row 1 (strs uns ++ [[.str s]])]) = M at *
      have mb := (m1 b k2 hdb.symm).trans k4
      have z0 : M.at 0 = _ := (m1 0 (by omega) hd0.symm).trans q2
      have mc : M.at c = _ := (m1 c hcl hcd).trans hc
      have m5 : b < M.length := by omega
      have y1 := fun x => Heap.put_length M b x m5
      have y2 := fun x => (Heap.at_put_ne M b 0 x (by omega)).trans z0
      have y3 := fun x => Heap.at_put_same M b x
      have p6 := fun (y : List AV) => getD_set_eq (l := encn l) (i := i) (y := y) (d := []) (by rw [encn_len]; exact e2)
      (all_goals (have X1 := @GV.enc.eq_1; have X2 := @encn_len; have X3 := @encs_len; have X4 := @strs_len; have X5 := @mb; have X6 := @y1; have X7 := @y2; have X8 := @y3; have X9 := @hgv; have X10 := @hgs; have X11 := @p6; have X12 := @Int.toNat_natCast; (repeat' (first | refine gg ?_ | (refine gd ?_ ?_ <;> (intro hcond; try (exfalso; omega))) | (refine gc ?_ ?_ <;> intro hcs) | fail)); all_goals try clear X1 X2 X3 X4 X5 X6 X7 X8 X9 X10 X11 X12))
      (have X1 := @GV.enc.eq_1; have X2 := @encn_len; have X3 := @encs_len; have X4 := @strs_len; have X5 := @mb; have X6 := @y1; have X7 := @y2; have X8 := @y3; have X9 := @hgv; have X10 := @hgs; have X11 := @p6; have X12 := @Int.toNat_natCast; ((apply ard_call rfl ok_57); (focus exact eva); (focus exact copyValueF_ok ⟨vk, vn, vt, vl, vns⟩ hv); (focus rfl); (focus rfl)); all_goals try clear X1 X2 X3 X4 X5 X6 X7 X8 X9 X10 X11 X12)
      have x1 := (Heap.at_put_ne M b c (Blk.row 7 ((encn l).set i [.int .i64 uid, .str uty, .int .i64 uk, .int .i64 un, .str ut, .row c 0 ul.length cap 5, .row (H2.length + 1) 0 (uns.length + 1) none 1])) hcb).trans mc
      have x2 := y3 (Blk.row 7 ((encn l).set i [.int .i64 uid, .str uty, .int .i64 uk, .int .i64 un, .str ut, .row c 0 ul.length cap 5, .row (H2.length + 1) 0 (uns.length + 1) none 1]))
      have x3 := (Heap.at_put_ne M b (H2.length + 1) (Blk.row 7 ((encn l).set i [.int .i64 uid, .str uty, .int .i64 uk, .int .i64 un, .str ut, .row c 0 ul.length cap 5, .row (H2.length + 1) 0 (uns.length + 1) none 1])) (by omega)).trans m2
      have x4 := y1 (Blk.row 7 ((encn l).set i [.int .i64 uid, .str uty, .int .i64 uk, .int .i64 un, .str ut, .row c 0 ul.length cap 5, .row (H2.length + 1) 0 (uns.length + 1) none 1]))
      generalize (M.put b (Blk.row 7 ((encn l).set i [.int .i64 uid, .str uty, .int .i64 uk, .int .i64 un, .str ut, .row c 0 ul.length cap 5, .row (H2.length + 1) 0 (uns.length + 1) none 1]))) = M2 at *
      have hcl2 : c < M2.length := by omega
      (have X1 := @GV.enc.eq_1; (refine ga ?_); all_goals try clear X1)
      refine ard_zero rfl rfl ?_
      refine ard_sem (v := .row (M2.length + 1) 0 (ul.length + 1) none 5) (wr := [(c, .dead), (M2.length + 1, .row 5 (encs ul ++ [zvF]))]) (log := [c]) (H' := M2.put c .dead ++ [.tok 1, .row 5 (encs ul ++ [zvF])]) (sem_app_move T_ok (n := M2.length + 1) (d := ⟨1, 24, false, [.nsl 5], .slice 47⟩) (de := ⟨5, 80, true, [.int .i64 0, .int .i64 0, .str [], .nsl 5, .nsl 1], .struct [(0, 3), (1, 3), (2, 9), (3, 44), (4, 45)]⟩) (s1 := 0) (s2 := 0) (b := c) (len := ul.length) (es := encs ul) rfl rfl rfl rfl rfl rfl rfl rfl ((Heap.at_old _ _ hcl2).trans x1) (encs_len _) rfl rfl rfl (by simp) (by simp) (by simp [Len] at f4 ⊢; omega) (by omega) (by simp)) (by simp [okIdsB, Nat.ble_eq]) rfl (puts_move hcl2 _ _) ?_
      have w1 := fun q (hq : q < M2.length) (hqd : q ≠ c) => (Heap.at_old (M2.put c .dead) [Blk.tok 1, Blk.row 5 (encs ul ++ [zvF])] (by rw [Heap.put_length _ _ _ hcl2]; exact hq)).trans (Heap.at_put_ne M2 c q .dead hqd)
      have w2 : Heap.at (M2.put c .dead ++ [Blk.tok 1, Blk.row 5 (encs ul ++ [zvF])]) (M2.length + 1) = .row 5 (encs ul ++ [zvF]) := Heap.at_putB hcl2 _ _ 1
      have w3 : (M2.put c .dead ++ [Blk.tok 1, Blk.row 5 (encs ul ++ [zvF])]).length = M2.length + 2 := by rw [List.length_append, Heap.put_length _ _ _ hcl2]; rfl
      generalize (M2.put c .dead ++ [Blk.tok 1, Blk.row 5 (encs ul ++ [zvF])]) = M3 at *
      have v1 := (w1 b (by omega) hcb.symm).trans x2
      have v2 := (w1 (H2.length + 1) (by omega) (by omega)).trans x3
      have v3 := (Heap.at_put_ne M3 (M2.length + 1) b (Blk.row 5 (encs ul ++ [[.int .i64 vk, .int .i64 vn, .str vt, .fsl 5 (encs vl), .fsl 1 (strs vns)]])) (by omega)).trans v1
      have v4 : (encs ul ++ [zvF]).getD ul.length [] = zvF := getD_mid (y := []) (encs_len ul)
      have v5 : ∀ y, (encs ul ++ [zvF]).set ul.length y = encs ul ++ [y] := fun y => set_mid (y := []) (encs_len ul)
      (all_goals (have X1 := @GV.enc.eq_1; have X2 := @encn_len; have X3 := @encs_len; have X4 := @w2; have X5 := @v3; have X6 := @v4; have X7 := @v5; have X8 := @hgv; have X9 := @hgs; have X10 := @p6; have X11 := @Int.toNat_natCast; (repeat' (first | refine gg ?_ | (refine gd ?_ ?_ <;> (intro hcond; try (exfalso; omega))) | (refine gc ?_ ?_ <;> intro hcs) | fail)); all_goals try clear X1 X2 X3 X4 X5 X6 X7 X8 X9 X10 X11))
      refine ard_done_of [(0, 4), (0, 5), (0, 7), (1, 4), (1, 5), (1, 7), (2, 4), (2, 5), (2, 7), (3, 4), (3, 5), (3, 7), (4, 6), (4, 7), (5, 6), (5, 7), (6, 7), (9, 11), (9, 12), (9, 13), (10, 11), (10, 12), (10, 13)] rfl rfl rfl rfl ?_ ?_
      · refine ep ?_; try exact trivial
        have o1 : c ≠ M2.length + 1 := by omega
        have o2 : b ≠ M2.length + 1 := by omega
        have o3 : b ≠ M2.length := by omega
        have o4 : c ≠ M2.length := by omega
        have o5 : M2.length ≠ 0 := by omega
        repeat' apply And.intro
        all_goals first | (simp; done) | (simp; omega) | (simp [o1, o2, o3, o4, o1.symm, o2.symm, o3.symm, o4.symm, hcb, hcb.symm, hc0, hc0.symm, o5, o5.symm]; done) | (simp [o1, o2, o3, o4, o1.symm, o2.symm, o3.symm, o4.symm, hcb, hcb.symm, hc0, hc0.symm]; omega) | skip
      (all_goals (have X1 := @GV.enc.eq_1; have X2 := @encn_len; have X3 := @encs_len; have X4 := @w2; have X5 := @v3; have X6 := @v4; have X7 := @v5; have X8 := @hgv; have X9 := @hgs; have X10 := @p6; have X11 := @Int.toNat_natCast; (repeat' (first | refine gg ?_ | (refine gd ?_ ?_ <;> (intro hcond; try (exfalso; omega))) | (refine gc ?_ ?_ <;> intro hcs) | fail)); all_goals try clear X1 X2 X3 X4 X5 X6 X7 X8 X9 X10 X11))
      have hset : setN l id s ⟨vk, vn, vt, vl, vns⟩ = (l.set i (addCell ⟨uid, uty, ⟨uk, un, ut, ul, uns⟩⟩ s ⟨vk, vn, vt, vl, vns⟩), true) := by
        rw [hset0]
        have e1' : idxI (GN.mk uid uty ⟨uk, un, ut, ul, uns⟩).cells.ns (fun x => s == x) = idxI uns (fun x => s == x) := rfl
        rw [e1', if_neg (by assumption), if_neg (by show ¬ 12 ≤ uns.length; omega)]
      rw [hset, List.set_set]
      have u1 : (M3.put (M2.length + 1) (Blk.row 5 (encs ul ++ [[.int .i64 vk, .int .i64 vn, .str vt, .fsl 5 (encs vl), .fsl 1 (strs vns)]]))).length = M3.length := Heap.put_length _ _ _ (by omega)
      refine ⟨List.range _, bor_tup2 (bor_nodes (cap := some l.length) (Heap.at_put_same _ _ _) fun _ => liveNd_bor (n := 0) (u := addCell ⟨uid, uty, ⟨uk, un, ut, ul, uns⟩⟩ s ⟨vk, vn, vt, vl, vns⟩) ⟨.row (M2.length + 1) 0 (ul.length + 1) none 5, .row (H2.length + 1) 0 (uns.length + 1) none 1, rfl, .inr ⟨?_, M2.length + 1, none, ?_, ?_, by omega⟩, .inr ⟨?_, H2.length + 1, none, ?_, ?_, by omega⟩⟩)⟩
      · exact fun h => by have := congrArg List.length h; rw [encs_len] at this; have h9 : (ul ++ [GV.mk vk vn vt vl vns]).length = 0 := this; simp at h9
      · show AV.row _ 0 (ul.length + 1) none 5 = AV.row _ 0 (encs (ul ++ [⟨vk, vn, vt, vl, vns⟩])).length none 5
        rw [encs_len, List.length_append]; rfl
      · rw [Heap.at_put_ne _ _ _ _ (by omega), Heap.at_put_same]
        show _ = Blk.row 5 (encs (ul ++ [⟨vk, vn, vt, vl, vns⟩]))
        rw [encs_eq (ul ++ _), List.map_append, ← encs_eq]; rfl
      · exact fun h => by have := congrArg List.length h; rw [strs_len] at this; have h9 : (uns ++ [s]).length = 0 := this; simp at h9
      · show AV.row _ 0 (uns.length + 1) none 1 = AV.row _ 0 (strs (uns ++ [s])).length none 1
        rw [strs_len, List.length_append]; rfl
      · rw [Heap.at_put_ne _ _ _ _ (by omega), Heap.at_put_ne _ _ _ _ (by omega), v2]
        show _ = Blk.row 1 (strs (uns ++ [s]))
        simp [strs]
end Go.Av
