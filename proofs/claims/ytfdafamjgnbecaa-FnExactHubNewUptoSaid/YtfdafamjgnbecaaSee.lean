/- The law FnExactHubNew holds for all arguments of bulk at most 1048576. -/
import Derived.Test.YtfdafamjgnbecaaSed
import Derived.Test.YtfdafamjgnbecaaAvc
import Derived.Test.YtfdafamjgnbecaaRows
set_option linter.unusedVariables false
set_option linter.unusedSimpArgs false
namespace Go.Av
open Go Go.Proofs.Ytfdafamjgnbecaa
set_option maxRecDepth 10000

theorem build_list {X : Type} (Q : Nat → X → Prop) : ∀ (n : Nat), (∀ i, i < n → ∃ x, Q i x) → ∃ l : List X, l.length = n ∧ ∀ i, i < n → ∃ x, l[i]? = some x ∧ Q i x
  | 0, h => ⟨[], rfl, fun i hi => by omega⟩
  | n + 1, h => by
    obtain ⟨l, h1, h2⟩ := build_list Q n fun i hi => h i (by omega)
    obtain ⟨x, hx⟩ := h n (by omega)
    refine ⟨l ++ [x], by simp [h1], fun i hi => ?_⟩
    rcases Nat.lt_or_ge i n with h3 | h3
    · obtain ⟨y, h4, h5⟩ := h2 i h3
      exact ⟨y, by rw [List.getElem?_append_left (by omega)]; exact h4, h5⟩
    · have : i = n := by omega
      subst this
      exact ⟨x, by rw [List.getElem?_append_right (by omega)]; simp [h1], hx⟩

section
variable {H : Type}
theorem bulk_pos : ∀ d : DataW H, 1 ≤ Rows.uptoBulk d
  | .lit (.string b) => by simp [Rows.uptoBulk]
  | .lit (.bool _) | .lit (.int _ _) | .lit (.float _ _) | .lit .nil => by simp [Rows.uptoBulk]
  | .nil => by simp [Rows.uptoBulk]
  | .ptr d => by simp [Rows.uptoBulk]
  | .slice a b => by simp [Rows.uptoBulk]
  | .agg a => by simp [Rows.uptoBulk]
  | .iface _ d => by simp [Rows.uptoBulk]
  | .map e => by simp [Rows.uptoBulk]
  | .held _ => by simp [Rows.uptoBulk]
theorem bulkAll_len : ∀ ds : List (DataW H), ds.length ≤ Rows.uptoBulkAll ds
  | [] => by simp [Rows.uptoBulkAll]
  | d :: r => by have := bulk_pos d; have := bulkAll_len r; simp only [Rows.uptoBulkAll, List.length_cons]; omega
theorem bulkAll_get : ∀ {ds : List (DataW H)} {i : Nat} {d : DataW H}, ds[i]? = some d → Rows.uptoBulk d ≤ Rows.uptoBulkAll ds
  | [], i, d, h => by simp at h
  | e :: r, 0, d, h => by simp at h; subst h; simp [Rows.uptoBulkAll]
  | e :: r, i + 1, d, h => by have := bulkAll_get (ds := r) (i := i) (by simpa using h); simp only [Rows.uptoBulkAll]; omega

variable {enc : TypeId × Value → H} {w : World} {base : Nat} {sp : Nat → Bool} {held : Bool}

theorem cells_one {K : Nat → Nat} {w : World} {a : AV} {v : Value} (h : FRel K w a v) (h1 : v.oneCell' = true) : Cells K w [a] [v] :=
  ⟨rfl, fun j hj => by
    have : j = 0 := by simp at hj; exact hj
    subst this; exact ⟨h, h1⟩⟩

theorem rd_int {t : TypeId} {D : TyD} (hD : T t = some D) (hk : D.kind = .int .i64) {fuel : Nat} {cs : List Value} {d : DataW H} {p : List MemPlace} (h : DataW.trod enc P w base sp held fuel t cs = some (d, p)) :
    ∃ n : Int, cs = [.int .i64 n] ∧ d = .lit (.int .i64 n) ∧ I64 n := by
  obtain ⟨n, h1, h2, h3, h4⟩ := trodT_int T_ok hD hk h
  exact ⟨n, h1, h2, h3, h4⟩
theorem rd_str {t : TypeId} {D : TyD} (hD : T t = some D) (hk : D.kind = .str) {fuel : Nat} {cs : List Value} {d : DataW H} {p : List MemPlace} (h : DataW.trod enc P w base sp held fuel t cs = some (d, p)) (hb : Rows.uptoBulk d ≤ 1048576) :
    ∃ (s : List UInt8) (b : ByteArray), cs = [.string b] ∧ b.data.toList = s ∧ d = .lit (.string s) ∧ Len s := by
  obtain ⟨b, h1, h2⟩ := trodT_str T_ok hD hk h
  subst h2
  refine ⟨_, b, h1, rfl, rfl, ?_⟩
  simp only [Rows.uptoBulk] at hb
  simp only [Len]; omega

/-- slices of what is read -/
theorem rd_slice {X : Type} (encX : X → List AV) (okX : X → DataW H → Prop) {t e : TypeId} {D De : TyD} (hD : T t = some D) (hk : D.kind = .slice e) (hDe : T e = some De) (hsz : 0 < De.sz) (hX : ∀ x, (encX x).length = De.sz) {fuel : Nat} {cs : List Value} {d : DataW H} {p : List MemPlace}
    (h : DataW.trod enc P w base sp held (fuel + 1) t cs = some (d, p)) (hb : Rows.uptoBulk d ≤ 1048576)
    (hel : ∀ c y q, DataW.trod enc P w base sp held fuel e c = some (y, q) → Rows.uptoBulk y ≤ 1048576 → ∃ x : X, Cells (Kall w) w (encX x) c ∧ okX x y) :
    ∃ (l : List X) (ds : List (DataW H)), Cells (Kall w) w [.fsl De.sz (l.map encX)] cs ∧ Len l ∧ ds.length = l.length ∧ Rows.uptoBulkAll ds + 1 ≤ Rows.uptoBulk d ∧ (∀ (i : Nat) (x : X) (y : DataW H), l[i]? = some x → ds[i]? = some y → okX x y) := by
  rcases trodT_slice T_ok hD hk hDe h with ⟨rfl, rfl⟩ | ⟨a, len, cap, es, rest, rfl, rfl, hle, hlen, hi⟩
  · exact ⟨[], [], cells_one (.fsl0 _ _ _) rfl, by simp, rfl, by simp [Rows.uptoBulkAll, Rows.uptoBulk], fun i x y hx => by simp at hx⟩
  · have hball : Rows.uptoBulkAll (es.map (·.1)) + 1 ≤ 1048576 := by simp only [Rows.uptoBulk] at hb; omega
    obtain ⟨l, hl, hll⟩ := build_list (fun i (x : X) => ∃ c y, w.cells? base (a.add (i * De.sz)) De.sz = some c ∧ es[i]? = some y ∧ Cells (Kall w) w (encX x) c ∧ okX x y.1) len fun i hil => by
      obtain ⟨c, y, h1, h2, h3⟩ := hi i hil
      have := bulkAll_get (ds := es.map (·.1)) (i := i) (d := y.1) (by simp [h2])
      obtain ⟨x, h4, h5⟩ := hel c y.1 y.2 h3 (by omega)
      exact ⟨x, c, y, h1, h2, h4, h5⟩
    have hbl := bulkAll_len (es.map (·.1))
    refine ⟨l, es.map (·.1), cells_one (frel_slice hsz hle (by simpa using hl) fun i hil => ?_) rfl, ?_, by simp [hl, hlen], by simp only [Rows.uptoBulk]; omega, fun i x y hx hy => ?_⟩
    · obtain ⟨x, h1, c, y, h2, h3, h4, h5⟩ := hll i hil
      obtain ⟨h6, h7⟩ := cells_get h2
      refine ⟨c, h7, h6, ?_⟩
      have : (l.map encX).getD i [] = encX x := by simp [List.getD_eq_getElem?_getD, h1]
      rw [this]; exact h4
    · simp only [List.length_map] at hbl
      simp only [Len]; omega
    · have hil : i < len := by rw [← hl]; exact (List.getElem?_eq_some_iff.1 hx).1
      obtain ⟨x', h1, c, y', h2, h3, h4, h5⟩ := hll i hil
      rw [h1] at hx; cases hx
      simp [h3] at hy
      subst hy; exact h5

theorem rd_strs {fuel : Nat} {cs : List Value} {d : DataW H} {p : List MemPlace} (h : DataW.trod enc P w base sp held (fuel + 1) 45 cs = some (d, p)) (hb : Rows.uptoBulk d ≤ 1048576) :
    ∃ ns : List (List UInt8), Cells (Kall w) w [.fsl 1 (strs ns)] cs ∧ Len ns ∧ (∀ s ∈ ns, Len s) ∧ ns.length + 1 ≤ Rows.uptoBulk d := by
  obtain ⟨l, ds, h1, h2, h3, h4, h5⟩ := rd_slice (fun s : List UInt8 => [AV.str s]) (fun s d => Len s) (T_45) rfl (T_9) (by decide) (fun _ => rfl) h hb fun c y q hy hby => by
    obtain ⟨s, b, rfl, rfl, rfl, hs⟩ := rd_str (T_9) rfl hy hby
    exact ⟨_, cells_one (.str _ b rfl) rfl, hs⟩
  have := bulkAll_len ds
  refine ⟨l, h1, h2, fun s hs => ?_, by omega⟩
  obtain ⟨i, hi, rfl⟩ := List.getElem_of_mem hs
  exact h5 i _ (ds[i]'(by omega)) (by simp [hi]) (by simp)
/-! ### values -/
theorem cells_cons {K : Nat → Nat} {w : World} {a : AV} {u : List AV} {cs : List Value} {v : Value} (h : FRel K w a v) (h1 : v.oneCell' = true) (h2 : Cells K w u cs) : Cells K w (a :: u) (v :: cs) :=
  ⟨by simp [h2.1], fun j hj => by
    cases j with
    | zero => exact ⟨h, h1⟩
    | succ j => exact h2.2 j (by simpa using hj)⟩
theorem cells_app {K : Nat → Nat} {w : World} : ∀ {u bs : List AV} {cs ds : List Value}, Cells K w u cs → Cells K w bs ds → Cells K w (u ++ bs) (cs ++ ds)
  | [], bs, [], ds, _, h => h
  | a :: u, bs, c :: cs, ds, h, h2 => cells_cons (h.2 0 (by simp)).1 (h.2 0 (by simp)).2 (cells_app (u := u) (cs := cs) ⟨by have := h.1; simpa using this, fun j hj => h.2 (j + 1) (by simpa using hj)⟩ h2)
  | [], _, _ :: _, _, h, _ => by have := h.1; simp at this
  | _ :: _, _, [], _, h, _ => by have := h.1; simp at this
theorem cells_nil {K : Nat → Nat} {w : World} : Cells K w [] [] := ⟨rfl, fun j hj => by simp at hj⟩
theorem cells_i64 {K : Nat → Nat} {w : World} (n : Int) : Cells K w [.int .i64 n] [.int .i64 n] := cells_one (.int _ _) rfl
theorem cells_text {K : Nat → Nat} {w : World} {s : List UInt8} {b : ByteArray} (h : b.data.toList = s) : Cells K w [.str s] [.string b] := cells_one (.str _ _ h) rfl
theorem take_drop5 {cs : List Value} (h : cs.length = 5) : cs = (cs.drop 0).take 1 ++ ((cs.drop 1).take 1 ++ ((cs.drop 2).take 1 ++ ((cs.drop 3).take 1 ++ (cs.drop 4).take 1))) := by
  match cs, h with
  | [a, b, c, d, e], _ => rfl
theorem take_drop7 {cs : List Value} (h : cs.length = 7) : cs = (cs.drop 0).take 1 ++ ((cs.drop 1).take 1 ++ (cs.drop 2).take 5) := by
  match cs, h with
  | [a, b, c, d, e, f, g], _ => rfl

theorem cntVs_le : ∀ (l : List GV) (ds : List (DataW H)), ds.length = l.length → (∀ (i : Nat) (x : GV) (y : DataW H), l[i]? = some x → ds[i]? = some y → cntV x ≤ Rows.uptoBulk y) → cntVs l ≤ Rows.uptoBulkAll ds
  | [], ds, h, hi => by simp [cntVs]
  | v :: r, [], h, hi => by simp at h
  | v :: r, d :: ds, h, hi => by
    have h1 := hi 0 v d rfl rfl
    have h2 := cntVs_le r ds (by simpa using h) fun i x y hx hy => hi (i + 1) x y (by simpa using hx) (by simpa using hy)
    simp only [cntVs, Rows.uptoBulkAll]; omega
theorem fitss_of : ∀ (l : List GV), (∀ v ∈ l, v.fits) → fitss l
  | [], _ => trivial
  | v :: r, h => ⟨h v (by simp), fitss_of r fun u hu => h u (by simp [hu])⟩

theorem rd_V : ∀ (fuel : Nat) (cs : List Value) (d : DataW H) (p : List MemPlace), DataW.trod enc P w base sp held fuel 61 cs = some (d, p) → Rows.uptoBulk d ≤ 1048576 → ∃ v : GV, Cells (Kall w) w v.enc cs ∧ v.fits ∧ cntV v ≤ Rows.uptoBulk d
  | 0, cs, d, p, h, hb => by simp [DataW.trod] at h
  | 1, cs, d, p, h, hb => by
    obtain ⟨h1, xs, rfl, h2⟩ := trodT_struct T_ok (T_61) rfl h
    have := (mapM_get h2).2 0 _ rfl
    obtain ⟨y, _, hy⟩ := this
    simp [DataW.trod] at hy
  | fuel + 2, cs, d, p, h, hb => by
    obtain ⟨h1, xs, rfl, h2⟩ := trodT_struct T_ok (T_61) rfl h
    obtain ⟨hl, hg⟩ := mapM_get h2
    have c1 : P.cellsOf 3 = 1 := cellsOf_T T_ok (T_3)
    have c2 : P.cellsOf 9 = 1 := cellsOf_T T_ok (T_9)
    have c3 : P.cellsOf 59 = 1 := cellsOf_T T_ok (T_59)
    have c4 : P.cellsOf 45 = 1 := cellsOf_T T_ok (T_45)
    obtain ⟨y0, e0, g0⟩ := hg 0 _ rfl
    obtain ⟨y1, e1, g1⟩ := hg 1 _ rfl
    obtain ⟨y2, e2, g2⟩ := hg 2 _ rfl
    obtain ⟨y3, e3, g3⟩ := hg 3 _ rfl
    obtain ⟨y4, e4, g4⟩ := hg 4 _ rfl
    dsimp only at g0 g1 g2 g3 g4
    rw [c1] at g0 g1; rw [c2] at g2; rw [c3] at g3; rw [c4] at g4
    have hxs : xs = [y0, y1, y2, y3, y4] := by
      match xs, hl, e0, e1, e2, e3, e4 with
      | [a, b, c, d, e], _, e0, e1, e2, e3, e4 => simp at e0 e1 e2 e3 e4; simp [e0, e1, e2, e3, e4]
    subst hxs
    simp only [List.map_cons, List.map_nil, Rows.uptoBulk, Rows.uptoBulkAll] at hb ⊢
    obtain ⟨n0, k0, ka0, kb0⟩ := rd_int (T_3) rfl g0
    obtain ⟨n1, k1, ka1, kb1⟩ := rd_int (T_3) rfl g1
    obtain ⟨s2, b2, k2, ka2, kb2, kc2⟩ := rd_str (T_9) rfl g2 (by omega)
    obtain ⟨ns, k4, ka4, kb4, kc4⟩ := rd_strs g4 (by omega)
    obtain ⟨l, ds, k3, ka3, kb3, kc3, kd3⟩ := rd_slice GV.enc (fun v d => v.fits ∧ cntV v ≤ Rows.uptoBulk d) (T_59) rfl (T_61) (by decide) enc_len g3 (by omega) fun c y q hy hby => by
      obtain ⟨v, h1, h2, h3⟩ := rd_V fuel c y q hy hby
      exact ⟨v, h1, h2, h3⟩
    have hcnt := cntVs_le l ds kb3 fun i x y hx hy => (kd3 i x y hx hy).2
    refine ⟨⟨n0, n1, s2, l, ns⟩, ?_, ⟨kb0, kb1, kc2, ka3, fitss_of l fun v hv => ?_, ka4, kb4⟩, ?_⟩
    · rw [take_drop5 h1, k0, k1, k2]
      simp only [GV.enc, encs_eq]
      exact cells_app (u := [_]) (cells_i64 n0) (cells_app (u := [_]) (cells_i64 n1) (cells_app (u := [_]) (cells_text ka2) (cells_app (u := [_]) k3 k4)))
    · obtain ⟨i, hi, rfl⟩ := List.getElem_of_mem hv
      exact (kd3 i _ (ds[i]'(by omega)) (by simp [hi]) (by simp)).1
    · have p0 := bulk_pos y0.1; have p1 := bulk_pos y1.1; have p2 := bulk_pos y2.1
      simp only [cntV]; omega

theorem rd_N {fuel : Nat} {cs : List Value} {d : DataW H} {p : List MemPlace} (h : DataW.trod enc P w base sp held (fuel + 1) 63 cs = some (d, p)) (hb : Rows.uptoBulk d ≤ 1048576) :
    ∃ v : GN, Cells (Kall w) w v.enc cs ∧ v.fits ∧ cntN v ≤ Rows.uptoBulk d := by
  obtain ⟨h1, xs, rfl, h2⟩ := trodT_struct T_ok (T_63) rfl h
  obtain ⟨hl, hg⟩ := mapM_get h2
  have c1 : P.cellsOf 3 = 1 := cellsOf_T T_ok (T_3)
  have c2 : P.cellsOf 9 = 1 := cellsOf_T T_ok (T_9)
  have c3 : P.cellsOf 61 = 5 := cellsOf_T T_ok (T_61)
  obtain ⟨y0, e0, g0⟩ := hg 0 _ rfl
  obtain ⟨y1, e1, g1⟩ := hg 1 _ rfl
  obtain ⟨y2, e2, g2⟩ := hg 2 _ rfl
  dsimp only at g0 g1 g2
  rw [c1] at g0; rw [c2] at g1; rw [c3] at g2
  have hxs : xs = [y0, y1, y2] := by
    match xs, hl, e0, e1, e2 with
    | [a, b, c], _, e0, e1, e2 => simp at e0 e1 e2; simp [e0, e1, e2]
  subst hxs
  simp only [List.map_cons, List.map_nil, Rows.uptoBulk, Rows.uptoBulkAll] at hb ⊢
  obtain ⟨n0, k0, ka0, kb0⟩ := rd_int (T_3) rfl g0
  obtain ⟨s1, b1, k1, ka1, kb1, kc1⟩ := rd_str (T_9) rfl g1 (by omega)
  obtain ⟨v, k2, ka2, kb2⟩ := rd_V fuel _ _ _ g2 (by omega)
  refine ⟨⟨n0, s1, v⟩, ?_, ⟨kb0, kc1, ka2⟩, ?_⟩
  · rw [take_drop7 h1, k0, k1]
    simp only [GN.enc]
    exact cells_app (u := [_]) (cells_i64 n0) (cells_app (u := [_]) (cells_text ka1) k2)
  · have p0 := bulk_pos y0.1; have p1 := bulk_pos y1.1
    obtain ⟨a, b, c, l, ns⟩ := v
    simp only [cntN, cntV] at kb2 ⊢
    omega

theorem cntNs_le : ∀ (l : List GN) (ds : List (DataW H)), ds.length = l.length → (∀ (i : Nat) (x : GN) (y : DataW H), l[i]? = some x → ds[i]? = some y → cntN x ≤ Rows.uptoBulk y) → cntNs l ≤ Rows.uptoBulkAll ds
  | [], ds, h, hi => by simp [cntNs]
  | v :: r, [], h, hi => by simp at h
  | v :: r, d :: ds, h, hi => by
    have h1 := hi 0 v d rfl rfl
    have h2 := cntNs_le r ds (by simpa using h) fun i x y hx hy => hi (i + 1) x y (by simpa using hx) (by simpa using hy)
    simp only [cntNs, Rows.uptoBulkAll]; omega

theorem rd_NS {t : TypeId} {D : TyD} (hD : T t = some D) (hk : D.kind = .slice 63) {fuel : Nat} {cs : List Value} {d : DataW H} {p : List MemPlace} (h : DataW.trod enc P w base sp held fuel t cs = some (d, p)) (hb : Rows.uptoBulk d ≤ 1048576) :
    ∃ l : List GN, Cells (Kall w) w [.fsl 7 (encn l)] cs ∧ Len l ∧ (∀ v ∈ l, v.fits) ∧ cntNs l + 1 ≤ Rows.uptoBulk d := by
  cases fuel with
  | zero => simp [DataW.trod] at h
  | succ fuel =>
    obtain ⟨l, ds, k3, ka3, kb3, kc3, kd3⟩ := rd_slice GN.enc (fun v d => v.fits ∧ cntN v ≤ Rows.uptoBulk d) hD hk (T_63) (by decide) nenc_len h hb fun c y q hy hby => by
      cases fuel with
      | zero => simp [DataW.trod] at hy
      | succ fuel =>
        obtain ⟨v, h1, h2, h3⟩ := rd_N hy hby
        exact ⟨v, h1, h2, h3⟩
    have hcnt := cntNs_le l ds kb3 fun i x y hx hy => (kd3 i x y hx hy).2
    refine ⟨l, k3, ka3, fun v hv => ?_, by omega⟩
    obtain ⟨i, hi, rfl⟩ := List.getElem_of_mem hv
    exact (kd3 i _ (ds[i]'(by omega)) (by simp [hi]) (by simp)).1
end
end Go.Av
set_option linter.unusedVariables false
set_option linter.unusedSimpArgs false
namespace Go.Proofs.Ytfdafamjgnbecaa
open Go Go.Av Go.ChangeShapes Go.WideShapes Go.ChangeAt Go.RowKit
set_option maxRecDepth 100000

theorem row1_own : ownKnob Try.prog.godebug = none := by kernel_rfl
theorem row1_laid : laidOutB Try.prog = true := by kernel_rfl
theorem row1_read : ∀ t ∈ Try.f3.params.toList, Try.prog.readableRec t = true ∧ t < Try.prog.types.size := by
  have h : (Try.f3.params.toList.all fun t => Try.prog.readableRec t && decide (t < Try.prog.types.size)) = true := by kernel_rfl
  intro t ht
  have := List.all_eq_true.1 h t ht
  simpa using this

theorem row1_contract (H : Type) (enc : TypeId × Value → H) (W : World) (args : Array Value) (base : Nat) (ds gs : List (DataW H)) (before : List MemPlace)
    (hval : ∀ (j : Nat) t v, Try.f3.params[j]? = some t → args[j]? = some v → Value.okWide Try.prog W .any base t v)
    (hW : DataW.Whole enc Try.prog Try.f3.params.toList Rows.fnExactHubNewSpec.vars false W args.toList ds gs before) (hk : Rows.uptoSmall H (ds ++ gs) = true) :
    Calls Try.prog 3 args W fun e W' => ∃ v, e = .returned v ∧ Rows.fnExactHubNewSpec.post enc Try.prog Try.f3 false true false false W args v W' := by
  have hW' := hW
  obtain ⟨p, q, hA, hV, rfl, hz, hn⟩ := hW
  obtain ⟨rfl, rfl⟩ := trodVars_none hV
  rw [Try.params3] at hA
  obtain ⟨v0, vs0, d0, ds0, p0, q0, hargs, rfl, rfl, h0, r0⟩ := trodAll_cons hA
  obtain ⟨rfl, rfl, rfl⟩ := trodAll_nil r0
  obtain rfl : args = #[v0] := by cases args; simp_all
  obtain ⟨fuel, h0⟩ := h0
  have hb : Rows.uptoBulkAll ([d0] ++ []) ≤ 1048576 := of_decide_eq_true hk
  simp only [List.append_nil, Rows.uptoBulkAll, Nat.add_zero] at hb
  obtain ⟨l, h1, h2, h3, h4⟩ := rd_NS (T_22) rfl h0 hb
  have hv : v0.cells.toList = [v0] ∧ FRel (Kall W) W (.fsl 7 (encn l)) v0 := by
    obtain ⟨e1, e2⟩ := h1
    have e3 := e2 0 (by simp)
    obtain ⟨a, len, cap, rfl⟩ := okWide_slice (P := Try.prog) Try.underlying22 (hval 0 22 v0 rfl rfl)
    exact ⟨rfl, e3.1⟩
  refine post_of_pcall (law1_ok l h2 h3 (by omega)) rfl (fun i hi => ?_) row1_laid row1_read (by kernel_rfl) (tb := 4) (by kernel_rfl) rfl rfl hW'
  have : i = 0 := by simp at hi; exact hi
  subst this
  exact hv.2

theorem row1_lifted (os : Os) (started : os.Started) (H : Type) (enc : TypeId × Value → H) (F : Stop.Interp) :
    ReturnsInHanded {} Try.checked os 3 .any ((Rows.OpenSpec.upto Rows.fnExactHubNewSpec).pre6 enc Try.prog Try.f3 Rows.fnExactHubNewUptoRow.domain false) (((Rows.OpenSpec.upto Rows.fnExactHubNewSpec).at F).post enc Try.prog Try.f3 false true false false) := by
  refine returnsInHanded_of_cond (C := Try.checked) (s := Rows.OpenSpec.upto Rows.fnExactHubNewSpec) (k := Rows.uptoSmall) rfl row1_own started (by kernel_rfl) Try.func3
    (OpenSpec.witness (enc := enc) (C := Try.checked) (s := Rows.OpenSpec.upto Rows.fnExactHubNewSpec) (k := Rows.uptoSmall) rfl false ⟨#[], #[.slice none 0 0], []⟩ 8 (by kernel_rfl) (by kernel_rfl) (by kernel_rfl)
      (x := ([.nil], [], [])) (by kernel_rfl) rfl (by kernel_rfl)) ?_
  intro W base args ds gs before hval hW _ hk _
  exact row1_contract H enc W args base ds gs before hval hW hk

theorem fnExactHubNew_holds : Rows.FnExactHubNewUptoSaid :=
  OpenClaim.holds_of_cond 3 Try.f3 rfl rfl rfl rfl rfl rfl rfl ⟨rfl, rfl, rfl, rfl, rfl⟩ rfl rfl rfl rfl rfl (by kernel_rfl) Try.func3 (by kernel_rfl)
    (of_decide_eq_true (by kernel_rfl)) (by unfold Func.isWrapper; first | (rw [if_pos (by decide +kernel)]; kernel_rfl) | (rw [if_neg (by decide +kernel)]; exact ⟨rfl, rfl⟩))
    (fun os started H enc _ F => row1_lifted os started H enc F)
#print axioms fnExactHubNew_holds
end Go.Proofs.Ytfdafamjgnbecaa
