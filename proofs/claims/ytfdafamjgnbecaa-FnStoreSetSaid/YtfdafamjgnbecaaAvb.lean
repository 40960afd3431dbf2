/- What appends, literals, regions and loops come to in the abstract evaluator; no conditions. -/
import Derived.Test.YtfdafamjgnbecaaAva
import Derived.Deep.Upon
set_option linter.unusedVariables false
set_option linter.unusedSimpArgs false
/- append. -/
set_option linter.unusedVariables false
namespace Go.Av
open Go

variable {P : Program} {T : Tys}

theorem idx_split {sz n k : Nat} (h : k < n * sz) : k / sz < n ∧ k % sz < sz ∧ k / sz * sz + k % sz = k := by
  have hs : 0 < sz := by
    rcases Nat.eq_zero_or_pos sz with h0 | h0
    · subst h0; simp at h
    · exact h0
  refine ⟨(Nat.div_lt_iff_lt_mul hs).2 h, Nat.mod_lt _ hs, ?_⟩
  rw [Nat.mul_comm]; exact Nat.div_add_mod k sz

theorem idx_join {sz i j : Nat} (hj : j < sz) : (i * sz + j) / sz = i ∧ (i * sz + j) % sz = j := by
  have hs : 0 < sz := by omega
  constructor
  · rw [Nat.mul_comm, Nat.mul_add_div hs, Nat.div_eq_of_lt hj]; rfl
  · rw [Nat.mul_comm, Nat.mul_add_mod, Nat.mod_eq_of_lt hj]

theorem idx_lt {sz n i j : Nat} (hi : i < n) (hj : j < sz) : i * sz + j < n * sz := by
  have : (i + 1) * sz ≤ n * sz := Nat.mul_le_mul_right _ hi
  rw [Nat.add_mul] at this; omega

/-- cells in rows, as one list -/
def flatOf (n sz : Nat) (g : Nat → Nat → Value) : List Value := (List.range (n * sz)).map fun k => g (k / sz) (k % sz)
theorem flatOf_length (n sz : Nat) (g : Nat → Nat → Value) : (flatOf n sz g).length = n * sz := by simp [flatOf]
theorem flatOf_get {n sz : Nat} (g : Nat → Nat → Value) {k : Nat} (hk : k < n * sz) : (flatOf n sz g)[k]? = some (g (k / sz) (k % sz)) := by
  simp [flatOf, hk]
theorem flatOf_getD {n sz : Nat} (g : Nat → Nat → Value) {i j : Nat} (hi : i < n) (hj : j < sz) : (flatOf n sz g).getD (i * sz + j) undef = g i j := by
  rw [List.getD_eq_getElem?_getD, flatOf_get g (idx_lt hi hj), (idx_join hj).1, (idx_join hj).2]; rfl
theorem flatOf_one {n sz : Nat} {g : Nat → Nat → Value} (h : ∀ i j, i < n → j < sz → (g i j).oneCell' = true) : ∀ v ∈ flatOf n sz g, v.oneCell' = true := fun v hv => by
  obtain ⟨k, hk, rfl⟩ := List.mem_map.1 hv
  obtain ⟨h1, h2, _⟩ := idx_split (List.mem_range.1 hk)
  exact h _ _ h1 h2

/-- the concrete cells of a frozen slice -/
theorem fsl_cells {K : Nat → Nat} {w : World} {sz : Nat} {xs : List (List AV)} {v : Value} (h : FRel K w (.fsl sz xs) v) : ∃ (ad : Option Addr) (cap : Nat) (cs : List Value), v = .slice ad xs.length cap ∧ cs.length = xs.length * sz ∧
    (ad = none → xs = []) ∧ (∀ a, ad = some a → ∀ j u, cs[j]? = some u → w.cell? (a.add j) = some u) ∧ (∀ v ∈ cs, v.oneCell' = true) ∧
    (∀ i j, i < xs.length → j < sz → FRel K w ((xs.getD i []).getD j .junk) (cs.getD (i * sz + j) undef)) := by
  cases h with
  | fsl0 _ ad cap => exact ⟨ad, cap, [], rfl, by simp, fun _ => rfl, fun a _ j u hu => by simp at hu, fun v hv => by simp at hv, fun i j hi _ => by simp at hi⟩
  | fsl _ _ blk off cap g hK hcp hp9 hs hc ho hr =>
    refine ⟨_, cap, flatOf xs.length sz g, rfl, flatOf_length _ _ _, fun h => (by cases h), fun a ha j u hu => ?_, flatOf_one ho, fun i j hi hj => by rw [flatOf_getD g hi hj]; exact hr i j hi hj⟩
    cases ha
    have hj : j < xs.length * sz := by
      have := (List.getElem?_eq_some_iff.1 hu).1; rwa [flatOf_length] at this
    rw [flatOf_get g hj] at hu
    cases hu
    obtain ⟨h1, h2, h3⟩ := idx_split hj
    rw [Addr.add_mid]
    have := hc _ _ h1 h2
    rwa [h3] at this

theorem frzLL_spec : ∀ {l r : List (List AV)}, frzLL l = some r → r.length = l.length ∧ ∀ i, i < l.length → frzL (l.getD i []) = some (r.getD i [])
  | [], r, h => by simp [frzLL] at h; subst h; exact ⟨rfl, fun i hi => by simp at hi⟩
  | a :: l, r, h => by
    simp only [frzLL] at h
    split at h
    · rename_i b hb
      split at h
      · rename_i r' hr
        cases h
        obtain ⟨h1, h2⟩ := frzLL_spec hr
        refine ⟨by simp [h1], fun i hi => ?_⟩
        cases i with
        | zero => simpa using hb
        | succ i => simpa using h2 i (by simpa using hi)
      · cases h
    · cases h

theorem take_get {l : List Value} {n j : Nat} {u : Value} (h : (l.take n)[j]? = some u) : l[j]? = some u := by
  rw [List.getElem?_take] at h
  split at h
  · exact h
  · cases h

/-- what is appended, as the model asks it -/
theorem src_rel (hT : TyOK P T) {C : Ctx} {H H2 : Heap} (hH : HRel C H2) {tx : TypeId} {de : TyD} {i : TypeInfo} (hsz : i.size = de.sz) {x : AV} {v : Value} (hx : VRel C x v) (hk : srcKind T tx de x = true) {ys0 ys : List (List AV)} {log : List Nat}
    (hs : srcOf H x = some (ys0, log)) (hlog : ∀ b ∈ log, H2.at b = H.at b) (hf : srcFrz x ys0 = some ys) (hl : ∀ y ∈ ys, y.length = de.sz) :
    ∃ news : List Value, Src P i.size tx v ys.length news C.w ∧ (∀ i j, i < ys.length → j < de.sz → FRel C.K C.w ((ys.getD i []).getD j .junk) (news.getD (i * de.sz + j) undef)) ∧
      ∀ m, m ≤ ys.length → (Builtin.firstCells i.size m v).run P C.w = .ok (news.take (m * i.size)).toArray C.w := by
  have frozenCase : ∀ {sz : Nat} {xs : List (List AV)}, xs = ys → FRel C.K C.w (.fsl sz xs) v → (∃ e', P.underlying tx = some (.slice e')) →
      ∃ news : List Value, Src P i.size tx v ys.length news C.w ∧ (∀ i j, i < ys.length → j < de.sz → FRel C.K C.w ((ys.getD i []).getD j .junk) (news.getD (i * de.sz + j) undef)) ∧
      ∀ m, m ≤ ys.length → (Builtin.firstCells i.size m v).run P C.w = .ok (news.take (m * i.size)).toArray C.w := by
    intro sz xs hxs hfr ⟨e', hu⟩
    subst hxs
    obtain ⟨ad, cap, cs, rfl, h1, h2, h3, h4, h5⟩ := fsl_cells hfr
    have hszz : xs = [] ∨ sz = de.sz := by
      cases hfr with
      | fsl0 => exact .inl rfl
      | fsl _ _ blk off cap g hK hcp hp9 hs hc ho hr =>
        cases xs with
        | nil => exact .inl rfl
        | cons y ys => right; rw [← hs y (by simp), hl y (by simp)]
    cases ad with
    | none =>
      have := h2 rfl; subst this
      exact ⟨[], Src.ofNil C.w hu cap, fun i j hi => by simp at hi, fun m hm => by
        have : m = 0 := by simpa using hm
        subst this
        simpa using run_firstCells_none (P := P) C.w i.size 0 0 cap⟩
    | some a =>
      have hcl : cs.length = xs.length * i.size := by
        rcases hszz with rfl | rfl
        · simpa using h1
        · rw [h1, hsz]
      refine ⟨cs, Src.ofSlice C.w hu a xs.length cap cs hcl (fun j u hu => h3 a rfl j u hu) h4, fun i j hi hj => ?_, fun m hm => ?_⟩
      · rcases hszz with rfl | rfl
        · simp at hi
        · exact h5 i j hi hj
      · refine run_firstCells_some C.w i.size m a _ _ _ ?_ (fun j u hu => h3 a rfl j u (take_get hu))
        rw [List.length_take, hcl, Nat.min_eq_left (Nat.mul_le_mul_right _ hm)]
  unfold srcKind at hk
  split at hk
  · rename_i dx hdx
    obtain ⟨ti, z, u, hti, hts', htb, htz, hu, hkk, hrest⟩ := hT.ok tx dx hdx
    split at hk
    · rename_i e' hdk
      rw [hdk] at hkk
      cases u <;> simp only [kindOK] at hkk
      cases x with
      | junk => cases hs
      | bool => cases hs
      | int => cases hs
      | agg => cases hs
      | tup => cases hs
      | ptr => cases hs
      | fptr => cases hs
      | nilp => cases hs
      | fn => cases hs
      | nilfn => cases hs
      | iface => cases hs
      | nilif => cases hs
      | mapr => cases hs
      | fmap => cases hs
      | nilmap => cases hs
      | fsl sz xs =>
        cases hs; simp only [srcFrz, Option.some.injEq] at hf; subst hf
        exact frozenCase rfl hx.fsl_inv ⟨_, hu⟩
      | asl t e sz xs =>
        cases hs; simp only [srcFrz, Option.some.injEq] at hf; subst hf
        exact frozenCase rfl hx.asl_fsl ⟨_, hu⟩
      | nsl sz =>
        cases hs; simp only [srcFrz, Option.some.injEq] at hf; subst hf
        have := hx.nsl_inv; subst this
        exact ⟨[], Src.ofNil C.w hu 0, fun i j hi => by simp at hi, fun m hm => by
          have : m = 0 := by simpa using hm
          subst this
          simpa using run_firstCells_none (P := P) C.w i.size 0 0 0⟩
      | str l => cases hk
      | row b off len cap sz =>
        simp only [srcOf] at hs
        split at hs
        · rename_i sz' es hb
          split at hs
          · rename_i hle
            cases hs
            obtain ⟨cb, base, ccap, hφ, rfl, hlc, _⟩ := hx.row_inv
            have hb2 : H2.at b = .row sz' es := by rw [hlog b (by simp), hb]
            obtain ⟨cb', base', g, k1, k2, k3, k4, k5, k6, k7, k8⟩ := hH.row b sz' es hb2
            rw [hφ] at k1; cases k1
            simp only [srcFrz] at hf
            obtain ⟨f1, f2⟩ := frzLL_spec hf
            have hlen : ((es.drop off).take len).length = len := by simp; omega
            have hyl : ys.length = len := by rw [f1, hlen]
            have hget : ∀ i, i < len → ((es.drop off).take len).getD i [] = es.getD (off + i) [] := fun i hi => by
              simp only [List.getD_eq_getElem?_getD]
              rw [List.getElem?_take_of_lt hi, List.getElem?_drop]
            have hszz : len = 0 ∨ sz = de.sz := by
              rcases Nat.eq_zero_or_pos len with h0 | h0
              · exact .inl h0
              · right
                have h1 := f2 0 (by omega)
                have h2 := frzL_length h1
                rw [hget 0 h0] at h2
                have h3 : (es.getD (off + 0) []).length = sz := by
                  rw [List.getD_eq_getElem?_getD, List.getElem?_eq_getElem (by omega)]; exact k4 _ (List.getElem_mem (by omega))
                have h4 : (ys.getD 0 []).length = de.sz := by
                  rw [List.getD_eq_getElem?_getD, List.getElem?_eq_getElem (by omega)]; exact hl _ (List.getElem_mem (by omega))
                omega
            have hlt : ∀ {i}, i < len → off + i < es.length := fun {i} hi => by omega
            have key : sz = de.sz ∨ len = 0 := hszz.symm
            have hcells : ∀ j u, (flatOf len de.sz fun i j => g (off + i) j)[j]? = some u → C.w.cell? ((⟨cb, base + off * sz, none⟩ : Addr).add j) = some u := by
              intro j u hu'
              · have hj : j < len * de.sz := by
                  have := (List.getElem?_eq_some_iff.1 hu').1; rwa [flatOf_length] at this
                rw [flatOf_get _ hj] at hu'
                cases hu'
                obtain ⟨h1, h2, h3⟩ := idx_split hj
                generalize j / de.sz = q at *
                generalize j % de.sz = q' at *
                rcases key with rfl | h0
                · rw [Addr.add_mid]
                  have := k5 (off + q) q' (hlt h1) h2
                  rw [show base + off * de.sz + j = base + ((off + q) * de.sz + q') by rw [Nat.add_mul]; omega]
                  exact this
                · omega
            refine ⟨flatOf len de.sz fun i j => g (off + i) j, ?_, fun i j hi hj => ?_, fun m hm => ?_⟩
            · rw [hyl]
              refine Src.ofSlice C.w hu _ len ccap _ (by rw [flatOf_length, hsz]) hcells (flatOf_one fun i j hi hj => ?_)
              · rcases key with rfl | h0
                · exact k7 _ _ (hlt hi) hj
                · omega
            · rw [hyl] at hi
              rw [flatOf_getD _ hi hj]
              rcases key with rfl | h0
              · have h1 := f2 i (by omega)
                rw [hget i hi] at h1
                have h2 : j < (es.getD (off + i) []).length := by
                  rw [List.getD_eq_getElem?_getD, List.getElem?_eq_getElem (hlt hi)]
                  rw [show (some es[off + i]).getD [] = es[off + i] from rfl, k4 _ (List.getElem_mem (hlt hi))]; exact hj
                exact (k8 (off + i) j (hlt hi) hj).frz (frzL_get h1 j h2)
              · omega
            · rw [hyl] at hm
              refine run_firstCells_some C.w i.size m _ _ _ _ ?_ (fun j u hu => hcells j u (take_get hu))
              rw [List.length_take, flatOf_length, hsz, Nat.min_eq_left (Nat.mul_le_mul_right _ hm)]
          · cases hs
        · cases hs
    · rename_i hdk
      rw [hdk] at hkk
      cases u <;> simp only [kindOK] at hkk
      cases x with
      | str l =>
        simp only [srcOf] at hs
        cases hs; simp only [srcFrz, Option.some.injEq] at hf; subst hf
        obtain ⟨s, rfl, hsl⟩ := hx.str_inv
        have h1 : de.sz = 1 := by simpa using hk
        have hlen : (l.map fun b => [AV.int .u8 (b.toNat : Int)]).length = s.size := by rw [size_data, hsl]; simp
        rw [hlen, hsz, h1]
        refine ⟨byteCells s, Src.ofString C.w hu s, fun i j hi hj => ?_, fun m hm => by
          simp only [Builtin.firstCells, Sem.run_pure, Nat.mul_one, byteCells, ByteArray.data_extract]
          congr 1
          apply Array.ext'
          simp⟩
        have : j = 0 := by omega
        subst this
        have hi' : i < l.length := by rw [size_data, hsl] at hi; exact hi
        have hi2 : i < s.data.size := by rw [← hsl] at hi'; simpa using hi'
        subst hsl
        simp only [byteCells, List.getD_eq_getElem?_getD, List.getElem?_map, Array.getElem?_toList, Nat.mul_one, Nat.add_zero, Array.getElem?_eq_getElem hi2, Option.map_some, Option.getD_some, List.getElem?_cons_zero]
        exact .int _ _
      | _ => cases hk
    · cases hk
  · cases hk
end Go.Av
/- append: the operation. -/
set_option linter.unusedVariables false
namespace Go.Av
open Go

variable {P : Program} {T : Tys}

theorem HRel.congr {C : Ctx} {H H' : Heap} (h : HRel C H) (e : ∀ b, H'.at b = H.at b) : HRel C H' where
  blk := fun b => by rw [e]; exact h.blk b
  own := fun b b' cb hb hb' => by
    have back : ∀ {b cb}, Owns C H' b cb → Owns C H b cb := fun {b cb} ho => by
      cases ho with
      | row sz es _ base hb hφ => exact .row b sz es cb base (by rw [← e]; exact hb) hφ
      | tok e' _ eo ce hb hτ => exact .tok b e' cb eo ce (by rw [← e]; exact hb) hτ
      | map es _ hb hφ => exact .map b es cb (by rw [← e]; exact hb) hφ
    exact h.own b b' cb (back hb) (back hb')
  dom := h.dom

theorem Owns.congr {C : Ctx} {H H' : Heap} (e : ∀ b, H'.at b = H.at b) {b cb : Nat} (ho : Owns C H' b cb) : Owns C H b cb := by
  cases ho with
  | row sz es _ base hb hφ => exact .row b sz es cb base (by rw [← e]; exact hb) hφ
  | tok e' _ eo ce hb hτ => exact .tok b e' cb eo ce (by rw [← e]; exact hb) hτ
  | map es _ hb hφ => exact .map b es cb (by rw [← e]; exact hb) hφ

theorem heap_setCells_map (b : Nat) : ∀ (vs : List Value) (o : Nat) (w : World) (k : Nat) (es : Array MapEntry) (ck : Nat), w.heap[k]? = some (.map es ck) → (w.setCells b o vs).heap[k]? = some (.map es ck)
  | [], _, _, _, _, _, h => h
  | v :: r, o, w, k, es, ck, h => by
    rw [World.setCells]
    refine heap_setCells_map b r (o + 1) _ k es ck ?_
    simp only [World.setCell, Array.getElem?_modify, h]
    split <;> rfl

theorem getD_app_left {l r : List Value} {k : Nat} (h : k < l.length) : (l ++ r).getD k undef = l.getD k undef := by
  simp [List.getD_eq_getElem?_getD, List.getElem?_append_left h]
theorem getD_app_right {l r : List Value} {k : Nat} (h : l.length ≤ k) : (l ++ r).getD k undef = r.getD (k - l.length) undef := by
  simp [List.getD_eq_getElem?_getD, List.getElem?_append_right h]
theorem getDL_app_left {l r : List (List AV)} {k : Nat} (h : k < l.length) : (l ++ r).getD k [] = l.getD k [] := by
  simp [List.getD_eq_getElem?_getD, List.getElem?_append_left h]
theorem getDL_app_right {l r : List (List AV)} {k : Nat} (h : l.length ≤ k) : (l ++ r).getD k [] = r.getD (k - l.length) [] := by
  simp [List.getD_eq_getElem?_getD, List.getElem?_append_right h]

/-- the cells of two lists, one behind the other -/
theorem app_cells {K : Nat → Nat} {w : World} {sz : Nat} {xs ys : List (List AV)} {olds news : List Value} (ho : olds.length = xs.length * sz)
    (h1 : ∀ i j, i < xs.length → j < sz → FRel K w ((xs.getD i []).getD j .junk) (olds.getD (i * sz + j) undef)) (h2 : ∀ i j, i < ys.length → j < sz → FRel K w ((ys.getD i []).getD j .junk) (news.getD (i * sz + j) undef)) :
    ∀ i j, i < (xs ++ ys).length → j < sz → FRel K w (((xs ++ ys).getD i []).getD j .junk) ((olds ++ news).getD (i * sz + j) undef) := by
  intro i j hi hj
  rw [List.length_append] at hi
  rcases Nat.lt_or_ge i xs.length with h | h
  · rw [getDL_app_left h, getD_app_left (by rw [ho]; exact idx_lt h hj)]; exact h1 i j h hj
  · have e : i * sz + j - olds.length = (i - xs.length) * sz + j := by
      rw [ho, Nat.sub_mul]
      have : xs.length * sz ≤ i * sz := Nat.mul_le_mul_right _ h
      omega
    have : xs.length * sz ≤ i * sz := Nat.mul_le_mul_right _ h
    rw [getDL_app_right h, getD_app_right (by omega), e]; exact h2 _ j (by omega) hj

theorem grown_le (w : World) (need old : Nat) (e : TypeId) : need ≤ grownCap w need old e := by
  simp only [grownCap, Question.cut]; omega

/-- the arm that grows -/
theorem append_grows (hT : TyOK P T) {C : Ctx} {H2 : Heap} (hH : HRel C H2) {ts tx e ty : TypeId} {de : TyD} (hu : P.underlying ts = some (.slice e)) (hde : T e = some de) {i : TypeInfo} (hi : P.info? e = some i)
    {t ee : Nat} (hτ : ∀ e', ee ≤ e' → C.τ t e' = none) {ad : Option Addr} {ccap : Nat} {xs ys : List (List AV)} {v : Value} {olds news : List Value} (had : ad = none → xs = [])
    (holds : olds.length = xs.length * de.sz) (hoc : ∀ a, ad = some a → ∀ j u, olds[j]? = some u → C.w.cell? (a.add j) = some u) (ho1 : ∀ v ∈ olds, v.oneCell' = true)
    (hor : ∀ i j, i < xs.length → j < de.sz → FRel C.K C.w ((xs.getD i []).getD j .junk) (olds.getD (i * de.sz + j) undef)) (hxl : ∀ x ∈ xs, x.length = de.sz) (hyl : ∀ y ∈ ys, y.length = de.sz)
    (hs : Src P i.size tx v ys.length news C.w) (hnr : ∀ i j, i < ys.length → j < de.sz → FRel C.K C.w ((ys.getD i []).getD j .junk) (news.getD (i * de.sz + j) undef))
    (hg : ccap < xs.length + ys.length) (hb : (xs.length + ys.length) * de.bytes ≤ 140737488355328) (h63 : xs.length + ys.length ≤ 9223372036854775807) :
    ∃ v' C', (Builtin.append_ #[ts, tx] ty #[.slice ad xs.length ccap, v]).run P C.w = .ok v' C'.w ∧ VRel C' (.asl t ee de.sz (xs ++ ys)) v' ∧ HRel C' (H2.put t (.tok ee)) ∧ StepExt C C' ∧ Frame' C H2 C' (H2.put t (.tok ee)) ∧
      (∀ b, t ≠ b → C'.φ b = C.φ b ∧ C'.τ b = C.τ b) := by
  obtain ⟨i', z, u, hi', hsz, hby, hz, hue, hk, hagg, hzl, hzs, hzc, hza, hzn⟩ := hT.ok e de hde
  rw [hi] at hi'; cases hi'
  have hfirst : (Builtin.firstCells i.size xs.length (.slice ad xs.length ccap)).run P C.w.drew = .ok olds.toArray C.w.drew := by
    cases ad with
    | none =>
      have := had rfl
      have h0 : olds = [] := List.eq_nil_of_length_eq_zero (by rw [holds, this]; simp)
      rw [h0]; exact run_firstCells_none _ _ _ _ _
    | some a => exact run_firstCells_some _ _ _ a _ _ olds (by rw [holds, hsz]) (fun j u hu => by simpa using hoc a rfl j u hu)
  have hrun := run_append_grow_src C.w ts tx ty e i z hu hi hz ad xs.length ccap olds hfirst v ys.length news hs hg (by omega) (growslice_fits (by omega) (by rw [hby]; exact hb))
  generalize hgc : grownCap C.w (xs.length + ys.length) ccap e = gc at hrun
  have hgcle : xs.length + ys.length ≤ gc := by rw [← hgc]; exact grown_le _ _ _ _
  have hnl : news.length = ys.length * de.sz := by rw [hs.newsLen, hsz]
  have hcsz : ((olds ++ news).toArray ++ Builtin.zeroCells z.cells (gc - (xs.length + ys.length))).size = gc * de.sz := by
    simp only [Array.size_append, List.size_toArray, List.length_append, size_zeroCells, holds, hnl, hzs]
    rw [← Nat.add_mul, ← Nat.add_mul]; congr 1; omega
  have hcget : ∀ k, k < (xs ++ ys).length * de.sz → ((olds ++ news).toArray ++ Builtin.zeroCells z.cells (gc - (xs.length + ys.length))).getD k undef = (olds ++ news).getD k undef := fun k hk => by
    have hk' : k < (olds ++ news).length := by
      rw [List.length_append, holds, hnl, ← Nat.add_mul]; rwa [List.length_append] at hk
    rw [Array.getD_eq_getD_getElem?, Array.getElem?_append_left (by simpa using hk'), List.getD_eq_getElem?_getD]
    simp
  have ha := Allocs.drew C.w (.cells ((olds ++ news).toArray ++ Builtin.zeroCells z.cells (gc - (xs.length + ys.length))) e)
  have hlen : (xs ++ ys).length = xs.length + ys.length := List.length_append
  obtain ⟨r1, r2⟩ := newTok_ok (eo := (xs ++ ys).length * de.sz) (ce := gc * de.sz) hH hτ ha (.inl (Nat.le_refl _)) (by rw [hcsz]; exact Nat.le_refl _)
  have hfsl := newTok_fsl (ce := gc * de.sz) hH (hτ ee (Nat.le_refl _)) ha (xs ++ ys) (fun x hx => (List.mem_append.1 hx).elim (hxl x) (hyl x)) (by rw [hcsz, hlen]; exact Nat.mul_le_mul_right _ hgcle) (fun k hk => by
      rw [hcget k hk]
      have hk' : k < (olds ++ news).length := by
        rw [List.length_append, holds, hnl, ← Nat.add_mul]; rwa [List.length_append] at hk
      rw [List.getD_eq_getElem?_getD, List.getElem?_eq_getElem hk']
      rcases List.mem_append.1 (List.getElem_mem hk') with h | h
      · exact ho1 _ h
      · exact hs.one _ h) (fun i j hi hj => by
      rw [hcget _ (idx_lt hi hj)]; exact app_cells holds hor hnr i j hi hj) gc (by rw [hlen]; exact hgcle) (fun _ => Nat.le_refl _)
  refine ⟨_, C.newTok t ee (C.w.drew.alloc (.cells ((olds ++ news).toArray ++ Builtin.zeroCells z.cells (gc - (xs.length + ys.length))) e)) ((xs ++ ys).length * de.sz) (gc * de.sz), hrun, ?_, r1, newTok_ext hH (hτ ee (Nat.le_refl _)) ha, r2, fun b hb => ⟨rfl, ?_⟩⟩
  · have := VRel.asl (C := C.newTok t ee (C.w.drew.alloc (.cells ((olds ++ news).toArray ++ Builtin.zeroCells z.cells (gc - (xs.length + ys.length))) e)) ((xs ++ ys).length * de.sz) (gc * de.sz)) t ee de.sz (xs ++ ys) C.w.heap.size 0 ((xs ++ ys).length * de.sz) (gc * de.sz) gc (by simp [Ctx.newTok]) hfsl (by omega) (by rw [hlen]; exact hgcle) (by omega) (fun _ => ha.plain (Nat.le_refl _))
    rw [hlen] at this ⊢
    exact this
  · funext e'
    show (if b = t ∧ e' = ee then _ else C.τ b e') = _
    rw [if_neg (fun hh => hb hh.1.symm)]

/-- the arm that has room -/
theorem append_room (hT : TyOK P T) {C : Ctx} {H2 : Heap} (hH : HRel C H2) {ts tx e ty : TypeId} {de : TyD} (hu : P.underlying ts = some (.slice e)) (hde : T e = some de) {i : TypeInfo} (hi : P.info? e = some i)
    {t ee : Nat} (ht : H2.at t = .tok ee) {cb off eo ce ccap : Nat} {xs ys : List (List AV)} {v : Value} {news : List Value} (hτ : C.τ t ee = some (some (cb, eo, ce)))
    (hfr : FRel C.K C.w (.fsl de.sz xs) (.slice (some ⟨cb, off, none⟩) xs.length ccap)) (heo : off + xs.length * de.sz = eo) (hce : off + ccap * de.sz ≤ ce) (hpl : 1 < de.sz → Plain C.w cb) (hyl : ∀ y ∈ ys, y.length = de.sz)
    (hs : Src P i.size tx v ys.length news C.w) (hnr : ∀ i j, i < ys.length → j < de.sz → FRel C.K C.w ((ys.getD i []).getD j .junk) (news.getD (i * de.sz + j) undef)) (hn : 0 < ys.length) (hroom : xs.length + ys.length ≤ ccap) :
    ∃ v' C', (Builtin.append_ #[ts, tx] ty #[.slice (some ⟨cb, off, none⟩) xs.length ccap, v]).run P C.w = .ok v' C'.w ∧ VRel C' (.asl t (ee + ys.length) de.sz (xs ++ ys)) v' ∧ HRel C' (H2.put t (.tok (ee + ys.length))) ∧ StepExt C C' ∧
      Frame' C H2 C' (H2.put t (.tok (ee + ys.length))) ∧ (∀ b, t ≠ b → C'.φ b = C.φ b ∧ C'.τ b = C.τ b) := by
  obtain ⟨i', z, u, hi', hsz, hby, hz, hue, hk, hagg, hzl, hzs, hzc, hza, hzn⟩ := hT.ok e de hde
  rw [hi] at hi'; cases hi'
  obtain ⟨hnone, htok⟩ := hH.tok t ee ht
  obtain ⟨cb', eo', ce', hτ', hlt, hK, hslack⟩ := htok.resolve_left (by rw [hτ]; simp)
  rw [hτ] at hτ'; cases hτ'
  have hnl : news.length = ys.length * de.sz := by rw [hs.newsLen, hsz]
  have hfit : eo + ys.length * de.sz ≤ ce := by
    have : (xs.length + ys.length) * de.sz ≤ ccap * de.sz := Nat.mul_le_mul_right _ hroom
    rw [Nat.add_mul] at this; omega
  have hsome : ∀ j, j < news.length → (C.w.cell? ⟨cb, eo + j, none⟩).isSome = true := fun j hj => (hslack (eo + j) (by omega) (by omega)).1
  have hrun := run_append_room_src C.w ts tx ty e i hu hi cb off xs.length ccap v ys.length news hs hroom (fun j hj => by rw [hsz, heo]; exact hsome j hj) (fun j hj => by rw [hsz, heo]; exact (hslack (eo + j) (by omega) (by omega)).2)
  rw [hsz, heo] at hrun
  let C' : Ctx := { φ := C.φ, τ := fun b e' => if b = t ∧ e' = ee + ys.length then some (some (cb, eo + ys.length * de.sz, ce)) else C.τ b e', K := fun b => if b = cb then eo + ys.length * de.sz else C.K b, w := C.w.setCells cb eo news }
  have hKle : ∀ b, C.K b ≤ C'.K b := fun b => by
    show C.K b ≤ (if b = cb then _ else _)
    split
    · rename_i hb; subst hb; omega
    · exact Nat.le_refl _
  have hcell : ∀ b j, j < C.K b → (C.w.setCells cb eo news).cell? ⟨b, j, none⟩ = C.w.cell? ⟨b, j, none⟩ := fun b j hj =>
    World.cell?_setCells_out cb news eo C.w ⟨b, j, none⟩ (fun hb _ => by
      left
      have hb' : b = cb := hb
      subst hb'
      show j < eo
      omega)
  have hs' : StepExt C C' := by
    refine ⟨fun _ _ h => h, fun b e' x hx => ?_, hKle, ⟨kind_setCells cb news eo C.w, fun b j v hj hv => by show (C.w.setCells cb eo news).cell? _ = _; rw [hcell b j hj]; exact hv, fun r es ck _ hm => heap_setCells_map cb news eo C.w r es ck hm⟩⟩
    show (if b = t ∧ e' = ee + ys.length then _ else C.τ b e') = some x
    rw [if_neg (fun hh => by obtain ⟨rfl, rfl⟩ := hh; rw [hnone _ (by omega)] at hx; cases hx)]; exact hx
  have hτ2 : C'.τ t (ee + ys.length) = some (some (cb, eo + ys.length * de.sz, ce)) := by
    show (if t = t ∧ ee + ys.length = ee + ys.length then _ else _) = _
    rw [if_pos ⟨rfl, rfl⟩]
  have hownt : Owns C H2 t cb := .tok t ee cb eo ce ht hτ
  have hown : ∀ q, Owns C' (H2.put t (.tok (ee + ys.length))) t q → q = cb := fun q ho => by
    cases ho with
    | row sz' es' _ base hb hφ => rw [Heap.at_put_same] at hb; cases hb
    | tok e' _ eo' ce' hb hτ' => rw [Heap.at_put_same] at hb; cases hb; rw [hτ2] at hτ'; cases hτ'; rfl
    | map es _ hb hφ => rw [Heap.at_put_same] at hb; cases hb
  have hne : ∀ q c, q ≠ t → Owns C H2 q c → c ≠ cb := fun q c hq ho e => hq (hH.own _ _ _ ho (e ▸ hownt))
  have hKne : ∀ c, c ≠ cb → C'.K c = C.K c := fun c hc => if_neg hc
  have hsize : (C.w.setCells cb eo news).heap.size = C.w.heap.size := size_setCells _ _ _ _
  refine ⟨_, C', hrun, ?_, hH.change hs' t _ (fun b c hb ho => ⟨heap_setCells_ne cb news eo C.w c (hne b c hb ho), hKne c (hne b c hb ho)⟩) (by show _ ≤ (C.w.setCells cb eo news).heap.size; rw [hsize]; exact Nat.le_refl _) (fun b hb => ?_) (fun b hb => ?_) ?_ (fun q ho b hb ho' => hne b q hb ho' (hown q ho)), hs', ⟨(os_setCells cb news eo C.w).1, (os_setCells cb news eo C.w).2, by show _ ≤ (C.w.setCells cb eo news).heap.size; rw [hsize]; exact Nat.le_refl _, fun c hc hno => ?_, fun b c ho hc => ?_⟩, fun b hb => ⟨rfl, ?_⟩⟩
  · -- the value
    have hxl : ∀ x ∈ xs, x.length = de.sz := by
      cases hfr with
      | fsl0 => exact fun x hx => by cases hx
      | fsl _ _ blk off cap g hK hcp hp9 hs => exact hs
    have hcont : FRel C'.K C'.w (.fsl de.sz (xs ++ ys)) (.slice (some ⟨cb, off, none⟩) (xs ++ ys).length ccap) := by
      obtain ⟨ad, cap, cs, hv, h1, h2, h3, h4, h5⟩ := fsl_cells hfr
      cases hv
      have happ := app_cells (news := news) h1 h5 hnr
      have hlen : (xs ++ ys).length = xs.length + ys.length := List.length_append
      refine .fsl de.sz (xs ++ ys) cb off ccap (fun i j => (cs ++ news).getD (i * de.sz + j) undef) ?_ (by rw [hlen]; exact hroom) (fun h => (hpl h).mono hs'.agree.kind) (fun x hx => (List.mem_append.1 hx).elim (hxl x) (hyl x)) (fun i j hi hj => ?_) (fun i j hi hj => ?_) (fun i j hi hj => (happ i j hi hj).mono hKle hs'.agree)
      · show _ ≤ (if cb = cb then _ else _)
        rw [if_pos rfl, hlen, Nat.add_mul]; omega
      · have hk := idx_lt hi hj
        generalize i * de.sz + j = k at *
        show (C.w.setCells cb eo news).cell? _ = _
        rw [hlen, Nat.add_mul] at hk
        rcases Nat.lt_or_ge k (xs.length * de.sz) with h | h
        · rw [World.cell?_setCells_out cb news eo C.w ⟨cb, off + k, none⟩ (fun _ _ => .inl (by show off + k < eo; omega)), getD_app_left (by rw [h1]; exact h)]
          have := h3 _ rfl k (cs.getD k undef) (by rw [List.getD_eq_getElem?_getD, List.getElem?_eq_getElem (by rw [h1]; exact h)]; rfl)
          rwa [Addr.add_mid] at this
        · have hk2 : k - xs.length * de.sz < news.length := by omega
          have := World.cell?_setCells_in cb news eo C.w hsome (k - xs.length * de.sz) hk2
          rw [show eo + (k - xs.length * de.sz) = off + k by omega] at this
          rw [this, getD_app_right (by rw [h1]; exact h), h1, List.getD_eq_getElem?_getD, List.getElem?_eq_getElem hk2]; rfl
      · have hk := idx_lt hi hj
        generalize i * de.sz + j = k at *
        rw [hlen, Nat.add_mul] at hk
        have hk' : k < (cs ++ news).length := by rw [List.length_append, h1, hnl]; exact hk
        rw [List.getD_eq_getElem?_getD, List.getElem?_eq_getElem hk']
        rcases List.mem_append.1 (List.getElem_mem hk') with h | h
        · exact h4 _ h
        · exact hs.one _ h
    have hlen : (xs ++ ys).length = xs.length + ys.length := List.length_append
    have := VRel.asl (C := C') t (ee + ys.length) de.sz (xs ++ ys) cb off (eo + ys.length * de.sz) ce ccap hτ2 hcont (by rw [hlen, Nat.add_mul]; omega) (by rw [hlen]; exact hroom) hce (fun h => (hpl h).mono hs'.agree.kind)
    rw [hlen] at this
    exact this
  · show b < (C.w.setCells cb eo news).heap.size
    rw [hsize]
    by_cases hbc : b = cb
    · rw [hbc]; exact hlt
    · have hb' : C'.K b ≠ 0 := hb
      rw [hKne b hbc] at hb'; exact hH.dom b hb'
  · funext e'
    show (if b = t ∧ e' = ee + ys.length then _ else C.τ b e') = _
    rw [if_neg (fun hh => hb hh.1)]
  · refine ⟨fun e' he' => ?_, .inr ⟨cb, eo + ys.length * de.sz, ce, hτ2, by show cb < (C.w.setCells cb eo news).heap.size; rw [hsize]; exact hlt, by show (if cb = cb then _ else _) = _; rw [if_pos rfl], fun j hj hj' => ?_⟩⟩
    · show (if t = t ∧ e' = ee + ys.length then _ else C.τ t e') = none
      rw [if_neg (by omega)]; exact hnone e' (by omega)
    · have := hslack j (by omega) hj'
      exact ⟨World.isSome_setCells cb news eo C.w _ this.1, by show (C.w.setCells cb eo news).frozen? _ = _; rw [World.frozen?_setCells]; exact this.2⟩
  · exact ⟨heap_setCells_ne cb news eo C.w c (fun e => hno t (e ▸ hownt)), hKne c (fun e => hno t (e ▸ hownt))⟩
  · by_cases hbt : b = t
    · subst hbt; exact ⟨b, hown c ho ▸ hownt⟩
    · exact ⟨b, (ho.put_ne hbt).back hH hs'⟩
  · funext e'
    show (if b = t ∧ e' = ee + ys.length then _ else C.τ b e') = _
    rw [if_neg (fun hh => hb hh.1.symm)]
end Go.Av
/- append, slice literals, make, copy. -/
set_option linter.unusedVariables false
namespace Go.Av
open Go

variable {P : Program} {T : Tys}

theorem Frame'.congr {C C' : Ctx} {H H' H'' : Heap} (h : Frame' C H C' H') (e : ∀ b, H''.at b = H'.at b) : Frame' C H C' H'' :=
  ⟨h.os, h.output, h.size, h.kept, fun b cb ho hc => h.owned b cb (ho.congr e) hc⟩

theorem at_put_self {H : Heap} {t : Nat} {x : Blk} (h : H.at t = x) (b : Nat) : (H.put t x).at b = H.at b := by
  by_cases e : b = t
  · subst e; rw [Heap.at_put_same, h]
  · rw [Heap.at_put_ne H t b x e]

theorem fsl_lens {K : Nat → Nat} {w : World} {sz : Nat} {xs : List (List AV)} {v : Value} (h : FRel K w (.fsl sz xs) v) : ∀ x ∈ xs, x.length = sz := by
  cases h with
  | fsl0 => exact fun x hx => by cases hx
  | fsl _ _ blk off cap g hK hcp hp9 hs => exact hs

theorem at_lt {H : Heap} {b : Nat} (h : H.at b ≠ .dead) : b < H.length := by
  rcases Nat.lt_or_ge b H.length with h' | h'
  · exact h'
  · exact absurd (by simp [Heap.at, List.getD_eq_getElem?_getD, List.getElem?_eq_none h']) h

theorem srcOf_lt {H : Heap} {x : AV} {ys : List (List AV)} {log : List Nat} (h : srcOf H x = some (ys, log)) : ∀ b ∈ log, b < H.length := by
  unfold srcOf at h
  split at h <;> (try cases h) <;> (try (intro b hb; simp at hb; done))
  split at h
  · rename_i hb
    split at h
    · cases h
      intro c hc
      simp at hc; subst hc
      exact at_lt (by rw [hb]; simp)
    · cases h
  · cases h

/-- a token of a slice that is still nil -/
theorem newTok0 {C : Ctx} {H2 : Heap} (hH : HRel C H2) {n : Nat} (hd : H2.at n = .dead) (hf : Fresh C n) (sz : Nat) :
    ∃ C' : Ctx, C'.w = C.w ∧ VRel C' (.asl n 0 sz []) (.slice none 0 0) ∧ HRel C' (H2.put n (.tok 0)) ∧ StepExt C C' ∧ Frame' C H2 C' (H2.put n (.tok 0)) ∧ (∀ b, n ≠ b → C'.φ b = C.φ b ∧ C'.τ b = C.τ b) := by
  let C' : Ctx := { C with τ := fun b e' => if b = n ∧ e' = 0 then some none else C.τ b e' }
  have hτ : C'.τ n 0 = some none := if_pos ⟨rfl, rfl⟩
  have hs : StepExt C C' := by
    refine ⟨fun _ _ h => h, fun b e' x hx => ?_, fun _ => Nat.le_refl _, Agree.refl _ _⟩
    show (if b = n ∧ e' = 0 then _ else C.τ b e') = some x
    rw [if_neg (fun hh => by obtain ⟨rfl, rfl⟩ := hh; rw [hf.2] at hx; cases hx)]; exact hx
  have hown : ∀ q, ¬ Owns C' (H2.put n (.tok 0)) n q := fun q ho => by
    cases ho with
    | row sz' es' _ base hb hφ => rw [Heap.at_put_same] at hb; cases hb
    | tok e' _ eo' ce' hb hτ' => rw [Heap.at_put_same] at hb; cases hb; rw [hτ] at hτ'; cases hτ'
    | map es _ hb hφ => rw [Heap.at_put_same] at hb; cases hb
  refine ⟨C', rfl, .asl0 n 0 sz hτ, hH.change hs n _ (fun _ _ _ _ => ⟨rfl, rfl⟩) (Nat.le_refl _) hH.dom (fun b hb => ?_) ⟨fun e' he' => ?_, .inl hτ⟩ (fun q ho => absurd ho (hown q)), hs, ⟨rfl, rfl, Nat.le_refl _, fun _ _ _ => ⟨rfl, rfl⟩, fun b c ho _ => ?_⟩, fun b hb => ⟨rfl, ?_⟩⟩
  · funext e'
    show (if b = n ∧ e' = 0 then _ else C.τ b e') = _
    rw [if_neg (fun hh => hb hh.1)]
  · show (if n = n ∧ e' = 0 then _ else C.τ n e') = none
    rw [if_neg (by omega)]; exact hf.2 e'
  · by_cases e : b = n
    · subst e; exact absurd ho (hown c)
    · exact ⟨b, (ho.put_ne e).back hH hs⟩
  · funext e'
    show (if b = n ∧ e' = 0 then _ else C.τ b e') = _
    rw [if_neg (fun hh => hb hh.1.symm)]

theorem sem_append (hT : TyOK P T) {o : Oper} {c : Call} {ts tx : TypeId} {sx xx : Operand} {env : Env} {H : Heap} {r : ORes} {s1 s2 : Nat} (ho : o.op = .call c) (hb : c.callee = .builtin .append) (hts : c.argTypes = #[ts, tx]) (hxs : c.args = #[sx, xx])
    (h : aappend T H ts tx (env.ev s1 sx) (env.ev s2 xx) = some r) : OpSem P o env H r := by
  have hm1 : sx ∈ o.op.operands.toList := by rw [ho]; simp [Op.operands, Call.operands, hb, hxs]
  have hm2 : xx ∈ o.op.operands.toList := by rw [ho]; simp [Op.operands, Call.operands, hb, hxs]
  have run : ∀ (a : Act) {w w' : World} {v : Value}, (Builtin.append_ #[ts, tx] o.type #[a.eval sx, a.eval xx]).run P w = .ok v w' → (execOp a.eval o).run P w = .ok (.value v) w' := fun a w w' v hr =>
    exec_builtin ho hb a (s := Builtin.append_ #[ts, tx] o.type #[a.eval sx, a.eval xx]) (fun consts => by rw [hts, hxs]; simp only [List.map_toArray, List.map_cons, List.map_nil]; rfl) hr
  unfold aappend at h
  split at h
  · rename_i d hd
    obtain ⟨ti, z, u, hti, hts', htb, htz, hu, hk, hrest⟩ := hT.ok ts d hd
    split at h
    · rename_i e hdk
      rw [hdk] at hk
      cases u <;> simp only [kindOK] at hk
      subst hk
      split at h
      · rename_i de hde
        obtain ⟨te, ze, ue, hie, hse, hbe, _⟩ := hT.ok _ de hde
        split at h
        · rename_i hsk
          split at h
          · rename_i ys0 log hsrc
            split at h
            · rename_i ys hys
              split at h
              · -- a token
                rename_i t ee sz xs hsx
                split at h
                · rename_i e' hHt
                  split at h
                  · rename_i hsz
                    cases h
                    subst hsz
                    intro C a H2 henv hH hlog hwr hpre
                    obtain ⟨rfl, hyl, hbd0⟩ := hpre _ rfl
                    have hbd : (xs.length + ys.length) * de.bytes ≤ 140737488355328 := Nat.le_trans (Nat.mul_le_mul_left _ (by omega)) hbd0
                    have h63 : xs.length + ys.length ≤ 9223372036854775807 := by
                      have : (xs.length + ys.length) * 1 ≤ (xs.length + ys.length) * (de.bytes + 1) := Nat.mul_le_mul_left _ (by omega)
                      omega
                    have ht2 : H2.at t = .tok e' := by rw [hlog t (by simp), hHt]
                    obtain ⟨news, hs, hnr, _⟩ := src_rel hT hH hse (ev_rel henv s2 xx hm2) hsk hsrc (fun b hb => hlog b (by simp [hb])) hys hyl
                    have hr := hsx ▸ ev_rel henv s1 sx hm1
                    have hnone := (hH.tok t e' ht2).1
                    have same : ys.length = 0 → ∃ (v' : Value) (C' : Ctx), RunsTo P a o C.w v' C'.w ∧ VRel C' (.asl t (e' + ys.length) de.sz (xs ++ ys)) v' ∧ HRel C' (H2.puts [(t, .tok (e' + ys.length))]) ∧ StepExt C C' ∧
                        Frame' C H2 C' (H2.puts [(t, .tok (e' + ys.length))]) ∧ (∀ b, (∀ p ∈ [(t, Blk.tok (e' + ys.length))], p.1 ≠ b) → C'.φ b = C.φ b ∧ C'.τ b = C.τ b) := by
                      intro h0
                      have hy0 : ys = [] := List.eq_nil_of_length_eq_zero h0
                      subst hy0
                      have hn0 : news = [] := List.eq_nil_of_length_eq_zero (by rw [hs.newsLen]; simp)
                      subst hn0
                      simp only [List.length_nil, Nat.add_zero, List.append_nil]
                      have key : ∃ ad l cap, a.eval sx = .slice ad l cap ∧ l ≤ cap := by
                        rcases hr.asl_inv with ⟨e1, _, _⟩ | ⟨cb, off, eo, ce, ccap, _, e1, _, _, hc, _⟩
                        · exact ⟨none, 0, 0, e1, Nat.le_refl _⟩
                        · exact ⟨_, _, ccap, e1, hc⟩
                      obtain ⟨ad, l, cap, e1, hlc⟩ := key
                      refine ⟨a.eval sx, C, .inl (run a ?_), hr, hH.congr (fun b => at_put_self ht2 b), .refl C, (Frame'.refl C H2).congr (fun b => at_put_self ht2 b), fun _ _ => ⟨rfl, rfl⟩⟩
                      rw [e1]; exact run_append_nothing C.w ts tx o.type _ te hu hie ad l cap hlc _ hs
                    by_cases h0 : ys.length = 0
                    · exact same h0
                    · rcases hr.asl_inv with ⟨e1, hxs0, hτ⟩ | ⟨cb, off, eo, ce, ccap, hτ, e1, hfr, heo, hcc, hce, hpl⟩
                      · subst hxs0
                        obtain ⟨v', C', q1, q2, q3, q4, q5, q6⟩ := append_grows (ty := o.type) (ad := none) (ccap := 0) (xs := []) (olds := []) (t := t) (ee := e' + ys.length) hT hH hu hde hie (fun q hq => hnone q (by omega)) (fun _ => rfl) (by simp) (fun a ha => by cases ha) (fun v hv => by cases hv)
                          (fun i j hi => by simp at hi) (fun x hx => by cases hx) hyl hs hnr (by show 0 < 0 + ys.length; omega) (by simpa using hbd) (by simpa using h63)
                        exact ⟨v', C', .inl (run a (by rw [e1]; exact q1)), q2, q3, q4, q5, fun b hb => q6 b (hb _ (List.mem_singleton.2 rfl))⟩
                      · by_cases hroom : xs.length + ys.length ≤ ccap
                        · rw [e1] at hfr
                          obtain ⟨v', C', q1, q2, q3, q4, q5, q6⟩ := append_room (ty := o.type) hT hH hu hde hie ht2 hτ hfr heo hce hpl hyl hs hnr (by omega) hroom
                          exact ⟨v', C', .inl (run a (by rw [e1]; exact q1)), q2, q3, q4, q5, fun b hb => q6 b (hb _ (List.mem_singleton.2 rfl))⟩
                        · obtain ⟨ad, cap, cs, hv, c1, c2, c3, c4, c5⟩ := fsl_cells hfr
                          rw [e1] at hv; cases hv
                          obtain ⟨v', C', q1, q2, q3, q4, q5, q6⟩ := append_grows (ty := o.type) (t := t) (ee := e' + ys.length) (ccap := ccap) hT hH hu hde hie (fun q hq => hnone q (by omega)) c2 c1 c3 c4 c5 (fsl_lens hfr) hyl hs hnr (by omega) hbd h63
                          exact ⟨v', C', .inl (run a (by rw [e1]; exact q1)), q2, q3, q4, q5, fun b hb => q6 b (hb _ (List.mem_singleton.2 rfl))⟩
                  · cases h
                · cases h
              · -- nothing yet
                rename_i sz hsx
                split at h
                · rename_i hsz
                  cases h
                  subst hsz
                  intro C a H2 henv hH hlog hwr hpre
                  obtain ⟨hyl, hbd0⟩ := hpre _ rfl
                  have hbd : (([] : List (List AV)).length + ys.length) * de.bytes ≤ 140737488355328 := by
                    simp only [List.length_nil, Nat.zero_add]
                    exact Nat.le_trans (Nat.mul_le_mul_left _ (by omega)) hbd0
                  have h63 : ([] : List (List AV)).length + ys.length ≤ 9223372036854775807 := by
                    have : ys.length * 1 ≤ ys.length * (de.bytes + 1) := Nat.mul_le_mul_left _ (by omega)
                    simp only [List.length_nil]
                    omega
                  have hfr : H2.at H.length = .dead ∧ Fresh C H.length := by
                    refine (hwr (H.length, .tok ys.length) (by simp)).resolve_left (fun hin => ?_)
                    have := srcOf_lt hsrc _ hin
                    omega
                  obtain ⟨news, hs, hnr, _⟩ := src_rel hT hH hse (ev_rel henv s2 xx hm2) hsk hsrc hlog hys hyl
                  have e1 := (hsx ▸ ev_rel henv s1 sx hm1 : VRel C (.nsl de.sz) (a.eval sx)).nsl_inv
                  by_cases h0 : ys.length = 0
                  · have hy0 : ys = [] := List.eq_nil_of_length_eq_zero h0
                    subst hy0
                    have hn0 : news = [] := List.eq_nil_of_length_eq_zero (by rw [hs.newsLen]; simp)
                    subst hn0
                    obtain ⟨C', q0, q2, q3, q4, q5, q6⟩ := newTok0 hH hfr.1 hfr.2 de.sz
                    refine ⟨.slice none 0 0, C', .inl (run a ?_), q2, q3, q4, q5, fun b hb => q6 b (hb _ (List.mem_singleton.2 rfl))⟩
                    rw [e1, q0]; exact run_append_nothing C.w ts tx o.type _ te hu hie none 0 0 (Nat.le_refl _) _ hs
                  · obtain ⟨v', C', q1, q2, q3, q4, q5, q6⟩ := append_grows (ty := o.type) (ad := none) (ccap := 0) (xs := []) (olds := []) (t := H.length) (ee := ys.length) hT hH hu hde hie (fun q hq => hfr.2.2 q) (fun _ => rfl) (by simp) (fun a ha => by cases ha) (fun v hv => by cases hv)
                          (fun i j hi => by simp at hi) (fun x hx => by cases hx) hyl hs hnr (by show 0 < 0 + ys.length; omega) hbd h63
                    exact ⟨v', C', .inl (run a (by rw [e1]; exact q1)), q2, q3, q4, q5, fun b hb => q6 b (hb _ (List.mem_singleton.2 rfl))⟩
                · cases h
              · cases h
            · cases h
          · cases h
        · cases h
      · cases h
    · cases h
  · cases h
end Go.Av
/- Slice literals, make, copy. -/
set_option linter.unusedVariables false
namespace Go.Av
open Go

variable {P : Program} {T : Tys}

/-- elements, and their cells in an array -/
structure RowsRel (C : Ctx) (sz : Nat) (es : List (List AV)) (a : Array Value) : Prop where
  size : a.size = es.length * sz
  len : ∀ x ∈ es, x.length = sz
  one : ∀ k, k < es.length * sz → (a.getD k undef).oneCell' = true
  rel : ∀ i j, i < es.length → j < sz → VRel C ((es.getD i []).getD j .junk) (a.getD (i * sz + j) undef)

theorem elems_fill {C : Ctx} {sz n : Nat} : ∀ (ps : List (Nat × AV)) (vs : List (Nat × Value)) (es es' : List (List AV)) (a : Array Value), aelems sz n es ps = some es' → es.length = n → RowsRel C sz es a →
    ps.length = vs.length → (∀ k, k < ps.length → (ps.getD k (0, .junk)).1 = (vs.getD k (0, undef)).1 ∧ VRel C (ps.getD k (0, .junk)).2 (vs.getD k (0, undef)).2) →
    ∃ a', Instr.fill (fun i => some (i * sz, sz)) a vs = some a' ∧ RowsRel C sz es' a' ∧ es'.length = n
  | [], [], es, es', a, h, hn, hr, _, _ => by simp [aelems] at h; subst h; exact ⟨a, rfl, hr, hn⟩
  | (i, x) :: ps, (i', v) :: vs, es, es', a, h, hn, hr, hl, hp => by
    have h0 := hp 0 (by simp)
    simp at h0
    obtain ⟨rfl, hv⟩ := h0
    simp only [aelems] at h
    split at h
    · rename_i hc
      simp only [Bool.and_eq_true, beq_iff_eq, decide_eq_true_eq] at hc
      obtain ⟨c1, c2⟩ := hv.cells hc.1.1
      have hi : i < es.length := by omega
      have hin : (i + 1) * sz ≤ es.length * sz := Nat.mul_le_mul_right _ hi
      rw [Nat.add_mul, Nat.one_mul] at hin
      have hoff : i * sz + v.cells.size ≤ a.size := by rw [c1, hc.1.2, hr.size]; exact hin
      obtain ⟨f1, f2⟩ := foldl_set_spec v.cells.toList 0 (i * sz) a (by simpa using hoff)
      have hfold : v.cells.zipIdx.foldl (fun cs (p : Value × Nat) => cs.setIfInBounds (i * sz + p.2) p.1) a = (v.cells.toList.zipIdx 0).foldl (fun cs (p : Value × Nat) => cs.setIfInBounds (i * sz + p.2) p.1) a := by
        rw [← Array.foldl_toList]; simp
      have getL : ∀ k, v.cells.toList.getD k undef = v.cells.getD k undef := fun k => by simp [List.getD_eq_getElem?_getD, Array.getD_eq_getD_getElem?]
      have hlen : v.cells.toList.length = sz := by simp [c1, hc.1.2]
      have hrel : RowsRel C sz (es.set i x.cells) (v.cells.zipIdx.foldl (fun cs (p : Value × Nat) => cs.setIfInBounds (i * sz + p.2) p.1) a) := by
        rw [hfold]
        refine ⟨by rw [f1, hr.size]; simp, fun y hy => ?_, fun k hk => ?_, fun i' j' hi' hj' => ?_⟩
        · rcases List.mem_or_eq_of_mem_set hy with hy | rfl
          · exact hr.len y hy
          · exact hc.1.2
        · rw [f2 k]
          simp only [Nat.add_zero, hlen]
          split
          · rename_i hin
            rw [getL]; exact (c2 _ (by omega)).1
          · exact hr.one k (by simpa using hk)
        · rw [List.length_set] at hi'
          have hrow : (es.set i x.cells).getD i' [] = if i' = i then x.cells else es.getD i' [] := by
            simp only [List.getD_eq_getElem?_getD, List.getElem?_set]
            by_cases hii : i' = i
            · subst hii; simp [hi']
            · rw [if_neg (fun e => hii e.symm), if_neg hii]
          rw [hrow, f2 (i' * sz + j')]
          simp only [Nat.add_zero, hlen]
          by_cases hii : i' = i
          · subst hii
            rw [if_pos rfl, if_pos (by omega), show i' * sz + j' - i' * sz = j' by omega, getL]
            exact (c2 j' (by omega)).2
          · have : ¬ (i * sz ≤ i' * sz + j' ∧ i' * sz + j' < i * sz + sz) := by
              rcases Nat.lt_or_gt_of_ne hii with hlt | hgt
              · have : (i' + 1) * sz ≤ i * sz := Nat.mul_le_mul_right _ hlt
                rw [Nat.add_mul] at this; omega
              · have : (i + 1) * sz ≤ i' * sz := Nat.mul_le_mul_right _ hgt
                rw [Nat.add_mul] at this; omega
            rw [if_neg hii, if_neg this]
            exact hr.rel i' j' hi' hj'
      obtain ⟨a', ha', hr', hn'⟩ := elems_fill ps vs _ es' _ h (by simpa using hn) hrel (by simpa using hl) (fun k hk => by have := hp (k + 1) (by simpa using hk); simpa using this)
      refine ⟨a', ?_, hr', hn'⟩
      simp only [Instr.fill]
      rw [if_neg (by simp; exact ⟨by omega, by omega⟩)]
      exact ha'
    · cases h
  | [], _ :: _, _, _, _, _, _, _, hl, _ => by simp at hl
  | _ :: _, [], _, _, _, _, _, _, hl, _ => by simp at hl

/-- n zeros, one behind the other -/
theorem zeros_rel (hT : TyOK P T) {t : TypeId} {d : TyD} (hd : T t = some d) (n : Nat) (C : Ctx) : ∃ z : Value, (∀ w, (zeroValue t).run P w = .ok z w) ∧ z.cells.size = d.sz ∧
    (∀ c : Array Value, c = (Array.range (n * d.sz)).map (z.cells[· % z.cells.size]!) → RowsRel C d.sz (List.replicate n d.zero) c) := by
  obtain ⟨i, zv, u, hi, hs, hby, hzv, hu, hk, hagg, hzl, hzs, hzc, hza, hzn⟩ := hT.ok t d hd
  refine ⟨zv, fun w => by simp [zeroValue, typeInfo, hi, hzv], hzs, fun c hc => ?_⟩
  have hget : ∀ k, k < n * d.sz → c.getD k undef = zv.cells.getD (k % d.sz) undef := fun k hk => by
    obtain ⟨h1, h2, _⟩ := idx_split hk
    have h3 : k % d.sz < zv.cells.size := by omega
    rw [hc, hzs]
    simp [Array.getD, hk, hzs, h2]
  refine ⟨by rw [hc]; simp, fun x hx => by rw [(List.mem_replicate.1 hx).2]; exact hzl, fun k hk => ?_, fun i j hi hj => ?_⟩
  · rw [List.length_replicate] at hk
    rw [hget k hk]; exact (hzc _ (idx_split hk).2.1).1
  · rw [List.length_replicate] at hi
    rw [hget _ (idx_lt hi hj), (idx_join hj).2]
    have : (List.replicate n d.zero).getD i [] = d.zero := by simp [List.getD_eq_getElem?_getD, hi]
    rw [this]
    obtain ⟨_, s, e⟩ := hzc j hj
    rw [e]; exact .fro _ _ (constAV_rel _ _ _ _)

/-- a token on a new block that is frozen up to its end -/
theorem newTok_op {o : Oper} {env : Env} {H : Heap} {n sz : Nat} {xs : List (List AV)} {pre : Option Prop}
    (h : ∀ (C : Ctx) (a : Act) (H2 : Heap), EnvOK C env a o.op.operands.toList → HRel C H2 → (∀ p, pre = some p → p) → ∃ (w' : World) (c : Array Value) (ty : TypeId) (fr : Nat × Nat) (cap : Nat),
      RunsTo P a o C.w (.slice (some ⟨C.w.heap.size, 0, none⟩) xs.length cap) w' ∧ Allocs C.w w' (.cells c ty fr) ∧ (fr.2 ≤ fr.1 ∨ (c.size ≤ fr.1 ∧ sz ≤ 1)) ∧ (∀ x ∈ xs, x.length = sz) ∧ xs.length ≤ cap ∧ cap * sz ≤ c.size ∧ (∀ k, k < xs.length * sz → (c.getD k undef).oneCell' = true) ∧
      (∀ i j, i < xs.length → j < sz → FRel C.K C.w ((xs.getD i []).getD j .junk) (c.getD (i * sz + j) undef))) : OpSem P o env H ⟨pre, .asl n xs.length sz xs, [(n, .tok xs.length)], []⟩ := by
  intro C a H2 henv hH hlog hwr hpre
  obtain ⟨hd, hf⟩ := (hwr (n, .tok xs.length) (by simp)).resolve_left (by simp)
  obtain ⟨w', c, ty, fr, cap, hrun, ha, hfr, hxs, hcap, hsz, h1, hr⟩ := h C a H2 henv hH hpre
  have hle : xs.length * sz ≤ c.size := Nat.le_trans (Nat.mul_le_mul_right _ hcap) hsz
  obtain ⟨k1, k2⟩ := newTok_ok (e := xs.length) (eo := xs.length * sz) (ce := cap * sz) hH (fun e' _ => hf.2 e') ha (hfr.imp id And.left) hsz
  have hx := newTok_fsl (e := xs.length) (ce := cap * sz) hH (hf.2 _) ha xs hxs hle h1 hr cap hcap (fun h9 => hfr.resolve_right fun h8 => by omega)
  refine ⟨_, C.newTok n xs.length w' (xs.length * sz) (cap * sz), hrun, .asl n xs.length sz xs C.w.heap.size 0 (xs.length * sz) (cap * sz) cap (by simp [Ctx.newTok]) hx (by omega) hcap (by omega) (fun h9 => ha.plain (hfr.resolve_right fun h8 => by omega)), k1, newTok_ext hH (hf.2 _) ha, k2, fun b hb => ⟨rfl, ?_⟩⟩
  have hb' : n ≠ b := hb (n, .tok xs.length) (by simp)
  funext e'
  show (if b = n ∧ e' = xs.length then _ else C.τ b e') = _
  rw [if_neg (fun hh => hb' hh.1.symm)]

theorem sem_buildSlice (hT : TyOK P T) {o : Oper} {t e : TypeId} {len : Nat} {parts : Array (Nat × Operand)} {d de : TyD} {env : Env} {H : Heap} {es xs : List (List AV)} {s : Nat} (n : Nat) (ho : o.op = .buildSlice t len parts) (hd : T t = some d)
    (hk : d.kind = .slice e) (hde : T e = some de) (he : aelems de.sz len (List.replicate len de.zero) (parts.toList.map fun p => (p.1, env.ev s p.2)) = some es) (hx : frzLL es = some xs) (hb : len * de.sz ≤ 16777216) :
    OpSem P o env H ⟨none, .asl n len de.sz xs, [(n, .tok len)], []⟩ := by
  have hex : ∀ a : Act, execOp a.eval o = (do pure (.value (← Instr.buildSlice t len (parts.map fun (i, x) => (i, a.eval x))))) := fun a => by unfold execOp; rw [ho]
  obtain ⟨ti, z, u, hti, hts', htb, htz, hu, hkk, hrest⟩ := hT.ok t d hd
  obtain ⟨te, ze, ue, hie, hse, _⟩ := hT.ok e de hde
  rw [hk] at hkk
  cases u <;> simp only [kindOK] at hkk
  subst hkk
  obtain ⟨f1, f2⟩ := frzLL_spec hx
  have main : es.length = len → OpSem P o env H ⟨none, .asl n xs.length de.sz xs, [(n, .tok xs.length)], []⟩ := fun hlen => by
    refine newTok_op fun C a H2 henv hH _ => ?_
    obtain ⟨zv, hzr, hzs, hzrel⟩ := zeros_rel hT hde len C
    obtain ⟨c, hc, hr, hn⟩ := elems_fill (C := C) (parts.toList.map fun p => (p.1, env.ev s p.2)) (parts.toList.map fun p => (p.1, a.eval p.2)) _ es _ he (by simp) (hzrel _ rfl) (by simp) (fun k hk => by
      have hk' : k < parts.size := by simpa using hk
      have hmem : parts[k].2 ∈ o.op.operands.toList := by
        rw [ho]
        show parts[k].2 ∈ parts.toList.map (·.2)
        exact List.mem_map.2 ⟨parts[k], by simp, rfl⟩
      have := ev_rel henv s parts[k].2 hmem
      simpa [List.getD_eq_getElem?_getD, hk'] using this)
    have hrun : (Instr.buildSlice t len (parts.map fun (i, x) => (i, a.eval x))).run P C.w = .ok (.slice (some ⟨C.w.heap.size, 0, none⟩) len len) (C.w.alloc (.cells c e)) := by
      have hparts : (parts.map fun (p : Nat × Operand) => (p.1, a.eval p.2)).toList = parts.toList.map fun p => (p.1, a.eval p.2) := by simp
      simp only [Instr.buildSlice, Sem.run_bind, run_underlying hu, Result.andThen_ok, run_sizeOf_of hie, hse]
      rw [if_neg (by omega)]
      by_cases h0 : len * de.sz = 0
      · rw [if_pos h0]
        have harr : ((Array.range (len * de.sz)).map ((#[] : Array Value)[· % (#[] : Array Value).size]!)) = (Array.range (len * de.sz)).map (zv.cells[· % zv.cells.size]!) := by
          rw [h0]; simp
        simp only [Sem.run_bind, Sem.run_pure, Result.andThen_ok, harr, hparts, hc]
        rfl
      · rw [if_neg h0]
        simp only [Sem.run_bind, Sem.run_pure, Result.andThen_ok, hzr, hparts, hc]
        rfl
    have hxl : xs.length = len := by rw [f1, hlen]
    have hfrl : ∀ i, i < es.length → (xs.getD i []).length = (es.getD i []).length := fun i hi => frzL_length (f2 i hi)
    refine ⟨C.w.alloc (.cells c e), c, e, (0, 0), len, .inl ?_, .alloc _ _, .inl (Nat.le_refl _), fun x hx => ?_, by omega, by rw [hr.size, hlen]; exact Nat.le_refl _, fun k hk => hr.one k (by rw [hlen]; rwa [hxl] at hk), fun i j hi hj => ?_⟩
    · rw [hex, Sem.run_bind, hrun, hxl]; rfl
    · obtain ⟨k, hk, rfl⟩ := List.getElem_of_mem hx
      have h1 := hfrl k (by omega)
      rw [List.getD_eq_getElem?_getD, List.getElem?_eq_getElem hk, List.getD_eq_getElem?_getD, List.getElem?_eq_getElem (by omega)] at h1
      rw [show (some xs[k]).getD [] = xs[k] from rfl] at h1
      rw [h1]; exact hr.len _ (List.getElem_mem _)
    · have hi' : i < es.length := by omega
      have hlen2 : (es.getD i []).length = de.sz := by
        rw [List.getD_eq_getElem?_getD, List.getElem?_eq_getElem hi']; exact hr.len _ (List.getElem_mem _)
      exact (hr.rel i j hi' hj).frz (frzL_get (f2 i hi') j (by omega))
  have key : ∀ (ps : List (Nat × AV)) (a b : List (List AV)), aelems de.sz len a ps = some b → b.length = a.length := by
    intro ps
    induction ps with
    | nil => intro a b h; simp [aelems] at h; rw [h]
    | cons p ps ih =>
      intro a b h
      obtain ⟨i, v⟩ := p
      simp only [aelems] at h
      split at h
      · have := ih _ _ h; rw [this]; simp
      · cases h
  have hlen : es.length = len := by rw [key _ _ _ he]; simp
  have := main hlen
  rwa [f1, hlen] at this
end Go.Av
/- make, copy, conversions. -/
set_option linter.unusedVariables false
namespace Go.Av
open Go

variable {P : Program} {T : Tys}

theorem wrap64_in' {m : Int} (h0 : 0 ≤ m) (h1 : m ≤ 9223372036854775807) : IntKind.i64.wrap m = m := by
  have hb : IntKind.i64.bits = 64 := rfl
  have hs : IntKind.i64.signed = true := rfl
  simp only [IntKind.wrap, hb, hs, Bool.true_and]
  have : m % (2 ^ 64 : Int) = m := Int.emod_eq_of_lt h0 (by omega)
  rw [this, if_neg]
  simp; omega

theorem run_makeSlice {t e : TypeId} {te : TypeInfo} (hu : P.underlying t = some (.slice e)) (hie : P.info? e = some te) {k k' : IntKind} {n m : Int} (hn0 : 0 ≤ n) (hnm : n ≤ m) (hm : m ≤ 9223372036854775807) (hb : m * te.bytes ≤ 140737488355328) (w : World) (z : Value)
    (hz : ∀ w, (zeroValue e).run P w = .ok z w) : (Instr.makeSlice t (.int k n) (.int k' m)).run P w = .ok (.slice (some ⟨w.heap.size, 0, none⟩) n.toNat m.toNat)
      (w.alloc (.cells ((Array.range (m.toNat * te.size)).map (z.cells[· % z.cells.size]!)) e)) := by
  have w1 : IntKind.i64.wrap n = n := wrap64_in' hn0 (by omega)
  have w2 : IntKind.i64.wrap m = m := wrap64_in' (by omega) hm
  have hti : (typeInfo e).run P w = .ok te w := by simp [typeInfo, hie]
  have hbig : (te.bytes : Int) * m ≤ 281474976710656 := by
    rw [Int.mul_comm]; omega
  have hroom : (askRoom (m.toNat * te.bytes)).run P w = .ok () w := by
    unfold askRoom
    split
    · rfl
    · rfl
  simp only [Instr.makeSlice, asInt, asIntOf, Sem.run_bind, Sem.run_pure, Result.andThen_ok, run_underlying hu, hti, w1, w2]
  rw [if_neg (by
    have h1 : ¬ (m < 0) := by omega
    have h2 : ¬ (n < 0) := by omega
    have h3 : ¬ (n > m) := by omega
    simp [h1, h2, h3]
    exact hbig)]
  simp only [Sem.run_bind, hroom, Result.andThen_ok, run_sizeOf_of hie]
  by_cases h0 : m.toNat * te.size = 0
  · rw [if_pos h0]
    have harr : ((Array.range (m.toNat * te.size)).map ((#[] : Array Value)[· % (#[] : Array Value).size]!)) = (Array.range (m.toNat * te.size)).map (z.cells[· % z.cells.size]!) := by
      rw [h0]; simp
    simp only [Sem.run_bind, Sem.run_pure, Result.andThen_ok, harr]
    rfl
  · rw [if_neg h0]
    simp only [Sem.run_bind, Sem.run_pure, Result.andThen_ok, hz]
    rfl

theorem sem_makeSlice_tok (hT : TyOK P T) {o : Oper} {t e : TypeId} {l c : Operand} {d de : TyD} {env : Env} {H : Heap} {k k' : IntKind} {n m : Int} (nb : Nat) (ho : o.op = .makeSlice t l c) (hd : T t = some d) (hk : d.kind = .slice e) (hde : T e = some de)
    (hl : env.ev 0 l = .int k n) (hc : env.ev 0 c = .int k' m) :
    OpSem P o env H ⟨some (n = 0 ∧ 0 ≤ m ∧ m ≤ 9223372036854775807 ∧ m * de.bytes ≤ 140737488355328), .asl nb 0 de.sz [], [(nb, .tok 0)], []⟩ := by
  have hex : ∀ a : Act, execOp a.eval o = (do pure (.value (← Instr.makeSlice t (a.eval l) (a.eval c)))) := fun a => by unfold execOp; rw [ho]
  have hm1 : l ∈ o.op.operands.toList := by rw [ho]; simp [Op.operands]
  have hm2 : c ∈ o.op.operands.toList := by rw [ho]; simp [Op.operands]
  obtain ⟨ti, z, u, hti, hts', htb, htz, hu, hkk, hrest⟩ := hT.ok t d hd
  obtain ⟨te, ze, ue, hie, hse, hbe, hze, hue, hke, hagge, hzle, hzse, hzce, hzae, hzne⟩ := hT.ok e de hde
  rw [hk] at hkk
  cases u <;> simp only [kindOK] at hkk
  subst hkk
  refine newTok_op (xs := []) fun C a H2 henv hH hpre => ?_
  obtain ⟨rfl, h0, h1, h2⟩ := hpre _ rfl
  have e1 := (hl ▸ ev_rel henv 0 l hm1).int_inv
  have e2 := (hc ▸ ev_rel henv 0 c hm2).int_inv
  have hz : ∀ w, (zeroValue e).run P w = .ok ze w := fun w => by simp [zeroValue, typeInfo, hie, hze]
  refine ⟨C.w.alloc (.cells ((Array.range (m.toNat * te.size)).map (ze.cells[· % ze.cells.size]!)) e), (Array.range (m.toNat * te.size)).map (ze.cells[· % ze.cells.size]!), e, (0, 0), m.toNat, .inl ?_, .alloc _ _, .inl (Nat.le_refl _), fun x hx => (by cases hx), Nat.zero_le _, ?_, fun k hk => by simp at hk, fun i j hi => by simp at hi⟩
  · rw [hex, e1, e2, Sem.run_bind, run_makeSlice hu hie (Int.le_refl _) h0 h1 (by rw [hbe]; exact h2) C.w ze hz]; rfl
  · simp [hse]

theorem sem_makeSlice_row (hT : TyOK P T) {o : Oper} {t e : TypeId} {l c : Operand} {d de : TyD} {env : Env} {H : Heap} {k k' : IntKind} {n m : Int} (nb : Nat) (ho : o.op = .makeSlice t l c) (hd : T t = some d) (hk : d.kind = .slice e) (hde : T e = some de)
    (hl : env.ev 0 l = .int k n) (hc : env.ev 0 c = .int k' m) :
    OpSem P o env H ⟨some (n = m ∧ 0 ≤ m ∧ m ≤ 9223372036854775807 ∧ m * de.bytes ≤ 140737488355328), .row nb 0 m.toNat (some m.toNat) de.sz, [(nb, .row de.sz (List.replicate m.toNat de.zero))], []⟩ := by
  have hex : ∀ a : Act, execOp a.eval o = (do pure (.value (← Instr.makeSlice t (a.eval l) (a.eval c)))) := fun a => by unfold execOp; rw [ho]
  have hm1 : l ∈ o.op.operands.toList := by rw [ho]; simp [Op.operands]
  have hm2 : c ∈ o.op.operands.toList := by rw [ho]; simp [Op.operands]
  obtain ⟨ti, z, u, hti, hts', htb, htz, hu, hkk, hrest⟩ := hT.ok t d hd
  obtain ⟨te, ze, ue, hie, hse, hbe, hze, hue, hke, hagge, hzle, hzse, hzce, hzae, hzne⟩ := hT.ok e de hde
  rw [hk] at hkk
  cases u <;> simp only [kindOK] at hkk
  subst hkk
  refine newRow_op (fun x hx => by rw [(List.mem_replicate.1 hx).2]; exact hzle) fun C a H2 henv hH hpre => ?_
  obtain ⟨rfl, h0, h1, h2⟩ := hpre _ rfl
  have e1 := (hl ▸ ev_rel henv 0 l hm1).int_inv
  have e2 := (hc ▸ ev_rel henv 0 c hm2).int_inv
  obtain ⟨z', hz, hzs, hzr⟩ := zeros_rel hT hde n.toNat C
  have hr := hzr _ rfl
  refine ⟨.slice (some ⟨C.w.heap.size, 0, none⟩) n.toNat n.toNat, C.w.alloc (.cells ((Array.range (n.toNat * de.sz)).map (z'.cells[· % z'.cells.size]!)) e), (Array.range (n.toNat * de.sz)).map (z'.cells[· % z'.cells.size]!), e, .inl ?_, .alloc _ _, ?_, hr.one, hr.rel, ?_⟩
  · rw [hex, e1, e2, Sem.run_bind, run_makeSlice hu hie h0 (Int.le_refl _) h1 (by rw [hbe]; exact h2) C.w z' hz, hse]; rfl
  · rw [hr.size]; exact Nat.le_refl _
  · have := VRel.row (C := C.newRow nb de.sz (C.w.alloc (.cells ((Array.range (n.toNat * de.sz)).map (z'.cells[· % z'.cells.size]!)) e))) nb 0 n.toNat de.sz C.w.heap.size 0 n.toNat (some n.toNat) (by simp [Ctx.newRow]) (Nat.le_refl _) (fun c hc => by cases hc; rfl) ⟨by show _ < (C.w.alloc _).heap.size; rw [heap_alloc_size]; omega, _, _, (Allocs.alloc C.w (.cells ((Array.range (n.toNat * de.sz)).map (z'.cells[· % z'.cells.size]!)) e)).shape, by rw [hr.size]; simp⟩
    simpa using this

theorem sem_convInt (hT : TyOK P T) {o : Oper} {src dst : TypeId} {x : Operand} {ds dd : TyD} {env : Env} {H : Heap} {r : ORes} {k k' : IntKind} {n : Int} (ho : o.op = .convert src dst x) (hs : T src = some ds) (hd : T dst = some dd) (hk : dd.kind = .int k)
    (hx : env.ev 0 x = .int k' n) (h : vOk (.int k (k.wrap n)) = some r) : OpSem P o env H r := by
  have hex : ∀ a : Act, execOp a.eval o = (do pure (.value (← convert src dst (a.eval x)))) := fun a => by unfold execOp; rw [ho]
  have hm : x ∈ o.op.operands.toList := by rw [ho]; simp [Op.operands]
  obtain ⟨ti, z, u, hti, hts', htb, htz, hu, hkk, hrest⟩ := hT.ok dst dd hd
  obtain ⟨ti2, z2, u2, hti2, _, _, _, hu2, _⟩ := hT.ok src ds hs
  rw [hk] at hkk
  cases u <;> simp only [kindOK] at hkk
  subst hkk
  refine vOk_pure h fun C a H2 henv hH => ⟨.int k (k.wrap n), ?_, .fro _ _ (.int _ _)⟩
  have e := (hx ▸ ev_rel henv 0 x hm).int_inv
  rw [hex, e]
  simp only [convert, Sem.run_bind, run_underlying hu, run_underlying hu2, Result.andThen_ok, Conv.intToInt, Sem.run_pure]

theorem sem_convStr (hT : TyOK P T) {o : Oper} {src dst : TypeId} {x : Operand} {ds dd : TyD} {env : Env} {H : Heap} {r : ORes} {l : List UInt8} (ho : o.op = .convert src dst x) (hs : T src = some ds) (hd : T dst = some dd) (hk : dd.kind = .str)
    (hx : env.ev 0 x = .str l) (h : vOk (.str l) = some r) : OpSem P o env H r := by
  have hex : ∀ a : Act, execOp a.eval o = (do pure (.value (← convert src dst (a.eval x)))) := fun a => by unfold execOp; rw [ho]
  have hm : x ∈ o.op.operands.toList := by rw [ho]; simp [Op.operands]
  obtain ⟨ti, z, u, hti, hts', htb, htz, hu, hkk, hrest⟩ := hT.ok dst dd hd
  obtain ⟨ti2, z2, u2, hti2, _, _, _, hu2, _⟩ := hT.ok src ds hs
  rw [hk] at hkk
  cases u <;> simp only [kindOK] at hkk
  refine vOk_pure h fun C a H2 henv hH => ?_
  obtain ⟨s, e, hs⟩ := (hx ▸ ev_rel henv 0 x hm).str_inv
  refine ⟨.string s, ?_, .fro _ _ (.str _ _ hs)⟩
  rw [hex, e]
  simp only [convert, Sem.run_bind, run_underlying hu, run_underlying hu2, Result.andThen_ok]
  cases u2 <;> rfl

theorem frozen_freeze_end (w : World) (c : Array Value) (ty : TypeId) (k : Nat) : ((w.alloc (.cells c ty)).freeze ⟨w.heap.size, k, none⟩ 1).heap = w.heap.push (.cells c ty (k, k + 1)) := by
  unfold World.freeze
  rw [if_neg (by omega)]
  dsimp only [World.alloc]
  apply Array.ext
  · simp
  · intro i h1 h2
    simp only [Array.getElem_modify]
    by_cases e : w.heap.size = i
    · subst e; simp
    · rw [if_neg e]
      have : i < w.heap.size := by simp at h1; omega
      rw [Array.getElem_push_lt this, Array.getElem_push_lt this]

theorem sem_convBytes (hT : TyOK P T) {o : Oper} {src dst e : TypeId} {x : Operand} {ds dd de : TyD} {env : Env} {H : Heap} {l : List UInt8} (nb : Nat) (ho : o.op = .convert src dst x) (hs : T src = some ds) (hd : T dst = some dd) (hk : dd.kind = .slice e)
    (hde : T e = some de) (hke : de.kind = .int .u8) (hx : env.ev 0 x = .str l) :
    OpSem P o env H ⟨none, .asl nb l.length 1 (l.map fun b => [.int .u8 b.toNat]), [(nb, .tok l.length)], []⟩ := by
  have hex : ∀ a : Act, execOp a.eval o = (do pure (.value (← convert src dst (a.eval x)))) := fun a => by unfold execOp; rw [ho]
  have hm : x ∈ o.op.operands.toList := by rw [ho]; simp [Op.operands]
  obtain ⟨ti, z, u, hti, hts', htb, htz, hu, hkk, hrest⟩ := hT.ok dst dd hd
  obtain ⟨ti2, z2, u2, hti2, _, _, _, hu2, _⟩ := hT.ok src ds hs
  obtain ⟨te, ze, ue, hie, hse, hbe, hze, hue, hkk2, hrest2⟩ := hT.ok e de hde
  rw [hk] at hkk
  cases u <;> simp only [kindOK] at hkk
  subst hkk
  rw [hke] at hkk2
  cases ue <;> simp only [kindOK] at hkk2
  subst hkk2
  have main : OpSem P o env H ⟨none, .asl nb (l.map fun b => [AV.int .u8 (b.toNat : Int)]).length 1 (l.map fun b => [AV.int .u8 (b.toNat : Int)]), [(nb, .tok (l.map fun b => [AV.int .u8 (b.toNat : Int)]).length)], []⟩ := by
    refine newTok_op fun C a H2 henv hH _ => ?_
    obtain ⟨s, es, hsl⟩ := (hx ▸ ev_rel henv 0 x hm).str_inv
    have hlen : (l.map fun b => [AV.int .u8 (b.toNat : Int)]).length = s.size := by rw [size_data, hsl]; simp
    generalize hcap : (Question.appendCap s.size 0 e).cut (C.w.tape C.w.drawn (.appendCap s.size 0 e)) = cap
    have hcle : s.size ≤ cap := by rw [← hcap]; simp only [Question.cut]; omega
    let c : Array Value := (s.data.map fun b => Value.int .u8 b.toNat) ++ Array.replicate (cap - s.size) (.int .u8 0)
    have hcs : c.size = cap := by
      simp only [c, Array.size_append, Array.size_map, Array.size_replicate]
      have : s.data.size = s.size := rfl
      omega
    have hcget : ∀ k, k < s.size → c.getD k undef = .int .u8 ((l.getD k 0).toNat) := fun k hk => by
      have hk' : k < s.data.size := hk
      rw [Array.getD_eq_getD_getElem?, Array.getElem?_append_left (by simpa using hk')]
      subst hsl
      simp only [List.getD_eq_getElem?_getD, Array.getElem?_map, Array.getElem?_toList, Array.getElem?_eq_getElem hk']
      rfl
    refine ⟨((C.w.drew).alloc (.cells c e)).freeze ⟨C.w.heap.size, c.size, none⟩ 1, c, e, (c.size, c.size + 1), cap, .inl ?_, ?_, .inr ⟨Nat.le_refl _, Nat.le_refl _⟩, fun y hy => ?_, by omega, by omega, fun k hk => ?_, fun i j hi hj => ?_⟩
    · rw [hex, es, hlen]
      have hsh : (shape C.w.heap.size).run P ((C.w.drew).alloc (.cells c e)) = .ok (some (e, c.size)) ((C.w.drew).alloc (.cells c e)) := by
        unfold shape
        simp only [Sem.run]
        have : ((C.w.drew).alloc (.cells c e)).shape? C.w.heap.size = some (e, c.size) := by
          unfold World.shape?
          have := heap_alloc_at C.w.drew (.cells c e)
          rw [show C.w.drew.heap.size = C.w.heap.size from rfl] at this
          rw [this]
        rw [this]
      have hconv : (Conv.stringToBytes e s).run P C.w = .ok (.slice (some ⟨C.w.heap.size, 0, none⟩) s.size cap) (((C.w.drew).alloc (.cells c e)).freeze ⟨C.w.heap.size, c.size, none⟩ 1) := by
        have hch : (choose (.appendCap s.size 0 e)).run P C.w = .ok cap C.w.drew := by
          unfold choose
          simp only [Sem.run, Question.forced, Bool.false_eq_true, if_false, hcap]
          rfl
        have hnew : (newRow e c).run P C.w.drew = .ok ⟨C.w.heap.size, 0, none⟩ ((C.w.drew).alloc (.cells c e)) := rfl
        simp only [Conv.stringToBytes, Sem.run_bind, hch, Result.andThen_ok]
        show (((newRow e c).run P C.w.drew).andThen _) = _
        rw [hnew]
        simp only [Result.andThen_ok, markStringish, Sem.run_bind, hsh]
        rfl
      have : (convert src dst (.string s)).run P C.w = (Conv.stringToBytes e s).run P C.w := by
        simp only [convert, Sem.run_bind, run_underlying hu, run_underlying hu2, run_underlying hue, Result.andThen_ok]
      rw [Sem.run_bind, this, hconv]; rfl
    · have hh := frozen_freeze_end C.w.drew c e c.size
      have hh' : (((C.w.drew).alloc (.cells c e)).freeze ⟨C.w.heap.size, c.size, none⟩ 1).heap = C.w.heap.push (.cells c e (c.size, c.size + 1)) := hh
      have hos : (((C.w.drew).alloc (.cells c e)).freeze ⟨C.w.heap.size, c.size, none⟩ 1).os = C.w.os ∧ (((C.w.drew).alloc (.cells c e)).freeze ⟨C.w.heap.size, c.size, none⟩ 1).output = C.w.output := by
        unfold World.freeze
        rw [if_neg (by omega)]
        exact ⟨rfl, rfl⟩
      refine ⟨hos.1, hos.2, by rw [hh']; simp, fun k hk => ?_, by rw [hh']; simp⟩
      rw [hh', Array.getElem?_push, if_neg (by omega)]
    · obtain ⟨b, _, rfl⟩ := List.mem_map.1 hy; rfl
    · rw [hcget k (by omega)]; rfl
    · have : j = 0 := by omega
      subst this
      have hi' : i < l.length := by simpa using hi
      rw [Nat.mul_one, Nat.add_zero, hcget i (by omega)]
      have : ((l.map fun b => [AV.int .u8 (b.toNat : Int)]).getD i []).getD 0 .junk = .int .u8 ((l.getD i 0).toNat) := by
        simp [List.getD_eq_getElem?_getD, hi']
      rw [this]; exact .int _ _
  simpa using main
end Go.Av
/- copy; bytes to a text. -/
set_option linter.unusedVariables false
namespace Go.Av
open Go

variable {P : Program} {T : Tys}

/-- cells of a row, from some place on, are other ones -/
theorem rowSetFlat_ok {C : Ctx} {H : Heap} (h : HRel C H) {b sz p cb base : Nat} {es es' : List (List AV)} (hb : H.at b = .row sz es) (hφ : C.φ b = some (cb, base, sz)) (vs : List Value) (h1 : ∀ v ∈ vs, v.oneCell' = true)
    (hp : p + vs.length ≤ es.length * sz) (hl : es'.length = es.length) (hls : ∀ x ∈ es', x.length = sz)
    (hin : ∀ i j, i < es.length → j < sz → p ≤ i * sz + j → i * sz + j < p + vs.length → VRel C ((es'.getD i []).getD j .junk) (vs.getD (i * sz + j - p) undef))
    (hout : ∀ i j, i < es.length → j < sz → (i * sz + j < p ∨ p + vs.length ≤ i * sz + j) → (es'.getD i []).getD j .junk = (es.getD i []).getD j .junk) :
    HRel { C with w := C.w.setCells cb (base + p) vs } (H.put b (.row sz es')) ∧ StepExt C { C with w := C.w.setCells cb (base + p) vs } ∧
      Frame' C H { C with w := C.w.setCells cb (base + p) vs } (H.put b (.row sz es')) := by
  obtain ⟨cb', base', g, k1, k2, k3, k4, k5, k6, k7, k8⟩ := h.row b sz es hb
  rw [hφ] at k1; cases k1
  have hagree : Agree C.K C.w (C.w.setCells cb (base + p) vs) := Agree.of_block (kind_setCells cb vs _ _) fun q hq => heap_setCells_ne cb vs _ _ q (fun e => by subst e; exact hq k3)
  have hs : StepExt C { C with w := C.w.setCells cb (base + p) vs } := ⟨fun _ _ h => h, fun _ _ _ h => h, fun _ => Nat.le_refl _, hagree⟩
  have hsome : ∀ q, q < vs.length → (C.w.cell? ⟨cb, base + p + q, none⟩).isSome = true := fun q hq => by
    obtain ⟨q1, q2, q3⟩ := idx_split (show p + q < es.length * sz by omega)
    have := k5 _ _ q1 q2
    rw [show base + p + q = base + ((p + q) / sz * sz + (p + q) % sz) by omega, this]; rfl
  have hblk : BlkOK { C with w := C.w.setCells cb (base + p) vs } b (.row sz es') := by
    refine ⟨cb, base, fun i j => if p ≤ i * sz + j ∧ i * sz + j < p + vs.length then vs.getD (i * sz + j - p) undef else g i j, hφ, by rw [size_setCells]; exact k2, k3, hls, fun i j hi hj => ?_, fun _ => ?_, fun i j hi hj => ?_, fun i j hi hj => ?_⟩
    · rw [hl] at hi
      show (C.w.setCells cb (base + p) vs).cell? _ = _
      have h5 := k5 i j hi hj
      dsimp only
      generalize i * sz + j = k at *
      by_cases hc : p ≤ k ∧ k < p + vs.length
      · have := World.cell?_setCells_in cb vs (base + p) C.w hsome (k - p) (by omega)
        rw [show base + p + (k - p) = base + k by omega] at this
        rw [if_pos hc, this, List.getD_eq_getElem?_getD, List.getElem?_eq_getElem (by omega)]; rfl
      · rw [if_neg hc, World.cell?_setCells_out cb vs _ _ _ (fun _ _ => by show base + k < base + p ∨ base + p + vs.length ≤ base + k; omega)]
        exact h5
    · show (C.w.setCells cb (base + p) vs).frozen? _ = _
      rw [World.frozen?_setCells]; exact k6 _
    · rw [hl] at hi
      dsimp only
      split
      · exact h1 _ (by rw [List.getD_eq_getElem?_getD, List.getElem?_eq_getElem (by omega)]; exact List.getElem_mem _)
      · exact k7 i j hi hj
    · rw [hl] at hi
      dsimp only
      by_cases hc : p ≤ i * sz + j ∧ i * sz + j < p + vs.length
      · rw [if_pos hc]; exact (hin i j hi hj hc.1 hc.2).mono hs
      · rw [if_neg hc, hout i j hi hj (by omega)]; exact (k8 i j hi hj).mono hs
  have hownb : Owns C H b cb := .row b sz es cb base hb hφ
  have hown : ∀ q, Owns { C with w := C.w.setCells cb (base + p) vs } (H.put b (.row sz es')) b q → q = cb := fun q ho => by
    cases ho with
    | row sz' es' _ base' hb' hφ' =>
      have hφ'' : C.φ b = some (q, base', sz') := hφ'
      rw [hφ] at hφ''; cases hφ''; rfl
    | tok e _ eo ce hb' hτ => rw [Heap.at_put_same] at hb'; cases hb'
    | map es _ hb' hφ' => rw [Heap.at_put_same] at hb'; cases hb'
  refine ⟨h.change hs b _ (fun q c hq ho => ⟨heap_setCells_ne cb vs _ _ c (fun e => hq (h.own _ _ _ ho (e ▸ hownb))), rfl⟩) (by rw [size_setCells]; exact Nat.le_refl _) (fun q hq => by rw [size_setCells]; exact h.dom q hq) (fun _ _ => rfl) hblk
      (fun q ho q' hq' ho' => hq' (h.own _ _ _ ho' (hown q ho ▸ hownb))), hs, ⟨(os_setCells cb vs _ _).1, (os_setCells cb vs _ _).2, by rw [size_setCells]; exact Nat.le_refl _, fun c hc hno => ⟨heap_setCells_ne cb vs _ _ c (fun e => hno b (e ▸ hownb)), rfl⟩, fun q c ho hc => ?_⟩⟩
  by_cases hq : q = b
  · subst hq; exact ⟨q, hown c ho ▸ hownb⟩
  · exact ⟨q, (ho.put_ne hq).back h hs⟩

theorem run_copy_general {dT sT ty e : TypeId} {te : TypeInfo} (hu : P.underlying dT = some (.slice e)) (hie : P.info? e = some te) {b o dLen dCap : Nat} {v : Value} {n : Nat} {cs : List Value} {w : World} (hlen : (Builtin.lenOf v).run P w = .ok n w)
    (hcells : (Builtin.firstCells te.size (Nat.min n dLen) v).run P w = .ok cs.toArray w) (hc : ∀ j, j < cs.length → (w.cell? ⟨b, o + j, none⟩).isSome = true) (hf : ∀ j, j < cs.length → w.frozen? ⟨b, o + j, none⟩ = false) (h1 : ∀ v ∈ cs, v.oneCell' = true) :
    (Builtin.copy_ #[dT, sT] ty #[.slice (some ⟨b, o, none⟩) dLen dCap, v]).run P w = .ok (goInt (Nat.min n dLen)) (w.setCells b o cs) := by
  have hst := run_storeCells_cells (P := P) b o cs 0 w (by simpa using hc) (by simpa using hf) h1
  simp only [Nat.add_zero] at hst
  simp only [Builtin.copy_, List.getElem?_toArray, List.getElem?_cons_zero, List.getElem?_cons_succ, Sem.run_bind, run_underlying hu, Result.andThen_ok, hlen, run_sizeOf_of hie, hcells, hst, Sem.run_pure]

theorem sem_copy (hT : TyOK P T) {o : Oper} {c : Call} {ts tx : TypeId} {sx xx : Operand} {env : Env} {H : Heap} {r : ORes} {s1 s2 : Nat} (ho : o.op = .call c) (hb : c.callee = .builtin .copy) (hts : c.argTypes = #[ts, tx]) (hxs : c.args = #[sx, xx])
    (h : acopy T H ts tx (env.ev s1 sx) (env.ev s2 xx) = some r) : OpSem P o env H r := by
  have hm1 : sx ∈ o.op.operands.toList := by rw [ho]; simp [Op.operands, Call.operands, hb, hxs]
  have hm2 : xx ∈ o.op.operands.toList := by rw [ho]; simp [Op.operands, Call.operands, hb, hxs]
  have run : ∀ (a : Act) {w w' : World} {v : Value}, (Builtin.copy_ #[ts, tx] o.type #[a.eval sx, a.eval xx]).run P w = .ok v w' → (execOp a.eval o).run P w = .ok (.value v) w' := fun a w w' v hr =>
    exec_builtin ho hb a (s := Builtin.copy_ #[ts, tx] o.type #[a.eval sx, a.eval xx]) (fun consts => by rw [hts, hxs]; simp only [List.map_toArray, List.map_cons, List.map_nil]; rfl) hr
  unfold acopy at h
  split at h
  · rename_i d hd
    obtain ⟨ti, z, u, hti, hts', htb, htz, hu, hk, hrest⟩ := hT.ok ts d hd
    split at h
    · rename_i e hdk
      rw [hdk] at hk
      cases u <;> simp only [kindOK] at hk
      subst hk
      split at h
      · rename_i de hde
        obtain ⟨te, ze, ue, hie, hse, hbe, _⟩ := hT.ok _ de hde
        split at h
        · rename_i hsk
          split at h
          · rename_i ys0 log hsrc
            split at h
            · rename_i ys hys
              split at h
              · rename_i b off len cap sz hsx
                split at h
                · rename_i sz' es hHb
                  cases h
                  intro C a H2 henv hH hlog hwr hpre
                  obtain ⟨rfl, rfl, hle, hyl⟩ := hpre _ rfl
                  have hb2 : H2.at b = .row de.sz es := by rw [hlog b (by simp), hHb]
                  obtain ⟨news, hs, hnr, hpre⟩ := src_rel hT hH hse (ev_rel henv s2 xx hm2) hsk hsrc (fun q hq => hlog q (by simp [hq])) hys hyl
                  obtain ⟨cb, base, ccap, hφ, e1, _, _⟩ := (hsx ▸ ev_rel henv s1 sx hm1).row_inv
                  obtain ⟨cb', base', g, k1, k2, k3, k4, k5, k6, k7, k8⟩ := hH.row b de.sz es hb2
                  rw [hφ] at k1; cases k1
                  have hnl : news.length = ys.length * de.sz := by rw [hs.newsLen, hse]
                  have hmin : Nat.min ys.length len = min ys.length len := rfl
                  have hfirst := hpre (min ys.length len) (by omega)
                  have hn1 : min ys.length len ≤ ys.length := by omega
                  have hn2 : min ys.length len ≤ len := by omega
                  have htk : (news.take (min ys.length len * te.size)).length = min ys.length len * de.sz := by
                    rw [List.length_take, hnl, hse, Nat.min_eq_left (Nat.mul_le_mul_right _ hn1)]
                  have hspan : off * de.sz + min ys.length len * de.sz ≤ es.length * de.sz := by
                    rw [← Nat.add_mul]; exact Nat.mul_le_mul_right _ (by omega)
                  have hcell : ∀ j, j < (news.take (min ys.length len * te.size)).length → C.w.cell? ⟨cb, base + off * de.sz + j, none⟩ = some (g ((off * de.sz + j) / de.sz) ((off * de.sz + j) % de.sz)) ∧ C.w.frozen? ⟨cb, base + off * de.sz + j, none⟩ = false := fun j hj => by
                    rw [htk] at hj
                    obtain ⟨q1, q2, q3⟩ := idx_split (show off * de.sz + j < es.length * de.sz by omega)
                    have h5 := k5 _ _ q1 q2
                    rw [show base + ((off * de.sz + j) / de.sz * de.sz + (off * de.sz + j) % de.sz) = base + off * de.sz + j by omega] at h5
                    exact ⟨h5, k6 _⟩
                  have h1 : ∀ v ∈ news.take (min ys.length len * te.size), v.oneCell' = true := fun v hv => hs.one v (List.mem_of_mem_take hv)
                  have hrun := run_copy_general (dT := ts) (sT := tx) (ty := o.type) (dCap := ccap) hu hie (b := cb) (o := base + off * de.sz) (hs.len C.w) hfirst (fun j hj => by rw [(hcell j hj).1]; rfl) (fun j hj => (hcell j hj).2) h1
                  have hget : ∀ i, i < es.length → (es.take off ++ ys.take len ++ es.drop (off + min ys.length len)).getD i [] = if off ≤ i ∧ i < off + min ys.length len then ys.getD (i - off) [] else es.getD i [] := fun i hi => by
                    have ht1 : (es.take off).length = off := by rw [List.length_take]; omega
                    have ht2 : (ys.take len).length = min ys.length len := by rw [List.length_take]; omega
                    by_cases c1 : i < off
                    · rw [if_neg (by omega), List.append_assoc, getDL_app_left (by omega)]
                      simp [List.getD_eq_getElem?_getD, c1]
                    · by_cases c2 : i < off + min ys.length len
                      · rw [if_pos ⟨by omega, c2⟩, getDL_app_left (by rw [List.length_append]; omega), getDL_app_right (by omega), ht1]
                        simp only [List.getD_eq_getElem?_getD]
                        rw [List.getElem?_take_of_lt (by omega)]
                      · rw [if_neg (by omega), getDL_app_right (by rw [List.length_append]; omega), List.length_append, ht1, ht2]
                        simp only [List.getD_eq_getElem?_getD, List.getElem?_drop]
                        congr 2; omega
                  have hlen : (es.take off ++ ys.take len ++ es.drop (off + min ys.length len)).length = es.length := by
                    simp only [List.length_append, List.length_take, List.length_drop]; omega
                  obtain ⟨r1, r2, r3⟩ := rowSetFlat_ok (p := off * de.sz) (es' := es.take off ++ ys.take len ++ es.drop (off + min ys.length len)) hH hb2 hφ (news.take (min ys.length len * te.size)) h1 (by rw [htk]; exact hspan) hlen (fun x hx => by
                      rcases List.mem_append.1 hx with hx | hx
                      · rcases List.mem_append.1 hx with hx | hx
                        · exact k4 _ (List.mem_of_mem_take hx)
                        · exact hyl _ (List.mem_of_mem_take hx)
                      · exact k4 _ (List.mem_of_mem_drop hx)) (fun i j hi hj h1 h2 => by
                      rw [htk] at h2
                      have hio : off ≤ i := by
                        rcases Nat.lt_or_ge i off with h | h
                        · have := idx_lt h hj; omega
                        · exact h
                      have hio2 : i < off + min ys.length len := by
                        rcases Nat.lt_or_ge i (off + min ys.length len) with h | h
                        · exact h
                        · have : (off + min ys.length len) * de.sz ≤ i * de.sz := Nat.mul_le_mul_right _ h
                          rw [Nat.add_mul] at this; omega
                      rw [hget i hi, if_pos ⟨hio, hio2⟩]
                      have := hnr (i - off) j (by omega) hj
                      have b1 : off * de.sz ≤ i * de.sz := Nat.mul_le_mul_right _ hio
                      have e : i * de.sz + j - off * de.sz = (i - off) * de.sz + j := by rw [Nat.sub_mul]; omega
                      rw [e]
                      have hlt : (i - off) * de.sz + j < min ys.length len * te.size := by rw [hse]; exact idx_lt (by omega) hj
                      have e2 : (news.take (min ys.length len * te.size)).getD ((i - off) * de.sz + j) undef = news.getD ((i - off) * de.sz + j) undef := by
                        simp only [List.getD_eq_getElem?_getD]; rw [List.getElem?_take_of_lt hlt]
                      rw [e2]; exact .fro _ _ this) (fun i j hi hj h1 => by
                      rw [htk] at h1
                      have hnot : ¬ (off ≤ i ∧ i < off + min ys.length len) := fun ⟨a1, a2⟩ => by
                        have b1 : off * de.sz ≤ i * de.sz := Nat.mul_le_mul_right _ a1
                        have b2 := idx_lt a2 hj
                        rw [Nat.add_mul] at b2; omega
                      rw [hget i hi, if_neg hnot])
                  refine ⟨goInt (Nat.min ys.length len), { C with w := C.w.setCells cb (base + off * de.sz) (news.take (min ys.length len * te.size)) }, .inl (run a ?_), .fro _ _ (.int _ _), r1, r2, r3, fun _ _ => ⟨rfl, rfl⟩⟩
                  rw [e1]; exact hrun
                · cases h
              · cases h
            · cases h
          · cases h
        · cases h
      · cases h
    · cases h
  · cases h
end Go.Av
/- Every operation that is no call. -/
set_option linter.unusedVariables false
namespace Go.Av
open Go

variable {P : Program} {T : Tys}

theorem foldl_push : ∀ (ns : List Int) (s : ByteArray), (ns.foldl (fun r n => r.push (UInt8.ofNat n.toNat)) s).data.toList = s.data.toList ++ ns.map fun n => UInt8.ofNat n.toNat
  | [], s => by simp
  | n :: ns, s => by
    rw [List.foldl_cons, foldl_push ns]
    simp [ByteArray.push]

theorem bytes_of {K : Nat → Nat} {w : World} {sz : Nat} {xs : List (List AV)} {v : Value} (h : FRel K w (.fsl sz xs) v) (hsz : sz = 1) (hb : AllBytes xs) :
    ∃ s : ByteArray, (Conv.bytesToString v).run P w = .ok (.string s) w ∧ s.data.toList = natsOf xs := by
  subst hsz
  obtain ⟨ad, cap, cs, rfl, h1, h2, h3, h4, h5⟩ := fsl_cells h
  cases ad with
  | none =>
    have := h2 rfl; subst this
    exact ⟨.empty, rfl, rfl⟩
  | some a =>
    have hint : ∀ i, i < xs.length → ∃ n, xs.getD i [] = [.int .u8 n] ∧ cs[i]? = some (.int .u8 n) := fun i hi => by
      have hmem : xs.getD i [] ∈ xs := by rw [List.getD_eq_getElem?_getD, List.getElem?_eq_getElem hi]; exact List.getElem_mem hi
      obtain ⟨n, hn⟩ := hb _ hmem
      have := h5 i 0 hi (by omega)
      rw [hn] at this
      have hlt : i < cs.length := by omega
      have e : cs.getD i undef = cs[i] := by rw [List.getD_eq_getElem?_getD, List.getElem?_eq_getElem hlt]; rfl
      rw [Nat.mul_one, Nat.add_zero, e] at this
      refine ⟨n, hn, ?_⟩
      rw [List.getElem?_eq_getElem hlt]
      generalize cs[i] = q at this ⊢
      have h6 : FRel K w (.int .u8 n) q := this
      cases h6; rfl
    let ns : List Int := xs.map fun | [.int .u8 n] => n | _ => 0
    have hns : cs = ns.map (Value.int .u8) := by
      apply List.ext_getElem?
      intro i
      rcases Nat.lt_or_ge i xs.length with hi | hi
      · obtain ⟨n, hn, hc⟩ := hint i hi
        rw [hc]
        simp only [ns, List.getElem?_map, List.getElem?_eq_getElem hi, Option.map_some]
        rw [List.getD_eq_getElem?_getD, List.getElem?_eq_getElem hi] at hn
        have : xs[i] = [.int .u8 n] := hn
        rw [this]
      · rw [List.getElem?_eq_none (by omega), List.getElem?_eq_none (by simp [ns]; exact hi)]
    have hload : (loadCells a xs.length).run P w = .ok (ns.map (Value.int .u8)).toArray w := by
      have := run_loadCells_list (P := P) w a cs (fun j u hu => h3 a rfl j u hu)
      rw [h1, Nat.mul_one] at this
      rw [← hns]; exact this
    refine ⟨_, run_bytesToString w a xs.length cap ns hload, ?_⟩
    rw [foldl_push]
    simp only [ns, natsOf, List.map_map]
    have : (ByteArray.empty).data.toList = [] := rfl
    rw [this, List.nil_append]
    apply List.map_congr_left
    intro x hx
    obtain ⟨n, rfl⟩ := hb x hx
    rfl

theorem sem_convText (hT : TyOK P T) {o : Oper} {src dst e : TypeId} {x : Operand} {ds dd de : TyD} {env : Env} {H : Heap} {r : ORes} {xs : List (List AV)} (ho : o.op = .convert src dst x) (hs : T src = some ds) (hd : T dst = some dd) (hk : dd.kind = .str)
    (hks : ds.kind = .slice e) (hde : T e = some de) (hke : de.kind = .int .u8) (hx : ∀ (C : Ctx) (a : Act), EnvOK C env a o.op.operands.toList → FRel C.K C.w (.fsl 1 xs) (a.eval x)) (h : vIf (AllBytes xs) (.str (natsOf xs)) = some r) : OpSem P o env H r := by
  have hex : ∀ a : Act, execOp a.eval o = (do pure (.value (← convert src dst (a.eval x)))) := fun a => by unfold execOp; rw [ho]
  obtain ⟨ti, z, u, hti, hts', htb, htz, hu, hkk, hrest⟩ := hT.ok dst dd hd
  obtain ⟨ti2, z2, u2, hti2, _, _, _, hu2, hkk2, _⟩ := hT.ok src ds hs
  obtain ⟨te, ze, ue, hie, hse, hbe, hze, hue, hkk3, hrest2⟩ := hT.ok e de hde
  rw [hk] at hkk
  cases u <;> simp only [kindOK] at hkk
  rw [hks] at hkk2
  cases u2 <;> simp only [kindOK] at hkk2
  subst hkk2
  rw [hke] at hkk3
  cases ue <;> simp only [kindOK] at hkk3
  subst hkk3
  refine vIf_pure h fun C a H2 henv hH hp => ?_
  have hf := hx C a henv
  obtain ⟨s, h1, h2⟩ := bytes_of (P := P) hf rfl hp
  obtain ⟨ad, cap, e1⟩ := fsl_len hf
  refine ⟨.string s, ?_, .fro _ _ (.str _ _ h2)⟩
  rw [e1] at h1
  rw [hex, e1, Sem.run_bind, run_convert_bytes_string C.w src dst _ ad _ cap hu2 hue hu, h1]; rfl

/-- **An operation that is no call comes to what 'aop' says.** -/
theorem aop_sem (hT : TyOK P T) {o : Oper} {env : Env} {H : Heap} {r : ORes} (h : aop T o env H = some r) : OpSem P o env H r := by
  unfold aop at h
  split at h
  · rename_i x ho; exact sem_move (.inl ho) h
  · rename_i x ho; exact sem_move (.inr ho) h
  · rename_i elem ho
    split at h
    · rename_i d hd; cases h; exact sem_alloc hT _ ho hd
    · cases h
  · rename_i elem x ho
    split at h
    · rename_i d hd
      split at h
      · rename_i hc
        simp only [Bool.and_eq_true, beq_iff_eq] at hc
        cases h; exact sem_box hT _ ho hd hc.1 hc.2
      · cases h
    · cases h
  · rename_i t parts ho
    split at h
    · rename_i d hd
      split at h
      · rename_i fs hk
        split at h
        · rename_i hfs
          exact sem_build hT (hint := fun i => match fs[i]? with | some (_, ft) => T.esz ft | none => 0) ho hd hk hfs h
        · cases h
      · cases h
    · cases h
  · rename_i t len parts ho
    split at h
    · rename_i d hd
      split at h
      · rename_i e hk
        split at h
        · rename_i de hde
          split at h
          · rename_i es he
            split at h
            · rename_i xs hx
              split at h
              · rename_i hb
                cases h
                exact sem_buildSlice hT _ ho hd hk hde he hx hb
              · cases h
            · cases h
          · cases h
        · cases h
      · cases h
    · cases h
  · rename_i t x ho
    split at h
    · rename_i d hd; exact sem_load hT ho hd h
    · cases h
  · rename_i t a x ho
    split at h
    · rename_i d hd; exact sem_store hT ho hd h
    · cases h
  · rename_i x ho; exact sem_nilCheck ho h
  · rename_i op t x y yt ho; exact sem_binop hT ho h
  · rename_i op t x ho; exact sem_unop ho h
  · rename_i src dst x ho
    unfold aconv at h
    split at h
    · rename_i ds dd hs hd
      split at h
      · rename_i k k' n hk hx; exact sem_convInt hT ho hs hd hk hx h
      · rename_i l hk hx; exact sem_convStr hT ho hs hd hk hx h
      · rename_i e l hk hx
        split at h
        · rename_i de hde
          split at h
          · rename_i hke
            cases h
            exact sem_convBytes hT _ ho hs hd hk hde hke hx
          · cases h
        · cases h
      · rename_i sz xs hk hx
        split at h
        · rename_i e hks
          split at h
          · rename_i de hde
            split at h
            · rename_i hke
              split at h
              · rename_i hsz; subst hsz
                exact sem_convText hT ho hs hd hk hks hde hke (fun C a henv => (hx ▸ ev_rel henv 0 x (by rw [ho]; simp [Op.operands])).fsl_inv) h
              · cases h
            · cases h
          · cases h
        · cases h
      · rename_i t' e' sz xs hk hx
        split at h
        · rename_i e hks
          split at h
          · rename_i de hde
            split at h
            · rename_i hke
              split at h
              · rename_i hsz; subst hsz
                exact sem_convText hT ho hs hd hk hks hde hke (fun C a henv => (hx ▸ ev_rel henv 0 x (by rw [ho]; simp [Op.operands])).asl_fsl) h
              · cases h
            · cases h
          · cases h
        · cases h
      · cases h
    · cases h
  · rename_i t x ho; exact sem_makeInterface hT ho h
  · rename_i fn first caps ho; exact sem_makeFunc ho h
  · rename_i t l c ho
    split at h
    · rename_i d hd
      split at h
      · rename_i e hk
        split at h
        · rename_i de hde
          split at h
          · rename_i k n k' m hl hc
            split at h
            · cases h; exact sem_makeSlice_tok hT _ ho hd hk hde hl hc
            · cases h; exact sem_makeSlice_row hT _ ho hd hk hde hl hc
          · cases h
        · cases h
      · cases h
    · cases h
  · rename_i t x lo hi ho
    split at h
    · rename_i d hd
      split at h
      · rename_i hk
        split at h
        · rename_i l hx; exact sem_slice_str hT ho hd hk hx h
        · cases h
      · rename_i e hk
        split at h
        · rename_i de hde; exact sem_slice_sl hT ho hd hk hde h
        · cases h
      · cases h
    · cases h
  · rename_i s x f ho
    split at h
    · rename_i d hd; exact sem_fieldAddr hT ho hd h
    · cases h
  · rename_i s x f ho
    split at h
    · rename_i d hd; exact sem_field hT ho hd h
    · cases h
  · rename_i t x ix ho
    split at h
    · rename_i d hd
      split at h
      · rename_i k i hi; exact sem_indexAddr hT ho hd hi h
      · cases h
    · cases h
  · rename_i t x ix ho
    split at h
    · rename_i d hd
      split at h
      · rename_i k i hi; exact sem_index hT ho hd hi h
      · cases h
    · cases h
  · rename_i x xt t ok ho; exact sem_typeAssert hT ho h
  · rename_i x i ho; exact sem_extract ho h
  · rename_i c ho
    split at h
    · rename_i b hb
      unfold abuiltin at h
      split at h
      · rename_i t x hts hxs
        split at h
        · rename_i d hd
          exact sem_len hT ho hb (by rw [← hts]) (by rw [← hxs]) hd h
        · cases h
      · rename_i t u s x hts hxs
        exact sem_append hT ho hb (by rw [← hts]) (by rw [← hxs]) h
      · rename_i t u s x hts hxs
        exact sem_copy hT ho hb (by rw [← hts]) (by rw [← hxs]) h
      · cases h
    · cases h
  · cases h
end Go.Av
/- Regions: operations in the order of the text, or in any order that the region leaves open. -/
set_option linter.unusedVariables false
namespace Go.Av
open Go

/-! ### writes as functions -/
def fputs {α : Type} : List (Nat × α) → (Nat → α) → Nat → α
  | [], f, k => f k
  | (b, x) :: r, f, k => fputs r (fun k => bif b == k then x else f k) k

theorem fputs_congr {α : Type} : ∀ (ws : List (Nat × α)) (f g : Nat → α) (k : Nat), f k = g k → fputs ws f k = fputs ws g k
  | [], f, g, k, h => h
  | (b, x) :: r, f, g, k, h => fputs_congr r _ _ k (by cases hb : b == k <;> simp [h])

theorem fputs_notin {α : Type} : ∀ (ws : List (Nat × α)) (f : Nat → α) (k : Nat), (∀ p ∈ ws, p.1 ≠ k) → fputs ws f k = f k
  | [], f, k, h => rfl
  | (b, x) :: r, f, k, h => by
    simp only [fputs]
    rw [fputs_notin r _ k (fun p hp => h p (List.mem_cons_of_mem _ hp))]
    have : (b == k) = false := by simpa using h (b, x) (List.mem_cons_self ..)
    simp [this]

theorem fputs_in {α : Type} : ∀ (ws : List (Nat × α)) (f g : Nat → α) (k : Nat), (∃ p ∈ ws, p.1 = k) → fputs ws f k = fputs ws g k
  | [], f, g, k, h => by obtain ⟨p, hp, _⟩ := h; cases hp
  | (b, x) :: r, f, g, k, h => by
    simp only [fputs]
    by_cases hr : ∃ p ∈ r, p.1 = k
    · exact fputs_in r _ _ k hr
    · obtain ⟨p, hp, hk⟩ := h
      cases hp with
      | head => exact fputs_congr r _ _ k (by simp at hk; simp [hk])
      | tail _ hp => exact absurd ⟨p, hp, hk⟩ hr

/-- folds the writes of the listed items, from a number on -/
def sfold {ι α : Type} (L : Nat → Bool) (W : ι → List (Nat × α)) : Nat → List ι → (Nat → α) → Nat → α
  | _, [], f => f
  | i, x :: r, f => sfold L W (i + 1) r (fun k => bif L i then fputs (W x) f k else f k)

theorem sfold_agree {ι α : Type} (L L' : Nat → Bool) (W : ι → List (Nat × α)) : ∀ (xs : List ι) (i : Nat) (f f' : Nat → α) (k : Nat),
    (∀ m x, xs[m]? = some x → L (i + m) ≠ L' (i + m) → ∀ p ∈ W x, p.1 ≠ k) → f k = f' k → sfold L W i xs f k = sfold L' W i xs f' k
  | [], i, f, f', k, h, hf => hf
  | x :: r, i, f, f', k, h, hf => by
    simp only [sfold]
    refine sfold_agree L L' W r (i + 1) _ _ k (fun m y hy hne => h (m + 1) y (by simpa using hy) (by rwa [show i + (m + 1) = i + 1 + m by omega])) ?_
    cases hL : L i <;> cases hL' : L' i <;> simp only [cond_true, cond_false]
    · exact hf
    · rw [fputs_notin _ _ _ (h 0 x (by simp) (by simp [hL, hL'])), hf]
    · rw [fputs_notin _ _ _ (h 0 x (by simp) (by simp [hL, hL'])), hf]
    · exact fputs_congr _ _ _ _ hf

theorem sfold_none {ι α : Type} (W : ι → List (Nat × α)) : ∀ (xs : List ι) (i : Nat) (f : Nat → α) (k : Nat), sfold (fun _ => false) W i xs f k = f k
  | [], i, f, k => rfl
  | x :: r, i, f, k => by simp only [sfold, cond_false]; exact sfold_none W r (i + 1) _ k

theorem sfold_keep {ι α : Type} (L : Nat → Bool) (W : ι → List (Nat × α)) (xs : List ι) (i : Nat) (f : Nat → α) (k : Nat)
    (h : ∀ m x, xs[m]? = some x → L (i + m) = true → ∀ p ∈ W x, p.1 ≠ k) : sfold L W i xs f k = f k := by
  rw [← sfold_none W xs i f k]
  exact sfold_agree L _ W xs i f f k (fun m x hx hne => h m x hx (by simpa using hne)) rfl

/-- the write of one item comes last -/
theorem sfold_add {ι α : Type} (L L' : Nat → Bool) (W : ι → List (Nat × α)) (j : Nat) (xj : ι) (hL : L j = false) (hL' : ∀ m, L' m = (L m || m == j)) :
    ∀ (xs : List ι) (i : Nat) (f : Nat → α) (k : Nat), i ≤ j → xs[j - i]? = some xj →
      (∀ m x, xs[m]? = some x → j < i + m → L (i + m) = true → ∀ p ∈ W x, ∀ q ∈ W xj, p.1 ≠ q.1) →
      sfold L' W i xs f k = fputs (W xj) (sfold L W i xs f) k
  | [], i, f, k, hi, hx, h => by simp at hx
  | x :: r, i, f, k, hi, hx, h => by
    simp only [sfold]
    by_cases hij : i = j
    · subst hij
      simp at hx; subst hx
      have h1 : L' i = true := by rw [hL']; simp
      simp only [h1, hL, cond_true, cond_false]
      have hrest : ∀ g, sfold L' W (i + 1) r g k = sfold L W (i + 1) r g k := fun g =>
        sfold_agree L' L W r (i + 1) g g k (fun m y hy hne => by
          refine absurd ?_ hne
          have h9 : (i + 1 + m == i) = false := by simp; omega
          rw [hL', h9, Bool.or_false]) rfl
      rw [hrest]
      by_cases hk : ∃ q ∈ W x, q.1 = k
      · obtain ⟨q, hq, hqk⟩ := hk
        rw [sfold_keep L W r (i + 1) _ k (fun m y hy hl p hp => by
          have := h (m + 1) y (by simpa using hy) (by omega) (by rwa [show i + (m + 1) = i + 1 + m by omega]) p hp q hq
          rwa [hqk] at this)]
        exact fputs_in _ _ _ _ ⟨q, hq, hqk⟩
      · have hk' : ∀ q ∈ W x, q.1 ≠ k := fun q hq he => hk ⟨q, hq, he⟩
        rw [fputs_notin _ _ _ hk']
        exact sfold_agree L L W r (i + 1) _ _ k (fun m y hy hne => absurd rfl hne) (fputs_notin _ _ _ hk')
    · have hne : (i == j) = false := by simpa using hij
      have h1 : L' i = L i := by rw [hL', hne]; simp
      rw [h1]
      refine sfold_add L L' W j xj hL hL' r (i + 1) _ k (by omega) ?_ ?_
      · rw [show j - i = (j - (i + 1)) + 1 by omega] at hx; simpa using hx
      · intro m y hy hlt hl
        exact h (m + 1) y (by simpa using hy) (by omega) (by rwa [show i + (m + 1) = i + 1 + m by omega])

theorem Heap.at_puts : ∀ (wr : List (Nat × Blk)) (H : Heap) (b : Nat), (H.puts wr).at b = fputs wr H.at b
  | [], H, b => rfl
  | (c, x) :: r, H, b => by
    simp only [Heap.puts, fputs]
    rw [Heap.at_puts r (H.put c x) b]
    refine fputs_congr r _ _ b ?_
    by_cases hc : c = b
    · subst hc; simp [Heap.at_put_same]
    · rw [Heap.at_put_ne H c b x (fun h => hc h.symm)]
      have : (c == b) = false := by simpa using hc
      simp [this]

theorem Heap.length_put : ∀ (H : Heap) (b : Nat) (x : Blk), H.length ≤ (H.put b x).length ∧ b < (H.put b x).length
  | [], 0, _ => by simp [Heap.put]
  | [], n + 1, x => by have := Heap.length_put [] n x; simp [Heap.put]; omega
  | _ :: _, 0, _ => by simp [Heap.put]
  | _ :: H, n + 1, x => by have := Heap.length_put H n x; simp [Heap.put]; omega

theorem Heap.length_puts : ∀ (wr : List (Nat × Blk)) (H : Heap), H.length ≤ (H.puts wr).length ∧ ∀ p ∈ wr, p.1 < (H.puts wr).length
  | [], H => ⟨Nat.le_refl _, fun p hp => by cases hp⟩
  | (b, x) :: r, H => by
    have h1 := Heap.length_put H b x
    have h2 := Heap.length_puts r (H.put b x)
    refine ⟨Nat.le_trans h1.1 h2.1, fun p hp => ?_⟩
    cases hp with
    | head => exact Nat.lt_of_lt_of_le h1.2 h2.1
    | tail _ hp => exact h2.2 p hp

/-! ### what an operation does -/
structure Eff where
  v : AV
  wr : List (Nat × Blk)
  log : List Nat

def OpEff (P : Program) (o : Oper) (env : Env) (H : Heap) (e : Eff) : Prop :=
  ∀ (C : Ctx) (a : Act) (H2 : Heap), EnvOK C env a o.op.operands.toList → HRel C H2 → (∀ b ∈ e.log, H2.at b = H.at b) →
    (∀ p ∈ e.wr, p.1 ∈ e.log ∨ (H2.at p.1 = .dead ∧ Fresh C p.1)) →
    ∀ (next : Act → World → Prop) (Q : Exit → Act → World → Prop),
      (∀ v' C', VRel C' e.v v' → HRel C' (H2.puts e.wr) → StepExt C C' → Frame' C H2 C' (H2.puts e.wr) →
        (∀ b, (∀ p ∈ e.wr, p.1 ≠ b) → Fresh C b → Fresh C' b) → next (a.put o.dst v') C'.w) → o.wp P a C.w next Q

theorem OpEff.of_sem {P : Program} {o : Oper} {env : Env} {H : Heap} {r : ORes} (h : OpSem P o env H r) (hp : ∀ p, r.pre = some p → p) : OpEff P o env H ⟨r.v, r.wr, r.log⟩ := by
  intro C a H2 henv hH hlog hnew next Q hk
  obtain ⟨v', C', hrun, hv, hH', hs, hf, hu⟩ := h C a H2 henv hH hlog hnew hp
  have := hk v' C' hv hH' hs hf fun b hb hfr => ⟨by rw [(hu b hb).1]; exact hfr.1, fun e => by rw [(hu b hb).2]; exact hfr.2 e⟩
  unfold Oper.wp
  rcases hrun with hr | ⟨hr, he⟩
  · rw [hr]; exact this
  · rw [hr]; subst he; exact this

def EnvAll (C : Ctx) (f : Nat → AV) (a : Act) : Prop := ∀ t, VRel C (f t) (a.tmps.getD t undef)

def aguard (ops : Array Oper) (o : Oper) (env : Env) : Option Bool :=
  match o.guard with
  | none => some true
  | some (g, want) => match (ops[g]?).bind (·.dst) with
    | some t => match env.get t with
      | .bool b => some (b == want)
      | .tup [] => some false
      | _ => none
    | none => some false

theorem aguard_wanted {C : Ctx} {ops : Array Oper} {o : Oper} {env : Env} {a : Act} {b : Bool} (h : aguard ops o env = some b)
    (he : ∀ g w t, o.guard = some (g, w) → (ops[g]?).bind (·.dst) = some t → VRel C (env.get t) (a.tmps.getD t undef)) : Region.wanted o (yielded ops a.tmps) = b := by
  unfold aguard at h
  unfold Region.wanted
  split at h
  · rename_i hg; rw [hg]; cases h; rfl
  · rename_i g want hg
    rw [hg]
    split at h
    · rename_i t ht
      have hv := he g want t hg ht
      simp only [yielded, ht, Option.bind_some]
      split at h
      · rename_i b' hb
        rw [hb] at hv
        have hv := hv.bool_inv
        cases h
        cases hx : a.tmps[t]? with
        | none => simp [hx, undef] at hv
        | some v =>
          simp only [Array.getD_eq_getD_getElem?, hx, Option.getD_some] at hv
          subst hv
          cases b' <;> cases want <;> rfl
      · rename_i hb
        rw [hb] at hv
        cases h
        have hv : a.tmps.getD t undef = .tuple #[] := by
          generalize a.tmps.getD t undef = u at hv
          cases hv with
          | fro _ _ h => cases h with | tup _ vs hl _ => rw [show vs = #[] from Array.eq_empty_of_size_eq_zero (by simpa using hl.symm)]
          | tup _ vs hl _ => rw [show vs = #[] from Array.eq_empty_of_size_eq_zero (by simpa using hl.symm)]
        cases hx : a.tmps[t]? with
        | none => simp
        | some v =>
          simp only [Array.getD_eq_getD_getElem?, hx, Option.getD_some] at hv
          subst hv; rfl
      · cases h
    · rename_i hn
      cases h
      simp [yielded, hn]

def Env.putO (env : Env) (d : Option Tmp) (v : AV) : Env := match d with
  | some t => (t, v) :: env
  | none => env

def okIds (H : Heap) (e : Eff) : Prop := ∀ p ∈ e.wr, p.1 ∈ e.log ∨ H.length ≤ p.1

def dstOK (n : Nat) (o : Oper) : Bool := match o.dst with
  | some d => Nat.blt d n
  | none => true

inductive StepOK (P : Program) (n : Nat) (ops : Array Oper) (o : Oper) (env : Env) (H : Heap) : Eff → Prop
  | run (e : Eff) (hd : dstOK n o = true) (hg : aguard ops o env = some true) (hi : okIds H e) (h : OpEff P o env H e) : StepOK P n ops o env H e
  | skip (hd : dstOK n o = true) (hg : aguard ops o env = some false) : StepOK P n ops o env H ⟨.tup [], [], []⟩

structure Itm where
  o : Oper
  e : Eff
def Itm.env (x : Itm) : List (Nat × AV) := match x.o.dst with
  | some t => [(t, x.e.v)]
  | none => []
def Itm.heap (x : Itm) : List (Nat × Blk) := x.e.wr

inductive AChain (P : Program) (n : Nat) (ops : Array Oper) (opn : Nat → Bool) : Nat → List Oper → Env → Heap → List Itm → Env → Heap → Prop
  | nil (i : Nat) (env : Env) (H : Heap) : AChain P n ops opn i [] env H [] env H
  | cons (i : Nat) (o : Oper) (os : List Oper) (env : Env) (H : Heap) (e : Eff) (its : List Itm) (env' : Env) (H' : Heap) (h : opn i = false → StepOK P n ops o env H e)
      (hr : AChain P n ops opn (i + 1) os (env.putO o.dst e.v) (H.puts e.wr) its env' H') : AChain P n ops opn i (o :: os) env H (⟨o, e⟩ :: its) env' H'

theorem Env.get_putO (env : Env) (o : Oper) (e : Eff) (t : Nat) : (env.putO o.dst e.v).get t = fputs (Itm.env ⟨o, e⟩) env.get t := by
  unfold Env.putO Itm.env
  cases o.dst <;> rfl

/-- the state ahead of a number, as a fold -/
theorem AChain.get {P : Program} {n : Nat} {ops : Array Oper} {opn : Nat → Bool} {i0 : Nat} {os : List Oper} {env : Env} {H : Heap} {its : List Itm} {env' : Env} {H' : Heap} (h : AChain P n ops opn i0 os env H its env' H') :
    (∀ (i m : Nat) (x : Itm), its[m]? = some x → os[m]? = some x.o ∧ ∃ env1 H1, (opn (i0 + m) = false → StepOK P n ops x.o env1 H1 x.e) ∧ (∀ t, env1.get t = sfold (fun k => decide (k < i + m)) Itm.env i its env.get t) ∧
      (∀ b, H1.at b = sfold (fun k => decide (k < i + m)) Itm.heap i its H.at b) ∧ H.length ≤ H1.length ∧ (∀ (k : Nat) (y : Itm), k < m → its[k]? = some y → ∀ p ∈ y.e.wr, p.1 < H1.length)) ∧
    (∀ i t, env'.get t = sfold (fun _ => true) Itm.env i its env.get t) ∧ (∀ i b, H'.at b = sfold (fun _ => true) Itm.heap i its H.at b) ∧ its.length = os.length ∧ H.length ≤ H'.length ∧ (∀ (k : Nat) (y : Itm), its[k]? = some y → ∀ p ∈ y.e.wr, p.1 < H'.length) := by
  induction h with
  | nil i0 env H => exact ⟨fun i m x hx => by simp at hx, fun i t => rfl, fun i b => rfl, rfl, Nat.le_refl _, fun k y hy => by simp at hy⟩
  | cons i0 o os env H e its env' H' hs _ ih =>
    obtain ⟨ih1, ih2, ih3, ih4, ih5, ih6⟩ := ih
    have hlen := Heap.length_puts e.wr H
    refine ⟨fun i m x hx => ?_, fun i t => ?_, fun i b => ?_, by simp [ih4], Nat.le_trans hlen.1 ih5, fun k y hy p hp => ?_⟩
    · cases m with
      | zero =>
        simp at hx; subst hx
        refine ⟨rfl, env, H, hs, fun t => ?_, fun b => ?_, Nat.le_refl _, fun k y hk => by omega⟩
        · exact (sfold_keep _ _ _ _ _ _ (fun k y hy hl => by simp at hl; omega)).symm
        · exact (sfold_keep _ _ _ _ _ _ (fun k y hy hl => by simp at hl; omega)).symm
      | succ m =>
        obtain ⟨h1, env1, H1, h2, h3, h4, h5, h6⟩ := ih1 (i + 1) m x (by simpa using hx)
        refine ⟨by simpa using h1, env1, H1, fun h9 => h2 (by rwa [show i0 + 1 + m = i0 + (m + 1) by omega]), fun t => ?_, fun b => ?_, Nat.le_trans hlen.1 h5, fun k y hk hy p hp => ?_⟩
        · rw [h3 t]
          simp only [sfold, show i + (m + 1) = i + 1 + m by omega, show decide (i < i + 1 + m) = true by simp; omega, cond_true]
          exact sfold_agree _ _ _ _ _ _ _ _ (fun _ _ _ hne => absurd rfl hne) (Env.get_putO env o e t)
        · rw [h4 b]
          simp only [sfold, show i + (m + 1) = i + 1 + m by omega, show decide (i < i + 1 + m) = true by simp; omega, cond_true]
          exact sfold_agree _ _ _ _ _ _ _ _ (fun _ _ _ hne => absurd rfl hne) (Heap.at_puts e.wr H b)
        · cases k with
          | zero => simp at hy; subst hy; exact Nat.lt_of_lt_of_le (hlen.2 p hp) h5
          | succ k => exact h6 k y (by omega) (by simpa using hy) p hp
    · rw [ih2 (i + 1) t]
      simp only [sfold, cond_true]
      exact sfold_agree _ _ _ _ _ _ _ _ (fun _ _ _ hne => absurd rfl hne) (Env.get_putO env o e t)
    · rw [ih3 (i + 1) b]
      simp only [sfold, cond_true]
      exact sfold_agree _ _ _ _ _ _ _ _ (fun _ _ _ hne => absurd rfl hne) (Heap.at_puts e.wr H b)
    · cases k with
      | zero => simp at hy; subst hy; exact Nat.lt_of_lt_of_le (hlen.2 p hp) ih5
      | succ k => exact ih6 k y (by simpa using hy) p hp
theorem AChain.snoc {P : Program} {n : Nat} {ops : Array Oper} {opn : Nat → Bool} {i : Nat} {os : List Oper} {env : Env} {H : Heap} {its : List Itm} {env' : Env} {H' : Heap} (h : AChain P n ops opn i os env H its env' H') {o : Oper} {e : Eff}
    (he : opn (i + os.length) = false → StepOK P n ops o env' H' e) : AChain P n ops opn i (os ++ [o]) env H (its ++ [⟨o, e⟩]) (env'.putO o.dst e.v) (H'.puts e.wr) := by
  induction h with
  | nil i env H => exact .cons i o [] env H e [] _ _ (by simpa using he) (.nil ..)
  | cons i o' os env H e' its env' H' hs _ ih => exact .cons i o' _ env H e' _ _ _ hs (ih fun h9 => he (by rw [List.length_cons, show i + (os.length + 1) = i + 1 + os.length by omega]; exact h9))
theorem AChain.opn {P : Program} {n : Nat} {ops : Array Oper} {opn opn' : Nat → Bool} {i : Nat} {os : List Oper} {env : Env} {H : Heap} {its : List Itm} {env' : Env} {H' : Heap} (h : AChain P n ops opn i os env H its env' H')
    (hh : ∀ k, opn' k = false → opn k = false) : AChain P n ops opn' i os env H its env' H' := by
  induction h with
  | nil i env H => exact .nil ..
  | cons i o' os env H e' its env' H' hs _ ih => exact .cons i o' _ env H e' _ _ _ (fun h9 => hs (hh _ h9)) ih
theorem sfold_snoc {ι α : Type} (L : Nat → Bool) (W : ι → List (Nat × α)) : ∀ (xs : List ι) (x : ι) (i : Nat) (f : Nat → α) (k : Nat),
    sfold L W i (xs ++ [x]) f k = if L (i + xs.length) then fputs (W x) (sfold L W i xs f) k else sfold L W i xs f k
  | [], x, i, f, k => by simp only [List.nil_append, sfold, List.length_nil, Nat.add_zero]; cases L i <;> simp
  | y :: xs, x, i, f, k => by
    simp only [List.cons_append, sfold, List.length_cons]
    rw [sfold_snoc L W xs x (i + 1), show i + 1 + xs.length = i + (xs.length + 1) by omega]
end Go.Av
/- Regions that draw their order: where operations that are not ordered stay apart, every order comes to what the text's order comes to. -/
set_option linter.unusedVariables false
namespace Go.Av
open Go

def maskOf (acc : List Nat) : List Edge → Nat
  | [] => 0
  | e :: es => bif Region.binds .any e then (2 ^ e.on ||| acc.getD e.on 0) ||| maskOf acc es else maskOf acc es
def masks : List Oper → List Nat → List Nat
  | [], acc => acc
  | o :: os, acc => masks os (acc ++ [maskOf acc o.after.toList])

def apartH (x y : Eff) : Bool := x.wr.all (fun p => !(y.log.contains p.1) && y.wr.all (fun q => p.1 != q.1)) && y.wr.all (fun q => !(x.log.contains q.1))
def pairsOK1 (ops : Array Oper) (i : Nat) (x : Itm) : List Itm → List Nat → Bool
  | y :: ys, m :: ms => (m.testBit i || (Oper.apart ops x.o y.o && apartH x.e y.e)) && pairsOK1 ops i x ys ms
  | [], _ => true
  | _ :: _, [] => false
def pairsOK (ops : Array Oper) : Nat → List Itm → List Nat → Bool
  | i, x :: xs, _ :: ms => pairsOK1 ops i x xs ms && pairsOK ops (i + 1) xs ms
  | _, [], _ => true
  | _, _ :: _, [] => false
def topoOK : Nat → List Oper → Bool
  | i, o :: os => o.after.toList.all (fun e => !Region.binds .any e || Nat.blt e.on i) && topoOK (i + 1) os
  | _, [] => true
def orderOK (ops : Array Oper) (its : List Itm) : Bool := topoOK 0 ops.toList && pairsOK ops 0 its (masks ops.toList [])

theorem maskOf_spec (acc : List Nat) : ∀ (es : List Edge) (i : Nat), (maskOf acc es).testBit i = true → ∃ e ∈ es, Region.binds .any e = true ∧ (i = e.on ∨ (acc.getD e.on 0).testBit i = true)
  | [], i, h => by simp [maskOf] at h
  | e :: es, i, h => by
    simp only [maskOf] at h
    cases hb : Region.binds .any e with
    | true =>
      simp only [hb, cond_true, Nat.testBit_or, Bool.or_eq_true, Nat.testBit_two_pow, decide_eq_true_eq] at h
      rcases h with (h | h) | h
      · exact ⟨e, List.mem_cons_self .., hb, .inl h.symm⟩
      · exact ⟨e, List.mem_cons_self .., hb, .inr h⟩
      · obtain ⟨e', he', h'⟩ := maskOf_spec acc es i h
        exact ⟨e', List.mem_cons_of_mem _ he', h'⟩
    | false =>
      simp only [hb, cond_false] at h
      obtain ⟨e', he', h'⟩ := maskOf_spec acc es i h
      exact ⟨e', List.mem_cons_of_mem _ he', h'⟩

theorem masks_closed (L : Nat → Bool) : ∀ (os : List Oper) (acc : List Nat),
    (∀ m o, os[m]? = some o → L (acc.length + m) = true → ∀ e ∈ o.after.toList, Region.binds .any e = true → L e.on = true) →
    (∀ m i, (acc.getD m 0).testBit i = true → L m = true → L i = true) →
    ∀ m i, ((masks os acc).getD m 0).testBit i = true → L m = true → L i = true
  | [], acc, _, h => h
  | o :: os, acc, hc, h => by
    refine masks_closed L os (acc ++ [maskOf acc o.after.toList]) (fun m o' ho' hl => ?_) (fun m i hm hl => ?_)
    · exact hc (m + 1) o' (by simpa using ho') (by rw [show acc.length + (m + 1) = (acc ++ [maskOf acc o.after.toList]).length + m by simp; omega]; exact hl)
    · rcases Nat.lt_trichotomy m acc.length with hlt | heq | hgt
      · rw [List.getD_eq_getElem?_getD, List.getElem?_append_left hlt, ← List.getD_eq_getElem?_getD] at hm
        exact h m i hm hl
      · subst heq
        have : (acc ++ [maskOf acc o.after.toList]).getD acc.length 0 = maskOf acc o.after.toList := by simp
        rw [this] at hm
        obtain ⟨e, he, hb, hi⟩ := maskOf_spec acc _ i hm
        have hle := hc 0 o (by simp) (by simpa using hl) e he hb
        rcases hi with rfl | hi
        · exact hle
        · exact h _ _ hi hle
      · have : (acc ++ [maskOf acc o.after.toList]).getD m 0 = 0 := by
          rw [List.getD_eq_getElem?_getD, List.getElem?_eq_none (by simp; omega)]; rfl
        rw [this] at hm; simp at hm

theorem pairsOK1_spec {ops : Array Oper} {i : Nat} {x : Itm} : ∀ {ys : List Itm} {ms : List Nat}, pairsOK1 ops i x ys ms = true →
    ∀ m y, ys[m]? = some y → (ms.getD m 0).testBit i = true ∨ (Oper.apart ops x.o y.o = true ∧ apartH x.e y.e = true)
  | [], ms, h, m, y, hy => by simp at hy
  | z :: zs, [], h, m, y, hy => by simp [pairsOK1] at h
  | z :: zs, k :: ks, h, m, y, hy => by
    simp only [pairsOK1, Bool.and_eq_true, Bool.or_eq_true] at h
    cases m with
    | zero => simp at hy; subst hy; exact h.1.imp (by simp) id
    | succ m => exact (pairsOK1_spec h.2 m y (by simpa using hy)).imp (by simp) id

theorem pairsOK_spec {ops : Array Oper} : ∀ {xs : List Itm} {ms : List Nat} {i : Nat}, pairsOK ops i xs ms = true →
    ∀ j k x y, j < k → xs[j]? = some x → xs[k]? = some y → (ms.getD k 0).testBit (i + j) = true ∨ (Oper.apart ops x.o y.o = true ∧ apartH x.e y.e = true)
  | [], ms, i, h, j, k, x, y, hjk, hx, hy => by simp at hx
  | z :: zs, [], i, h, j, k, x, y, hjk, hx, hy => by simp [pairsOK] at h
  | z :: zs, c :: cs, i, h, j, k, x, y, hjk, hx, hy => by
    simp only [pairsOK, Bool.and_eq_true] at h
    obtain ⟨k, rfl⟩ : ∃ k', k = k' + 1 := ⟨k - 1, by omega⟩
    cases j with
    | zero => simp at hx; subst hx; exact (pairsOK1_spec h.1 k y (by simpa using hy)).imp (by simp) id
    | succ j =>
      have := pairsOK_spec h.2 j k x y (by omega) (by simpa using hx) (by simpa using hy)
      rw [show i + 1 + j = i + (j + 1) by omega] at this
      exact this.imp (by simp) id

theorem topoOK_spec : ∀ {os : List Oper} {i : Nat}, topoOK i os = true → ∀ m o, os[m]? = some o → ∀ e ∈ o.after.toList, Region.binds .any e = true → e.on < i + m
  | [], i, h, m, o, ho, e, he, hbi => by simp at ho
  | z :: zs, i, h, m, o, ho, e, he, hbi => by
    simp only [topoOK, Bool.and_eq_true] at h
    cases m with
    | zero =>
      simp at ho; subst ho
      have := List.all_eq_true.1 h.1 e he
      simp [hbi, Nat.blt] at this; omega
    | succ m =>
      have := topoOK_spec h.2 m o (by simpa using ho) e he hbi
      omega

theorem apartH_spec {x y : Eff} (h : apartH x y = true) : (∀ p ∈ x.wr, p.1 ∉ y.log ∧ ∀ q ∈ y.wr, p.1 ≠ q.1) ∧ ∀ q ∈ y.wr, q.1 ∉ x.log := by
  simp only [apartH, Bool.and_eq_true, List.all_eq_true, Bool.not_eq_true', bne_iff_ne, ne_eq] at h
  refine ⟨fun p hp => ⟨?_, fun q hq => (h.1 p hp).2 q hq⟩, fun q hq => ?_⟩
  · have := (h.1 p hp).1; simpa using this
  · have := h.2 q hq; simpa using this

/-- two items, whichever stands first -/
def ApartI (ops : Array Oper) (x y : Itm) : Prop :=
  (∀ d, x.o.dst = some d → d ∉ y.o.looksAt ops ∧ y.o.dst ≠ some d) ∧ (∀ p ∈ x.e.wr, p.1 ∉ y.e.log ∧ ∀ q ∈ y.e.wr, p.1 ≠ q.1)

theorem apartI_of {ops : Array Oper} {x y : Itm} (h1 : Oper.apart ops x.o y.o = true) (h2 : apartH x.e y.e = true) : ApartI ops x y ∧ ApartI ops y x := by
  obtain ⟨a1, a2, a3⟩ := Oper.apart_spec h1
  obtain ⟨b1, b2⟩ := apartH_spec h2
  exact ⟨⟨fun d hd => ⟨a1 d hd, a2 d hd⟩, b1⟩, ⟨fun d hd => ⟨a3 d hd, fun hx => a2 d hx hd⟩, fun q hq => ⟨b2 q hq, fun p hp he => (b1 p hp).2 q hq he.symm⟩⟩⟩

structure DInv (n : Nat) (its : List Itm) (env0 : Env) (H0 : Heap) (C0 : Ctx) (L : Nat → Bool) (C : Ctx) (a : Act) (H2 : Heap) : Prop where
  size : a.tmps.size = n
  defers : a.defers = []
  envs : EnvAll C (sfold L Itm.env 0 its env0.get) a
  hrel : HRel C H2
  heap : ∀ b, H2.at b = sfold L Itm.heap 0 its H0.at b
  fresh : ∀ b, H0.length ≤ b → (∀ m x, its[m]? = some x → L m = true → ∀ p ∈ x.e.wr, p.1 ≠ b) → Fresh C b
  ext : StepExt C0 C
  frame : Frame' C0 H0 C H2

theorem put_getD {a : Act} {d : Option Tmp} {v : Value} {n t : Nat} (hs : a.tmps.size = n) (hd : ∀ k, d = some k → k < n) :
    (a.put d v).tmps.getD t undef = if d = some t then v else a.tmps.getD t undef := by
  cases d with
  | none => simp [Act.put]
  | some k =>
    have hk := hd k rfl
    by_cases hkt : k = t
    · subst hkt
      simp [Act.put, Array.getD_eq_getD_getElem?, hs, hk]
    · simp [Act.put, Array.getD_eq_getD_getElem?, Array.getElem?_setIfInBounds_ne hkt, hkt]

theorem put_size {a : Act} {d : Option Tmp} {v : Value} : (a.put d v).tmps.size = a.tmps.size := by cases d <;> simp [Act.put]
theorem put_defers' {a : Act} {d : Option Tmp} {v : Value} : (a.put d v).defers = a.defers := by cases d <;> simp [Act.put]
theorem dstOK_spec {n : Nat} {o : Oper} (h : dstOK n o = true) : ∀ k, o.dst = some k → k < n := by
  intro k hk
  simp only [dstOK, hk, Nat.blt] at h
  exact Nat.le_of_ble_eq_true h

def PairOK (ops : Array Oper) (its : List Itm) : Prop := ∀ j k x y, j < k → its[j]? = some x → its[k]? = some y → ((masks ops.toList []).getD k 0).testBit j = true ∨ (Oper.apart ops x.o y.o = true ∧ apartH x.e y.e = true)
theorem PairOK.of {ops : Array Oper} {its : List Itm} (h : orderOK ops its = true) : PairOK ops its := fun j k x y hjk hx hy => by
  simp only [orderOK, Bool.and_eq_true] at h
  have := pairsOK_spec h.2 j k x y hjk hx hy
  rwa [Nat.zero_add] at this
theorem PairOK.pre {ops : Array Oper} {its : List Itm} {z : List Itm} (h : PairOK ops (its ++ z)) : PairOK ops its := fun j k x y hjk hx hy =>
  h j k x y hjk (by rw [List.getElem?_append_left (List.getElem?_eq_some_iff.1 hx).1]; exact hx) (by rw [List.getElem?_append_left (List.getElem?_eq_some_iff.1 hy).1]; exact hy)

theorem dinv_step {P : Program} {n : Nat} {ops : Array Oper} {opn : Nat → Bool} {kk : Nat} {its : List Itm} {env0 envF : Env} {H0 HF : Heap} {C0 : Ctx} (hch : AChain P n ops opn 0 (ops.toList.take kk) env0 H0 its envF HF)
    (hpair : PairOK ops its) {L L' : Nat → Bool} {j : Nat} {o : Oper} (ho : ops[j]? = some o) (hjk : j < kk) (hopn : opn j = false) (hLj : L j = false) (hL' : ∀ m, L' m = (L m || m == j))
    (hcl : ∀ m o', L m = true → ops[m]? = some o' → ∀ e ∈ o'.after, Region.binds .any e = true → L e.on = true)
    (hrj : ∀ e ∈ o.after, Region.binds .any e = true → L e.on = true)
    {C : Ctx} {a : Act} {H2 : Heap} (hD : DInv n its env0 H0 C0 L C a H2) {K : Act → World → Prop} {Q : Exit → Act → World → Prop}
    (hK : ∀ C' a' H2', DInv n its env0 H0 C0 L' C' a' H2' → K a' C'.w) : wpOp P ops Q j K a C.w := by
  obtain ⟨g1, _, _, glen, _, _⟩ := hch.get
  have hjlt : j < its.length := by
    rw [glen, List.length_take]
    have := (Array.getElem?_eq_some_iff.1 ho).1
    simp; omega
  obtain ⟨x, hx⟩ : ∃ x, its[j]? = some x := ⟨_, List.getElem?_eq_getElem hjlt⟩
  obtain ⟨hxo, env1, H1, hstep, henv1, hH1, hlen1, hwr1⟩ := g1 0 j x hx
  have hstep := hstep (by rw [Nat.zero_add]; exact hopn)
  have hxo' : x.o = o := by
    have h9 : ops.toList[j]? = some o := by simpa using ho
    rw [List.getElem?_take_of_lt hjk, h9] at hxo; exact (Option.some.inj hxo).symm
  simp only [Nat.zero_add] at henv1 hH1
  -- who is not ordered stays apart
  have hmask := masks_closed L ops.toList [] (fun m o' ho' hl e he hb => by
    simp only [List.length_nil, Nat.zero_add] at hl
    exact hcl m o' hl (by simpa using ho') e (by simpa using he) hb) (fun m i hm => by simp at hm)
  have hmask' := masks_closed L' ops.toList [] (fun m o' ho' hl e he hb => by
    simp only [List.length_nil, Nat.zero_add] at hl
    rw [hL'] at hl ⊢
    rcases (Bool.or_eq_true _ _).mp hl with h | h
    · rw [hcl m o' h (by simpa using ho') e (by simpa using he) hb]; rfl
    · have : m = j := by simpa using h
      subst this
      have h9 : ops.toList[m]? = some o := by simpa using ho
      rw [h9] at ho'; cases ho'
      rw [hrj e (by simpa using he) hb]; rfl) (fun m i hm => by simp at hm)
  have hap : ∀ i y, its[i]? = some y → i ≠ j → L i ≠ decide (i < j) → ApartI ops y x ∧ ApartI ops x y := fun i y hy hij hne => by
    rcases Nat.lt_or_ge i j with hlt | hge
    · have hLi : L i = false := by cases h : L i <;> simp [h, hlt] at hne ⊢
      rcases hpair i j y x hlt hy hx with h1 | ⟨h1, h2⟩
      · have := hmask' j i h1 (by rw [hL']; simp)
        rw [hL', hLi] at this
        have : i = j := by simpa using this
        exact absurd this hij
      · exact apartI_of h1 h2
    · have hgt : j < i := by omega
      have hLi : L i = true := by
        have h9 : decide (i < j) = false := by simpa using hge
        rw [h9] at hne; cases h : L i <;> simp [h] at hne ⊢
      rcases hpair j i x y hgt hx hy with h1 | ⟨h1, h2⟩
      · have := hmask i j h1 hLi
        rw [hLj] at this; cases this
      · exact (apartI_of h1 h2).symm
  -- what is read is as in the text's order
  have hread : ∀ t, t ∈ o.looksAt ops → sfold L Itm.env 0 its env0.get t = env1.get t := fun t ht => by
    rw [henv1 t]
    refine sfold_agree _ _ _ _ _ _ _ _ (fun m y hy hne p hp => ?_) rfl
    simp only [Nat.zero_add] at hne
    by_cases hmj : m = j
    · subst hmj; rw [hLj] at hne; simp at hne
    · obtain ⟨h1, _⟩ := hap m y hy hmj hne
      unfold Itm.env at hp
      cases hd : y.o.dst with
      | none => rw [hd] at hp; cases hp
      | some d =>
        rw [hd] at hp
        have : p = (d, y.e.v) := by simpa using hp
        subst this
        intro he
        have h3 := (h1.1 d hd).1
        rw [hxo'] at h3
        exact h3 (by rw [show d = t from he]; exact ht)
  have hlog : ∀ b ∈ x.e.log, H2.at b = H1.at b := fun b hb => by
    rw [hD.heap b, hH1 b]
    refine sfold_agree _ _ _ _ _ _ _ _ (fun m y hy hne p hp => ?_) rfl
    simp only [Nat.zero_add] at hne
    by_cases hmj : m = j
    · subst hmj; rw [hLj] at hne; simp at hne
    · obtain ⟨h1, _⟩ := hap m y hy hmj hne
      intro he
      exact (h1.2 p hp).1 (he ▸ hb)
  -- the state behind
  have henvs : ∀ C' : Ctx, StepExt C C' → ∀ v', VRel C' x.e.v v' → (∀ k, o.dst = some k → k < n) → EnvAll C' (sfold L' Itm.env 0 its env0.get) (a.put o.dst v') := by
    intro C' hs v' hv hd t
    rw [sfold_add L L' Itm.env j x hLj hL' its 0 env0.get t (Nat.zero_le _) (by simpa using hx) (fun m y hy hlt hl p hp q hq => by
      simp only [Nat.zero_add] at hlt hl
      obtain ⟨h1, _⟩ := hap m y hy (by omega) (by rw [hl]; simp; omega)
      unfold Itm.env at hp hq
      cases hdy : y.o.dst with
      | none => rw [hdy] at hp; cases hp
      | some d =>
        cases hdx : x.o.dst with
        | none => rw [hdx] at hq; cases hq
        | some d' =>
          rw [hdy] at hp; rw [hdx] at hq
          have e1 : p = (d, y.e.v) := by simpa using hp
          have e2 : q = (d', x.e.v) := by simpa using hq
          subst e1; subst e2
          intro he
          exact (h1.1 d hdy).2 (by rw [hdx]; exact congrArg some he.symm))]
    rw [put_getD hD.size hd]
    rw [show Itm.env x = (match x.o.dst with | some t => [(t, x.e.v)] | none => []) from rfl]
    rw [hxo']
    cases hdo : o.dst with
    | none => simp only [fputs]; simpa using (hD.envs t).mono hs
    | some d =>
      simp only [fputs]
      by_cases hdt : d = t
      · subst hdt; simpa using hv
      · have : (d == t) = false := by simpa using hdt
        simpa [this, hdt] using (hD.envs t).mono hs
  have hheap : ∀ b, (H2.puts x.e.wr).at b = sfold L' Itm.heap 0 its H0.at b := fun b => by
    rw [sfold_add L L' Itm.heap j x hLj hL' its 0 H0.at b (Nat.zero_le _) (by simpa using hx) (fun m y hy hlt hl p hp q hq => by
      simp only [Nat.zero_add] at hlt hl
      obtain ⟨h1, _⟩ := hap m y hy (by omega) (by rw [hl]; simp; omega)
      exact (h1.2 p hp).2 q hq), Heap.at_puts]
    exact fputs_congr _ _ _ _ (hD.heap b)
  have hfresh : ∀ C' : Ctx, (∀ b, (∀ p ∈ x.e.wr, p.1 ≠ b) → Fresh C b → Fresh C' b) → ∀ b, H0.length ≤ b →
      (∀ m y, its[m]? = some y → L' m = true → ∀ p ∈ y.e.wr, p.1 ≠ b) → Fresh C' b := fun C' hu b hb hno => by
    have h1 := hD.fresh b hb (fun m y hy hl => hno m y hy (by rw [hL', hl]; rfl))
    exact hu b (hno j x hx (by rw [hL']; simp)) h1
  unfold wpOp
  simp only [ho]
  have hgd : ∀ b, aguard ops o env1 = some b → Region.wanted o (yielded ops a.tmps) = b := fun b hb => by
    refine aguard_wanted (C := C) hb fun g w t hg ht => ?_
    rw [← hread t (by unfold Oper.looksAt; rw [hg]; simp [ht])]
    exact hD.envs t
  rw [hxo'] at hstep
  generalize hxe : x.e = xe at *
  rcases hstep with ⟨_, hd, hg, hi, h⟩ | ⟨hd, hg⟩
  · have hd := dstOK_spec hd
    rw [hgd true hg]
    simp only [if_true]
    refine .inl (h C a H2 (fun t ht => ?_) hD.hrel hlog (fun p hp => ?_) _ Q (fun v' C' hv hH' hs hf hu => ?_))
    · rw [← hread t (by unfold Oper.looksAt; exact List.mem_append_left _ (List.mem_filterMap.2 ⟨.tmp t, ht, rfl⟩))]
      exact hD.envs t
    · by_cases hpl : p.1 ∈ xe.log
      · exact .inl hpl
      · have hge := (hi p hp).resolve_left hpl
        have hno : ∀ m y, its[m]? = some y → L m = true → ∀ q ∈ y.e.wr, q.1 ≠ p.1 := fun m y hy hl q hq he => by
          by_cases hmj : m = j
          · subst hmj; rw [hLj] at hl; cases hl
          · rcases Nat.lt_or_ge m j with hlt | hgt
            · have := hwr1 m y hlt hy q hq
              omega
            · obtain ⟨h1, _⟩ := hap m y hy hmj (by rw [hl]; simp; omega)
              exact (h1.2 q hq).2 p (hxe ▸ hp) he
        refine .inr ⟨?_, hD.fresh p.1 (by omega) hno⟩
        rw [hD.heap, sfold_keep L Itm.heap its 0 _ _ (fun m y hy hl => hno m y hy (by simpa using hl))]
        unfold Heap.at
        rw [List.getD_eq_getElem?_getD, List.getElem?_eq_none (by omega)]; rfl
    · refine hK C' _ (H2.puts xe.wr) ⟨put_size.trans hD.size, put_defers'.trans hD.defers, henvs C' hs v' hv hd, hH', hheap, hfresh C' hu, hD.ext.trans hs, hD.frame.trans hf⟩
  · have hd := dstOK_spec hd
    rw [hgd false hg]
    simp only [Bool.false_eq_true, if_false]
    have hv : VRel C (.tup []) undef := .fro _ _ (.tup [] #[] rfl fun i hi => by simp at hi)
    refine hK C _ H2 ⟨put_size.trans hD.size, put_defers'.trans hD.defers, henvs C (.refl C) undef hv hd, hD.hrel, fun b => ?_, hfresh C (fun _ _ h => h), hD.ext, hD.frame⟩
    rw [← hheap b]; rfl

theorem draw_sound {P : Program} {n : Nat} {ops : Array Oper} {opn : Nat → Bool} {its : List Itm} {env0 envF : Env} {H0 HF : Heap} {C0 : Ctx} (hch : AChain P n ops opn 0 ops.toList env0 H0 its envF HF)
    (hord : orderOK ops its = true) {Q : Exit → Act → World → Prop} (hQ : ∀ C a H2, DInv n its env0 H0 C0 (fun _ => true) C a H2 → Q .normal a C.w) :
    ∀ (fuel : Nat) (listed : Array Bool) (C : Ctx) (a : Act) (H2 : Heap), listed.size = ops.size → listed.toList.count false ≤ fuel → (∀ m, opn m = true → listed.getD m false = true) →
      (∀ m o', listed.getD m false = true → ops[m]? = some o' → ∀ e ∈ o'.after, Region.binds .any e = true → listed.getD e.on false = true) →
      DInv n its env0 H0 C0 (fun m => listed.getD m false) C a H2 → wpAny P .any ops Q fuel listed a C.w := by
  obtain ⟨_, _, _, glen, _, _⟩ := hch.get
  have htopo : ∀ (m : Nat) (o : Oper), ops[m]? = some o → ∀ e ∈ o.after, Region.binds .any e = true → e.on < m := fun m o ho e he hbi => by
    simp only [orderOK, Bool.and_eq_true] at hord
    have := topoOK_spec hord.1 m o (by simpa using ho) e (by simpa using he) hbi
    omega
  -- nothing is ready: all are listed
  have hall : ∀ listed : Array Bool, listed.size = ops.size → Region.ready .any ops listed = [] → ∀ m, m < ops.size → listed.getD m false = true := fun listed hsz hr => by
    intro m
    induction m using Nat.strongRecOn with
    | _ m ih =>
      intro hm
      by_cases hl : listed.getD m false = true
      · exact hl
      · exfalso
        obtain ⟨o, ho⟩ : ∃ o, ops[m]? = some o := ⟨_, Array.getElem?_eq_getElem hm⟩
        have : m ∈ Region.ready .any ops listed := mem_ready.2 ⟨by
          have hlt : m < listed.size := by omega
          simp only [Array.getD_eq_getD_getElem?, Array.getElem?_eq_getElem hlt, Option.getD_some] at hl ⊢
          simpa using hl, o, ho, fun e he hbi => ih e.on (htopo m o ho e he hbi) (by have := htopo m o ho e he hbi; omega)⟩
        rw [hr] at this; cases this
  have hdone : ∀ (listed : Array Bool) (C : Ctx) (a : Act) (H2 : Heap), listed.size = ops.size → (∀ m, m < ops.size → listed.getD m false = true) →
      DInv n its env0 H0 C0 (fun m => listed.getD m false) C a H2 → Q .normal a C.w := fun listed C a H2 hsz hl hD => by
    have hag : ∀ {α : Type} (W : Itm → List (Nat × α)) (f : Nat → α) (k : Nat), sfold (fun m => listed.getD m false) W 0 its f k = sfold (fun _ => true) W 0 its f k := fun W f k =>
      sfold_agree _ _ _ _ _ _ _ _ (fun m y hy hne => by
        refine absurd ?_ hne
        have : m < its.length := (List.getElem?_eq_some_iff.1 hy).1
        rw [Nat.zero_add]; exact hl m (by rw [glen] at this; simpa using this)) rfl
    refine hQ C a H2 ⟨hD.size, hD.defers, fun t => ?_, hD.hrel, fun b => ?_, fun b hb hno => hD.fresh b hb fun m y hy _ => hno m y hy rfl, hD.ext, hD.frame⟩
    · rw [← hag]; exact hD.envs t
    · rw [← hag]; exact hD.heap b
  intro fuel
  induction fuel with
  | zero =>
    intro listed C a H2 hsz hc hop hcl hD
    have h0 : listed.toList.count false = 0 := by omega
    have hl : ∀ m, m < ops.size → listed.getD m false = true := fun m hm => by
      have hlt : m < listed.size := by omega
      have h1 := List.count_eq_zero.1 h0
      simp only [Array.getD_eq_getD_getElem?, Array.getElem?_eq_getElem hlt, Option.getD_some]
      cases h2 : listed[m] with
      | true => rfl
      | false => exact absurd (by rw [← h2]; simp) h1
    refine ⟨?_, hdone listed C a H2 hsz hl hD⟩
    cases hr : Region.ready .any ops listed with
    | nil => rfl
    | cons i is =>
      have : i ∈ Region.ready .any ops listed := by rw [hr]; exact List.mem_cons_self ..
      obtain ⟨h1, o, ho, _⟩ := mem_ready.1 this
      have h2 := hl i (Array.getElem?_eq_some_iff.1 ho).1
      have hlt : i < listed.size := by rw [hsz]; exact (Array.getElem?_eq_some_iff.1 ho).1
      simp only [Array.getD_eq_getD_getElem?, Array.getElem?_eq_getElem hlt, Option.getD_some] at h1 h2
      rw [h1] at h2; cases h2
  | succ fuel ih =>
    intro listed C a H2 hsz hc hop hcl hD
    refine ⟨fun hr => hdone listed C a H2 hsz (hall listed hsz hr) hD, fun i hi => ?_⟩
    obtain ⟨h1, o, ho, hrj⟩ := mem_ready.1 hi
    have hlt : i < listed.size := by rw [hsz]; exact (Array.getElem?_eq_some_iff.1 ho).1
    have h1' : listed.getD i false = false := by
      simp only [Array.getD_eq_getD_getElem?, Array.getElem?_eq_getElem hlt, Option.getD_some] at h1 ⊢; exact h1
    have hset : ∀ m, (listed.setIfInBounds i true).getD m false = (listed.getD m false || m == i) := fun m => by
      by_cases hmi : i = m
      · subst hmi; simp [Array.getD_eq_getD_getElem?, hlt]
      · rw [getD_set_ne false hmi]
        have : (m == i) = false := by simp; omega
        rw [this, Bool.or_false]
    refine dinv_step (L := fun m => listed.getD m false) (L' := fun m => (listed.setIfInBounds i true).getD m false) (kk := ops.size) (by rw [List.take_of_length_le (by simp)]; exact hch) (PairOK.of hord) ho (Array.getElem?_eq_some_iff.1 ho).1 (by cases h9 : opn i with | false => rfl | true => rw [hop i h9] at h1'; cases h1') h1' hset hcl hrj hD (fun C' a' H2' hD' => ?_)
    refine ih _ C' a' H2' (by simpa using hsz) ?_ (fun m hm => by rw [hset, hop m hm]; rfl) ?_ hD'
    · have hf : listed.toList[i] = false := by
        simp only [Array.getD_eq_getD_getElem?, Array.getElem?_eq_getElem hlt, Option.getD_some] at h1'; simpa using h1'
      have := List.count_set (a := true) (b := false) (l := listed.toList) (i := i) (by simpa using hlt)
      have hpos : 0 < listed.toList.count false := List.count_pos_iff.2 (by rw [← hf]; exact List.getElem_mem _)
      rw [Array.toList_setIfInBounds, this]
      simp only [hf, beq_self_eq_true, if_true, Bool.true_eq_false, beq_iff_eq, if_false] at *
      omega
    · intro m o' hm ho' e he hb
      rw [hset] at hm ⊢
      rcases (Bool.or_eq_true _ _).mp hm with h | h
      · rw [hcl m o' h ho' e he hb]; rfl
      · have : m = i := by simpa using h
        subst this
        rw [ho] at ho'; cases ho'
        rw [hrj e he hb]; rfl
end Go.Av
/- Regions that draw their order, where the outcome of some operations is left open. -/
set_option linter.unusedVariables false
namespace Go.Av
open Go

/-- all that stand behind wait for it -/
def aftOK (ops : Array Oper) (k : Nat) : Bool := ((masks ops.toList []).drop (k + 1)).all fun m => m.testBit k

def OpenEff (P : Program) (o : Oper) (env : Env) (H : Heap) (log : List Nat) (F : Eff → Prop) : Prop :=
  ∀ (C : Ctx) (a : Act) (H2 : Heap), EnvOK C env a o.op.operands.toList → HRel C H2 → (∀ b ∈ log, H2.at b = H.at b) → (∀ b, H.length ≤ b → H2.at b = .dead ∧ Fresh C b) →
    ∀ (next : Act → World → Prop) (Q : Exit → Act → World → Prop),
      (∀ e v' C', F e → VRel C' e.v v' → HRel C' (H2.puts e.wr) → StepExt C C' → Frame' C H2 C' (H2.puts e.wr) →
        (∀ b, (∀ p ∈ e.wr, p.1 ≠ b) → Fresh C b → Fresh C' b) → next (a.put o.dst v') C'.w) → o.wp P a C.w next Q

def OpenOK (P : Program) (n : Nat) (ops : Array Oper) (o : Oper) (acc : List Itm) (env : Env) (H : Heap) (K : Eff → Prop) : Prop :=
  dstOK n o = true ∧ aguard ops o env = some true ∧ aftOK ops acc.length = true ∧
    ∃ (log : List Nat) (F : Eff → Prop), orderOK ops ((⟨o, ⟨.junk, [], log⟩⟩ :: acc : List Itm).reverse) = true ∧ OpenEff P o env H log F ∧ ∀ e, F e → K e

def AReg (P : Program) (n : Nat) (ops : Array Oper) (draw : Bool) (Q : Env → Heap → Prop) : List Oper → List Itm → Env → Heap → Prop
  | [], acc, env, H => (draw = true → orderOK ops acc.reverse = true) ∧ Q env H
  | o :: os, acc, env, H => (∃ e, StepOK P n ops o env H e ∧ AReg P n ops draw Q os (⟨o, e⟩ :: acc) (env.putO o.dst e.v) (H.puts e.wr)) ∨
    OpenOK P n ops o acc env H fun e => AReg P n ops draw Q os (⟨o, e⟩ :: acc) (env.putO o.dst e.v) (H.puts e.wr)

theorem masks_length : ∀ (os : List Oper) (acc : List Nat), (masks os acc).length = acc.length + os.length
  | [], acc => by simp [masks]
  | o :: os, acc => by simp only [masks]; rw [masks_length os]; simp; omega
theorem aftOK_spec {ops : Array Oper} {k : Nat} (h : aftOK ops k = true) {i : Nat} (hi : k < i) (hs : i < ops.size) : ((masks ops.toList []).getD i 0).testBit k = true := by
  simp only [aftOK, List.all_eq_true] at h
  have hl : i < (masks ops.toList []).length := by rw [masks_length]; simpa using hs
  refine h _ ?_
  rw [List.getD_eq_getElem?_getD, List.getElem?_eq_getElem hl]
  refine List.mem_iff_getElem?.2 ⟨i - (k + 1), ?_⟩
  rw [List.getElem?_drop, show k + 1 + (i - (k + 1)) = i by omega, List.getElem?_eq_getElem hl]; rfl

theorem fputs_some {α : Type} : ∀ (ws : List (Nat × α)) (f g : Nat → α) (k : Nat), f k = g k → fputs ws f k = fputs ws g k := fputs_congr

theorem sfold_snoc_keep {ι α : Type} (L : Nat → Bool) (W : ι → List (Nat × α)) (xs : List ι) (x : ι) (h : L xs.length = false) (f : Nat → α) : sfold L W 0 (xs ++ [x]) f = sfold L W 0 xs f := by
  funext k
  rw [sfold_snoc, Nat.zero_add, h]; rfl

theorem DInv.snoc {n : Nat} {its : List Itm} {env0 : Env} {H0 : Heap} {C0 : Ctx} {L : Nat → Bool} {C : Ctx} {a : Act} {H2 : Heap} (h : DInv n its env0 H0 C0 L C a H2) (x : Itm) (hL : L its.length = false) : DInv n (its ++ [x]) env0 H0 C0 L C a H2 where
  size := h.size
  defers := h.defers
  envs := by rw [sfold_snoc_keep L Itm.env its x hL]; exact h.envs
  hrel := h.hrel
  heap := by rw [sfold_snoc_keep L Itm.heap its x hL]; exact h.heap
  fresh := fun b hb hno => h.fresh b hb fun m y hy hl => hno m y (by rw [List.getElem?_append_left (List.getElem?_eq_some_iff.1 hy).1]; exact hy) hl
  ext := h.ext
  frame := h.frame

theorem dinv_open {P : Program} {n : Nat} {ops : Array Oper} {opn : Nat → Bool} {kk : Nat} {its : List Itm} {env0 envF : Env} {H0 HF : Heap} {C0 : Ctx} (hch : AChain P n ops opn 0 (ops.toList.take kk) env0 H0 its envF HF)
    {o : Oper} {log : List Nat} {F : Eff → Prop} (hpair : PairOK ops (its ++ [⟨o, ⟨.junk, [], log⟩⟩])) {L L' : Nat → Bool} (ho : ops[kk]? = some o) (hLk : ∀ m, kk ≤ m → L m = false) (hL' : ∀ m, L' m = (L m || m == kk))
    (hcl : ∀ m o', L m = true → ops[m]? = some o' → ∀ e ∈ o'.after, Region.binds .any e = true → L e.on = true)
    (hrj : ∀ e ∈ o.after, Region.binds .any e = true → L e.on = true) (hdst : dstOK n o = true) (hg : aguard ops o envF = some true) (hopen : OpenEff P o envF HF log F)
    {C : Ctx} {a : Act} {H2 : Heap} (hD : DInv n its env0 H0 C0 L C a H2) {K : Act → World → Prop} {Q : Exit → Act → World → Prop}
    (hK : ∀ e, F e → ∀ C' a' H2', DInv n (its ++ [⟨o, e⟩]) env0 H0 C0 L' C' a' H2' → K a' C'.w) : wpOp P ops Q kk K a C.w := by
  obtain ⟨g1, g2, g3, glen, glen2, gwr⟩ := hch.get
  have hil : its.length = kk := by
    rw [glen, List.length_take]
    have := (Array.getElem?_eq_some_iff.1 ho).1
    simp; omega
  have hd := dstOK_spec hdst
  have hmask' := masks_closed L' ops.toList [] (fun m o' ho' hl e he hb => by
    simp only [List.length_nil, Nat.zero_add] at hl
    rw [hL'] at hl ⊢
    rcases (Bool.or_eq_true _ _).mp hl with h | h
    · rw [hcl m o' h (by simpa using ho') e (by simpa using he) hb]; rfl
    · have : m = kk := by simpa using h
      subst this
      have h9 : ops.toList[m]? = some o := by simpa using ho
      rw [h9] at ho'; cases ho'
      rw [hrj e (by simpa using he) hb]; rfl) (fun m i hm => by simp at hm)
  have hlt : ∀ {m y}, its[m]? = some y → m < kk := fun hy => by rw [← hil]; exact (List.getElem?_eq_some_iff.1 hy).1
  have hap : ∀ i y, its[i]? = some y → L i = false → ApartI ops y ⟨o, ⟨.junk, [], log⟩⟩ ∧ ApartI ops ⟨o, ⟨.junk, [], log⟩⟩ y := fun i y hy hLi => by
    rcases hpair i kk y ⟨o, ⟨.junk, [], log⟩⟩ (hlt hy) (by rw [List.getElem?_append_left (List.getElem?_eq_some_iff.1 hy).1]; exact hy) (by rw [← hil]; simp) with h1 | ⟨h1, h2⟩
    · have := hmask' kk i h1 (by rw [hL']; simp)
      rw [hL', hLi] at this
      have h3 : i = kk := by simpa using this
      have := hlt hy
      omega
    · exact apartI_of h1 h2
  have hread : ∀ t, t ∈ o.looksAt ops → sfold L Itm.env 0 its env0.get t = envF.get t := fun t ht => by
    rw [g2 0 t]
    refine sfold_agree _ _ _ _ _ _ _ _ (fun m y hy hne p hp => ?_) rfl
    simp only [Nat.zero_add] at hne
    obtain ⟨h1, _⟩ := hap m y hy (by cases h : L m <;> simp [h] at hne ⊢)
    unfold Itm.env at hp
    cases hd' : y.o.dst with
    | none => rw [hd'] at hp; cases hp
    | some d =>
      rw [hd'] at hp
      have : p = (d, y.e.v) := by simpa using hp
      subst this
      intro he
      exact (h1.1 d hd').1 (by rw [show d = t from he]; exact ht)
  have hlog : ∀ b ∈ log, H2.at b = HF.at b := fun b hb => by
    rw [hD.heap b, g3 0 b]
    refine sfold_agree _ _ _ _ _ _ _ _ (fun m y hy hne p hp => ?_) rfl
    simp only [Nat.zero_add] at hne
    obtain ⟨h1, _⟩ := hap m y hy (by cases h : L m <;> simp [h] at hne ⊢)
    intro he
    exact (h1.2 p hp).1 (he ▸ hb)
  unfold wpOp
  simp only [ho]
  have hgd : Region.wanted o (yielded ops a.tmps) = true := by
    refine aguard_wanted (C := C) hg fun g w t hg ht => ?_
    rw [← hread t (by unfold Oper.looksAt; rw [hg]; simp [ht])]
    exact hD.envs t
  rw [hgd]
  simp only [if_true]
  refine .inl (hopen C a H2 (fun t ht => ?_) hD.hrel hlog (fun b hb => ?_) _ Q (fun e v' C' hF hv hH' hs hf hu => ?_))
  · rw [← hread t (by unfold Oper.looksAt; exact List.mem_append_left _ (List.mem_filterMap.2 ⟨.tmp t, ht, rfl⟩))]
    exact hD.envs t
  · have hno : ∀ (m : Nat) (y : Itm), its[m]? = some y → ∀ q ∈ y.e.wr, q.1 ≠ b := fun m y hy q hq he => by
      have := gwr m y hy q hq
      omega
    refine ⟨?_, hD.fresh b (by omega) fun m y hy _ => hno m y hy⟩
    rw [hD.heap, sfold_keep L Itm.heap its 0 _ _ (fun m y hy hl => hno m y hy)]
    unfold Heap.at
    rw [List.getD_eq_getElem?_getD, List.getElem?_eq_none (by omega)]; rfl
  · have hLk' : L' its.length = true := by rw [hL', hil]; simp
    have hsame : ∀ {α : Type} (W : Itm → List (Nat × α)) (f : Nat → α) (k : Nat), sfold L' W 0 its f k = sfold L W 0 its f k := fun W f k =>
      sfold_agree _ _ _ _ _ _ _ _ (fun m y hy hne => by
        have := hlt hy
        rw [Nat.zero_add, hL'] at hne
        have h9 : (m == kk) = false := by simp; omega
        rw [h9, Bool.or_false] at hne
        exact absurd rfl hne) rfl
    refine hK e hF C' _ (H2.puts e.wr) ⟨put_size.trans hD.size, put_defers'.trans hD.defers, fun t => ?_, hH', fun b => ?_, fun b hb hno => ?_, hD.ext.trans hs, hD.frame.trans hf⟩
    · rw [sfold_snoc, Nat.zero_add, hLk', if_pos rfl, put_getD hD.size hd]
      rw [show Itm.env ⟨o, e⟩ = (match o.dst with | some t => [(t, e.v)] | none => []) from rfl]
      cases hdo : o.dst with
      | none =>
        simp only [fputs]
        rw [hsame]; simpa using (hD.envs t).mono hs
      | some d =>
        simp only [fputs]
        by_cases hdt : d = t
        · subst hdt; simpa using hv
        · have : (d == t) = false := by simpa using hdt
          rw [this, cond_false, hsame]
          simpa [hdt] using (hD.envs t).mono hs
    · rw [sfold_snoc, Nat.zero_add, hLk', if_pos rfl, Heap.at_puts]
      exact fputs_congr _ _ _ _ (by rw [hsame]; exact hD.heap b)
    · refine hu b (fun p hp => hno its.length ⟨o, e⟩ (by simp) hLk' p hp) (hD.fresh b hb fun m y hy hl => ?_)
      exact hno m y (by rw [List.getElem?_append_left (List.getElem?_eq_some_iff.1 hy).1]; exact hy) (by rw [hL', hl]; rfl)

/-- goes on through what is not left open -/
theorem areg_advance {P : Program} {n : Nat} {ops : Array Oper} {Q : Env → Heap → Prop} {opn : Nat → Bool} {env0 : Env} {H0 : Heap} {C0 : Ctx} {L : Nat → Bool} {C : Ctx} {a : Act} {H2 : Heap} :
    ∀ (os : List Oper) (acc : List Itm) (env : Env) (H : Heap), AReg P n ops true Q os acc env H → os = ops.toList.drop acc.length → AChain P n ops opn 0 (ops.toList.take acc.length) env0 H0 acc.reverse env H →
      (∀ m, acc.length ≤ m → L m = false) → DInv n acc.reverse env0 H0 C0 L C a H2 →
      ∃ (os' : List Oper) (acc' : List Itm) (env' : Env) (H' : Heap), acc.length ≤ acc'.length ∧ os' = ops.toList.drop acc'.length ∧ AChain P n ops opn 0 (ops.toList.take acc'.length) env0 H0 acc'.reverse env' H' ∧
        DInv n acc'.reverse env0 H0 C0 L C a H2 ∧ ((os' = [] ∧ orderOK ops acc'.reverse = true ∧ Q env' H') ∨
          ∃ o os'', os' = o :: os'' ∧ OpenOK P n ops o acc' env' H' fun e => AReg P n ops true Q os'' (⟨o, e⟩ :: acc') (env'.putO o.dst e.v) (H'.puts e.wr))
  | [], acc, env, H, h, hos, hch, hL, hD => ⟨[], acc, env, H, Nat.le_refl _, hos, hch, hD, .inl ⟨rfl, h.1 rfl, h.2⟩⟩
  | o :: os, acc, env, H, h, hos, hch, hL, hD => by
    rcases h with ⟨e, hst, hk⟩ | hop
    · have hlt : acc.length < ops.toList.length := by
        rcases Nat.lt_or_ge acc.length ops.toList.length with h | h
        · exact h
        · rw [List.drop_eq_nil_of_le h] at hos; cases hos
      rw [List.drop_eq_getElem_cons hlt] at hos
      obtain ⟨h1, h2⟩ := List.cons.inj hos
      have htl : (ops.toList.take acc.length).length = acc.length := by rw [List.length_take]; omega
      obtain ⟨os', acc', env', H', k1, k2⟩ := areg_advance os (⟨o, e⟩ :: acc) _ _ hk h2 (by
        rw [List.length_cons, List.take_succ_eq_append_getElem hlt, ← h1, List.reverse_cons]
        exact hch.snoc fun _ => hst) (fun m hm => hL m (by simp at hm; omega)) (by
        rw [List.reverse_cons]
        exact hD.snoc _ (hL _ (by simp)))
      exact ⟨os', acc', env', H', by simp at k1; omega, k2⟩
    · exact ⟨o :: os, acc, env, H, Nat.le_refl _, hos, hch, hD, .inr ⟨o, os, rfl, hop⟩⟩

theorem drawn_sound {P : Program} {n : Nat} {ops : Array Oper} {env0 : Env} {H0 : Heap} {C0 : Ctx} {Q : Env → Heap → Prop} {Qx : Exit → Act → World → Prop}
    (hQ : ∀ (opn : Nat → Bool) (its : List Itm) (env : Env) (H : Heap) C a H2, AChain P n ops opn 0 ops.toList env0 H0 its env H → Q env H → DInv n its env0 H0 C0 (fun _ => true) C a H2 → Qx .normal a C.w) :
    ∀ (fuel : Nat) (os : List Oper) (acc : List Itm) (env : Env) (H : Heap) (opn : Nat → Bool) (listed : Array Bool) (C : Ctx) (a : Act) (H2 : Heap), AReg P n ops true Q os acc env H → os = ops.toList.drop acc.length →
      AChain P n ops opn 0 (ops.toList.take acc.length) env0 H0 acc.reverse env H → (∀ m, acc.length ≤ m → listed.getD m false = false) → (∀ m, opn m = true → m < acc.length ∧ listed.getD m false = true) →
      listed.size = ops.size → listed.toList.count false ≤ fuel →
      (∀ m o', listed.getD m false = true → ops[m]? = some o' → ∀ e ∈ o'.after, Region.binds .any e = true → listed.getD e.on false = true) →
      DInv n acc.reverse env0 H0 C0 (fun m => listed.getD m false) C a H2 → wpAny P .any ops Qx fuel listed a C.w := by
  intro fuel
  induction fuel with
  | zero =>
    intro os acc env H opn listed C a H2 htree hos hch hL hop hsz hc hcl hD
    obtain ⟨os', acc', env', H', k1, k2, k3, k4, k5 | ⟨o, os'', rfl, _⟩⟩ := areg_advance os acc env H htree hos hch hL hD
    · obtain ⟨e1, k6, k7⟩ := k5
      subst e1
      have hall : ops.toList.take acc'.length = ops.toList := List.take_of_length_le (by
        rcases Nat.lt_or_ge acc'.length ops.toList.length with h | h
        · rw [List.drop_eq_getElem_cons h] at k2; cases k2
        · exact h)
      rw [hall] at k3
      exact draw_sound k3 k6 (fun C a H2 hD' => hQ opn _ _ _ C a H2 k3 k7 hD') 0 listed C a H2 hsz hc (fun m hm => (hop m hm).2) hcl k4
    · exfalso
      have hlt : acc'.length < ops.toList.length := by
        rcases Nat.lt_or_ge acc'.length ops.toList.length with h | h
        · exact h
        · rw [List.drop_eq_nil_of_le h] at k2; cases k2
      have h1 := hL acc'.length k1
      have hlt2 : acc'.length < listed.size := by rw [hsz]; simpa using hlt
      simp only [Array.getD_eq_getD_getElem?, Array.getElem?_eq_getElem hlt2, Option.getD_some] at h1
      have h0 : listed.toList.count false = 0 := by omega
      exact List.count_eq_zero.1 h0 (by rw [← h1]; simp)
  | succ fuel ih =>
    intro os acc env H opn listed C a H2 htree hos hch hL hop hsz hc hcl hD
    obtain ⟨os', acc', env', H', k1, k2, k3, k4, k5 | ⟨o, os'', rfl, k5⟩⟩ := areg_advance os acc env H htree hos hch hL hD
    · obtain ⟨e1, k6, k7⟩ := k5
      subst e1
      have hall : ops.toList.take acc'.length = ops.toList := List.take_of_length_le (by
        rcases Nat.lt_or_ge acc'.length ops.toList.length with h | h
        · rw [List.drop_eq_getElem_cons h] at k2; cases k2
        · exact h)
      rw [hall] at k3
      exact draw_sound k3 k6 (fun C a H2 hD' => hQ opn _ _ _ C a H2 k3 k7 hD') (fuel + 1) listed C a H2 hsz hc (fun m hm => (hop m hm).2) hcl k4
    · -- an operation that is left open is next
      have hlt : acc'.length < ops.toList.length := by
        rcases Nat.lt_or_ge acc'.length ops.toList.length with h | h
        · exact h
        · rw [List.drop_eq_nil_of_le h] at k2; cases k2
      have k2' := k2
      rw [List.drop_eq_getElem_cons hlt] at k2'
      obtain ⟨h1, h2⟩ := List.cons.inj k2'
      have hok : ops[acc'.length]? = some o := by
        rw [← Array.getElem?_toList, List.getElem?_eq_getElem hlt, h1]
      obtain ⟨hdst, hg, haft, log, F, hord, hopen, hkont⟩ := k5
      rw [List.reverse_cons] at hord
      have hpair := PairOK.of hord
      have hLk : ∀ m, acc'.length ≤ m → listed.getD m false = false := fun m hm => hL m (by omega)
      have hunl : listed.getD acc'.length false = false := hLk _ (Nat.le_refl _)
      have htopo : ∀ (m : Nat) (o : Oper), ops[m]? = some o → ∀ e ∈ o.after, Region.binds .any e = true → e.on < m := fun m o ho e he hbi => by
        simp only [orderOK, Bool.and_eq_true] at hord
        have := topoOK_spec hord.1 m o (by simpa using ho) e (by simpa using he) hbi
        omega
      have hall : Region.ready .any ops listed = [] → ∀ m, m < ops.size → listed.getD m false = true := fun hr => by
        intro m
        induction m using Nat.strongRecOn with
        | _ m ihm =>
          intro hm
          by_cases hl : listed.getD m false = true
          · exact hl
          · exfalso
            obtain ⟨o, ho⟩ : ∃ o, ops[m]? = some o := ⟨_, Array.getElem?_eq_getElem hm⟩
            have : m ∈ Region.ready .any ops listed := mem_ready.2 ⟨by
              have hlt : m < listed.size := by omega
              simp only [Array.getD_eq_getD_getElem?, Array.getElem?_eq_getElem hlt, Option.getD_some] at hl ⊢
              simpa using hl, o, ho, fun e he hbi => ihm e.on (htopo m o ho e he hbi) (by have := htopo m o ho e he hbi; omega)⟩
            rw [hr] at this; cases this
      refine ⟨fun hr => ?_, fun i hi => ?_⟩
      · have := hall hr acc'.length (by simpa using hlt)
        rw [hunl] at this; cases this
      · obtain ⟨q1, oi, ho, hrj⟩ := mem_ready.1 hi
        have hilt : i < listed.size := by rw [hsz]; exact (Array.getElem?_eq_some_iff.1 ho).1
        have q1' : listed.getD i false = false := by
          simp only [Array.getD_eq_getD_getElem?, Array.getElem?_eq_getElem hilt, Option.getD_some] at q1 ⊢; exact q1
        have hset : ∀ m, (listed.setIfInBounds i true).getD m false = (listed.getD m false || m == i) := fun m => by
          by_cases hmi : i = m
          · subst hmi; simp [Array.getD_eq_getD_getElem?, hilt]
          · rw [getD_set_ne false hmi]
            have : (m == i) = false := by simp; omega
            rw [this, Bool.or_false]
        have hcl' : ∀ m o', (listed.setIfInBounds i true).getD m false = true → ops[m]? = some o' → ∀ e ∈ o'.after, Region.binds .any e = true → (listed.setIfInBounds i true).getD e.on false = true := fun m o' hm ho' e he hb => by
          rw [hset] at hm ⊢
          rcases (Bool.or_eq_true _ _).mp hm with h | h
          · rw [hcl m o' h ho' e he hb]; rfl
          · have : m = i := by simpa using h
            subst this
            rw [ho] at ho'; cases ho'
            rw [hrj e he hb]; rfl
        have hcount : (listed.setIfInBounds i true).toList.count false ≤ fuel := by
          have hf : listed.toList[i] = false := by
            simp only [Array.getD_eq_getD_getElem?, Array.getElem?_eq_getElem hilt, Option.getD_some] at q1'; simpa using q1'
          have := List.count_set (a := true) (b := false) (l := listed.toList) (i := i) (by simpa using hilt)
          have hpos : 0 < listed.toList.count false := List.count_pos_iff.2 (by rw [← hf]; exact List.getElem_mem _)
          rw [Array.toList_setIfInBounds, this]
          simp only [hf, beq_self_eq_true, if_true, Bool.true_eq_false, beq_iff_eq, if_false] at *
          omega
        rcases Nat.lt_trichotomy i acc'.length with hik | hik | hik
        · refine dinv_step (L := fun m => listed.getD m false) (L' := fun m => (listed.setIfInBounds i true).getD m false) k3 hpair.pre ho hik (by
            cases h9 : opn i with
            | false => rfl
            | true => rw [(hop i h9).2] at q1'; cases q1') q1' hset hcl hrj k4 (fun C' a' H2' hD' => ?_)
          exact ih (o :: os'') acc' env' H' opn _ C' a' H2' (.inr ⟨hdst, hg, haft, log, F, by rw [List.reverse_cons]; exact hord, hopen, hkont⟩) k2 k3 (fun m hm => by rw [hset, hLk m hm]; simp; omega)
            (fun m hm => ⟨Nat.lt_of_lt_of_le (hop m hm).1 k1, by rw [hset, (hop m hm).2]; rfl⟩) (by simpa using hsz) hcount hcl' hD'
        · subst hik
          rw [hok] at ho; cases ho
          refine dinv_open (L := fun m => listed.getD m false) (L' := fun m => (listed.setIfInBounds acc'.length true).getD m false) k3 hpair hok hLk hset hcl hrj hdst hg hopen k4 (fun e hF C' a' H2' hD' => ?_)
          have htl : (ops.toList.take acc'.length).length = acc'.length := by rw [List.length_take]; omega
          refine ih os'' (⟨o, e⟩ :: acc') _ _ (fun m => opn m || m == acc'.length) _ C' a' H2' (hkont e hF) h2 ?_ (fun m hm => ?_) (fun m hm => ?_) (by simpa using hsz) hcount hcl' (by rw [List.reverse_cons]; exact hD')
          · rw [List.length_cons, List.take_succ_eq_append_getElem hlt, ← h1, List.reverse_cons]
            refine (k3.opn fun k hk => ?_).snoc fun h9 => ?_
            · simp only [Bool.or_eq_false_iff] at hk; exact hk.1
            · rw [htl, Nat.zero_add] at h9; simp at h9
          · rw [List.length_cons] at hm
            rw [hset, hLk m (by omega)]
            simp; omega
          · rw [hset]
            rcases (Bool.or_eq_true _ _).mp hm with h | h
            · exact ⟨by rw [List.length_cons]; have := (hop m h).1; omega, by rw [(hop m h).2]; rfl⟩
            · have : m = acc'.length := by simpa using h
              subst this
              exact ⟨by simp, by simp⟩
        · exfalso
          have hm := aftOK_spec haft hik (Array.getElem?_eq_some_iff.1 ho).1
          have := masks_closed (fun m => (listed.setIfInBounds i true).getD m false) ops.toList [] (fun m o' ho' hl e he hb => by
            simp only [List.length_nil, Nat.zero_add] at hl
            exact hcl' m o' hl (by simpa using ho') e (by simpa using he) hb) (fun m i hm => by simp at hm) i acc'.length hm (by rw [hset]; simp)
          rw [hset, hunl] at this
          simp at this; omega
end Go.Av
/- The abstract predicate transformer: rules for code. -/
set_option linter.unusedVariables false
namespace Go.Av
open Go

inductive AExit where
  | normal
  | exit (id : Nat)
  | ret

def AExit.ex : AExit → Exit
  | .normal => .normal
  | .exit id => .exit id
  | .ret => .ret

structure AInv (n : Nat) (C : Ctx) (env : Env) (H : Heap) (a : Act) : Prop where
  size : a.tmps.size = n
  defers : a.defers = []
  envs : EnvAll C env.get a
  hrel : HRel C H
  dom : ∀ b, H.length ≤ b → Fresh C b

def APost (n : Nat) (Q : AExit → Env → Heap → Prop) (C : Ctx) (H : Heap) : Exit → Act → World → Prop := fun e a' w' =>
  ∃ x C' env' H', AExit.ex x = e ∧ Q x env' H' ∧ AInv n C' env' H' a' ∧ C'.w = w' ∧ StepExt C C' ∧ Frame' C H C' H'

def AW (P : Program) (n : Nat) (c : Code) (Q : AExit → Env → Heap → Prop) (env : Env) (H : Heap) : Prop :=
  ∀ C a, AInv n C env H a → c.wp P (APost n Q C H) a C.w

variable {P : Program} {n : Nat} {Q : AExit → Env → Heap → Prop} {env : Env} {H : Heap}

theorem APost.intro {x : AExit} {C C' : Ctx} {env' : Env} {H H' : Heap} {a' : Act} (hq : Q x env' H') (hi : AInv n C' env' H' a') (hs : StepExt C C') (hf : Frame' C H C' H') :
    APost n Q C H x.ex a' C'.w := ⟨x, C', env', H', rfl, hq, hi, rfl, hs, hf⟩

/-- going on from a state that was reached -/
theorem APost.trans {C C1 : Ctx} {H H1 : Heap} {e : Exit} {a' : Act} {w' : World} (hs : StepExt C C1) (hf : Frame' C H C1 H1) (h : APost n Q C1 H1 e a' w') : APost n Q C H e a' w' := by
  obtain ⟨x, C', env', H', h1, h2, h3, h4, h5, h6⟩ := h
  exact ⟨x, C', env', H', h1, h2, h3, h4, hs.trans h5, hf.trans h6⟩

theorem AW.mono {c : Code} {Q' : AExit → Env → Heap → Prop} (h : AW P n c Q env H) (hq : ∀ x env H, Q x env H → Q' x env H) : AW P n c Q' env H := fun C a hi =>
  wp_mono (h C a hi) fun e a' w' ⟨x, C', env', H', h1, h2, h3⟩ => ⟨x, C', env', H', h1, hq _ _ _ h2, h3⟩

theorem aw_skip (h : Q .normal env H) : AW P n .skip Q env H := fun C a hi =>
  wp_skip (APost.intro (x := .normal) h hi (.refl C) (.refl C H))
theorem aw_exit {id : Nat} (h : Q (.exit id) env H) : AW P n (.exit id) Q env H := fun C a hi =>
  wp_exit (APost.intro (x := .exit id) h hi (.refl C) (.refl C H))
theorem aw_ret (h : Q .ret env H) : AW P n .ret Q env H := fun C a hi =>
  wp_ret (APost.intro (x := .ret) h hi (.refl C) (.refl C H))

def AThen (P : Program) (n : Nat) (y : Code) (Q : AExit → Env → Heap → Prop) : AExit → Env → Heap → Prop
  | .normal, env, H => AW P n y Q env H
  | e, env, H => Q e env H

theorem aw_seq {x y : Code} (h : AW P n x (AThen P n y Q) env H) : AW P n (.seq x y) Q env H := fun C a hi =>
  wp_seq (wp_mono (h C a hi) fun e a' w' ⟨x, C', env', H', h1, h2, h3, h4, h5, h6⟩ => by
    subst h1; subst h4
    cases x with
    | normal => exact wp_mono (h2 C' a' h3) fun e a2 w2 hp => hp.trans h5 h6
    | exit id => exact ⟨.exit id, C', env', H', rfl, h2, h3, rfl, h5, h6⟩
    | ret => exact ⟨.ret, C', env', H', rfl, h2, h3, rfl, h5, h6⟩)

theorem ev_all {C : Ctx} {a : Act} (h : EnvAll C env.get a) (s : Nat) (x : Operand) : VRel C (env.ev s x) (a.eval x) :=
  ev_rel (xs := [x]) (fun t _ => h t) s x (List.mem_cons_self ..)

theorem aw_cond {c : Operand} {x y : Code} {b : Bool} (hc : env.ev 0 c = .bool b) (ht : b = true → AW P n x Q env H) (hf : b = false → AW P n y Q env H) :
    AW P n (.cond c x y) Q env H := fun C a hi => by
  have hv := ev_all hi.envs 0 c
  rw [hc] at hv
  exact wp_cond_split hv.bool_inv (fun hb => ht hb C a hi) (fun hb => hf hb C a hi)

def ABlock (id : Nat) (Q : AExit → Env → Heap → Prop) : AExit → Env → Heap → Prop
  | .exit id', env, H => if id' = id then Q .normal env H else Q (.exit id') env H
  | e, env, H => Q e env H

theorem aw_block {id : Nat} {c : Code} (h : AW P n c (ABlock id Q) env H) : AW P n (.block id c) Q env H := fun C a hi =>
  wp_block (wp_mono (h C a hi) fun e a' w' ⟨x, C', env', H', h1, h2, h3, h4, h5, h6⟩ => by
    subst h1; subst h4
    cases x with
    | normal => exact ⟨.normal, C', env', H', rfl, h2, h3, rfl, h5, h6⟩
    | exit id' =>
      simp only [ABlock] at h2
      simp only [AExit.ex, Exit.inBlock]
      split
      · rename_i he
        simp only [he, if_true] at h2
        exact ⟨.normal, C', env', H', rfl, h2, h3, rfl, h5, h6⟩
      · rename_i he
        simp only [he, if_false] at h2
        exact ⟨.exit id', C', env', H', rfl, h2, h3, rfl, h5, h6⟩
    | ret => exact ⟨.ret, C', env', H', rfl, h2, h3, rfl, h5, h6⟩)

/-! ### regions -/
/-- what an operation comes to, where more than one outcome is left open -/
def OpRel (P : Program) (o : Oper) (env : Env) (H : Heap) (R : AV → Heap → Prop) : Prop :=
  ∀ (C : Ctx) (a : Act), EnvOK C env a o.op.operands.toList → HRel C H → (∀ b, H.length ≤ b → Fresh C b) → ∀ (next : Act → World → Prop) (Qx : Exit → Act → World → Prop),
    (∀ v' r C' H', R r H' → VRel C' r v' → HRel C' H' → (∀ b, H'.length ≤ b → Fresh C' b) → StepExt C C' → Frame' C H C' H' → next (a.put o.dst v') C'.w) → o.wp P a C.w next Qx

/-- operations in the order of the text -/
def ASeq (P : Program) (n : Nat) (ops : Array Oper) (Q : Env → Heap → Prop) : List Oper → Env → Heap → Prop
  | [], env, H => Q env H
  | o :: os, env, H => (∃ e, StepOK P n ops o env H e ∧ ASeq P n ops Q os (env.putO o.dst e.v) (H.puts e.wr)) ∨
    (dstOK n o = true ∧ aguard ops o env = some true ∧ ∃ R, OpRel P o env H R ∧ ∀ v H', R v H' → ASeq P n ops Q os (env.putO o.dst v) H')

theorem putO_all {C C' : Ctx} {o : Oper} {a : Act} {v : AV} {v' : Value} (hi : AInv n C env H a) (hv : VRel C' v v') (hs : StepExt C C') (hd : ∀ k, o.dst = some k → k < n) :
    EnvAll C' (env.putO o.dst v).get (a.put o.dst v') := fun t => by
  rw [put_getD hi.size hd]
  unfold Env.putO
  cases hdo : o.dst with
  | none => simpa using (hi.envs t).mono hs
  | some d =>
    simp only [Env.get]
    by_cases hdt : d = t
    · subst hdt; simpa using hv
    · have : (d == t) = false := by simpa using hdt
      simpa [this, hdt] using (hi.envs t).mono hs

theorem seq_ops {ops : Array Oper} {Q : Env → Heap → Prop} {Q' : Exit → Act → World → Prop} : ∀ (os : List Oper) (env : Env) (H : Heap), ASeq P n ops Q os env H →
    ∀ (i : Nat), ops.toList.drop i = os → ∀ (C0 C : Ctx) (H0 : Heap) (a : Act), AInv n C env H a → StepExt C0 C → Frame' C0 H0 C H →
      (∀ C' a' env' H', Q env' H' → AInv n C' env' H' a' → StepExt C0 C' → Frame' C0 H0 C' H' → Q' .normal a' C'.w) → wpOps P ops Q' (List.range' i os.length) a C.w
  | [], env, H, h, i, _, C0, C, H0, a, hi, hs, hf, hQ => hQ C a env H h hi hs hf
  | o :: os, env, H, h, i, hdrop, C0, C, H0, a, hi, hs, hf, hQ => by
    have hlt : i < ops.toList.length := by
      rcases Nat.lt_or_ge i ops.toList.length with h | h
      · exact h
      · rw [List.drop_eq_nil_of_le h] at hdrop; cases hdrop
    rw [List.drop_eq_getElem_cons hlt] at hdrop
    obtain ⟨h1, h2⟩ := List.cons.inj hdrop
    have ho : ops[i]? = some o := by rw [← Array.getElem?_toList, List.getElem?_eq_getElem hlt, h1]
    simp only [List.length_cons, List.range'_succ, wpOps_cons]
    unfold wpOp
    simp only [ho]
    have hgd : ∀ b, aguard ops o env = some b → Region.wanted o (yielded ops a.tmps) = b := fun b hb => aguard_wanted (C := C) hb fun g w t hg ht => hi.envs t
    rcases h with ⟨e, hst, hk⟩ | ⟨hd, hg, R, hR, hk⟩
    · have ih := seq_ops (Q' := Q') os _ _ hk (i + 1) h2
      rcases hst with ⟨_, hd, hg, hids, h⟩ | ⟨hd, hg⟩
      · have hd := dstOK_spec hd
        rw [hgd true hg]
        simp only [if_true]
        refine .inl (h C a H (fun t ht => hi.envs t) hi.hrel (fun b hb => rfl) (fun p hp => ?_) _ Q' (fun v' C' hv hH' hs' hf' hu => ?_))
        · refine (hids p hp).imp id fun hge => ⟨?_, hi.dom p.1 hge⟩
          unfold Heap.at
          rw [List.getD_eq_getElem?_getD, List.getElem?_eq_none hge]; rfl
        · have hlen := Heap.length_puts e.wr H
          refine ih C0 C' H0 (a.put o.dst v') ⟨put_size.trans hi.size, put_defers'.trans hi.defers, putO_all hi hv hs' hd, hH', fun b hb => ?_⟩ (hs.trans hs') (hf.trans hf') hQ
          exact hu b (fun p hp he => by have := hlen.2 p hp; omega) (hi.dom b (by omega))
      · have hd := dstOK_spec hd
        rw [hgd false hg]
        simp only [Bool.false_eq_true, if_false]
        exact ih C0 C H0 (a.put o.dst undef) ⟨put_size.trans hi.size, put_defers'.trans hi.defers, putO_all hi (.fro _ _ (.tup [] #[] rfl fun i hi => by simp at hi)) (.refl C) hd, hi.hrel, hi.dom⟩ hs hf hQ
    · have hd := dstOK_spec hd
      rw [hgd true hg]
      simp only [if_true]
      refine .inl (hR C a (fun t ht => hi.envs t) hi.hrel hi.dom _ Q' (fun v' r C' H' hr hv hH' hdom hs' hf' => ?_))
      exact seq_ops os _ _ (hk r H' hr) (i + 1) h2 C0 C' H0 (a.put o.dst v') ⟨put_size.trans hi.size, put_defers'.trans hi.defers, putO_all hi hv hs' hd, hH', hdom⟩ (hs.trans hs') (hf.trans hf') hQ

theorem aw_region {id : Nat} {ops : Array Oper} (h : ASeq P n ops (Q .normal) ops.toList env H) : AW P n (.region id ops false) Q env H := fun C a hi => by
  refine wp_region ?_
  have := seq_ops (Q' := APost n Q C H) ops.toList env H h 0 rfl C C H a hi (.refl C) (.refl C H) (fun C' a' env' H' hq hi' hs hf => APost.intro (x := .normal) hq hi' hs hf)
  rwa [List.range_eq_range', ← Array.length_toList]

/-- a world in which an order was drawn -/
theorem FRel.world {K : Nat → Nat} {w w' : World} (hw : w'.heap = w.heap) {x : AV} {v : Value} (h : FRel K w x v) : FRel K w' x v :=
  h.mono (fun _ => Nat.le_refl _) ⟨.of_heap (by rw [hw]; exact Nat.le_refl _) fun k _ => by rw [hw], fun b j u _ hu => by unfold World.cell? at hu ⊢; rw [hw]; exact hu, fun r es ck _ hm => by rw [hw]; exact hm⟩

def Ctx.draw (C : Ctx) : Ctx := { C with w := { C.w with drawn := C.w.drawn + 1 } }

theorem StepExt.draw (C : Ctx) : StepExt C C.draw := ⟨fun _ _ h => h, fun _ _ _ h => h, fun _ => Nat.le_refl _, ⟨.of_heap (Nat.le_refl _) fun _ _ => rfl, fun _ _ _ _ h => h, fun _ _ _ _ h => h⟩⟩
theorem Owns.draw {C : Ctx} {H : Heap} {b cb : Nat} (h : Owns C.draw H b cb) : Owns C H b cb := by
  cases h with
  | row sz es _ base hb hφ => exact .row _ sz es _ base hb hφ
  | tok e _ eo ce hb hτ => exact .tok _ e _ eo ce hb hτ
  | map es _ hb hφ => exact .map _ es _ hb hφ
theorem Frame'.draw (C : Ctx) (H : Heap) : Frame' C H C.draw H := ⟨rfl, rfl, Nat.le_refl _, fun _ _ _ => ⟨rfl, rfl⟩, fun b cb h _ => ⟨b, h.draw⟩⟩
theorem HRel.draw {C : Ctx} {H : Heap} (h : HRel C H) : HRel C.draw H where
  blk := fun b => by
    have := h.blk b
    cases hb : H.at b with
    | dead => trivial
    | row sz es =>
      rw [hb] at this
      obtain ⟨cb, base, g, h1, h2, h3, h4, h5, h6, h7, h8⟩ := this
      exact ⟨cb, base, g, h1, h2, h3, h4, h5, h6, h7, fun i j hi hj => (h8 i j hi hj).mono (.draw C)⟩
    | tok e =>
      rw [hb] at this
      exact this
    | mapb es =>
      rw [hb] at this
      obtain ⟨r, entries, clock, h1, h2, h3, h4, h5, h6⟩ := this
      exact ⟨r, entries, clock, h1, h2, h3, h4, fun i hi => (h5 i hi).mono (fun _ => Nat.le_refl _) (StepExt.draw C).agree, fun i hi => (h6 i hi).mono (fun _ => Nat.le_refl _) (StepExt.draw C).agree⟩
  own := fun b b' cb h1 h2 => h.own b b' cb h1.draw h2.draw
  dom := h.dom

theorem aw_region_draw {id : Nat} {ops : Array Oper} (hm : P.follows .mixedOrders = true) (h : AReg P n ops true (Q .normal) ops.toList [] env H) : AW P n (.region id ops true) Q env H := fun C a hi => by
  refine wp_region_any hm ?_
  refine drawn_sound (C0 := C) (Qx := APost n Q C H) (fun opn its env' H' C' a' H2 hch hq hD => ?_) ops.size _ [] env H (fun _ => false) _ C.draw a H h (by simp) (by simpa using AChain.nil 0 env H) (fun m _ => ?_) (fun m hm => by cases hm) (by simp) (by simp) (fun m o' hl => ?_) ?_
  · obtain ⟨_, g2, g3, glen, glen2, gwr⟩ := hch.get
    refine APost.intro (x := .normal) hq ⟨hD.size, hD.defers, fun t => ?_, hD.hrel.congr fun b => ?_, fun b hb => ?_⟩ hD.ext (hD.frame.congr fun b => ?_)
    · rw [g2 0 t]; exact hD.envs t
    · rw [g3 0 b, hD.heap b]
    · exact hD.fresh b (by omega) fun m x hx _ p hp he => by have := gwr m x hx p hp; omega
    · rw [g3 0 b, hD.heap b]
  · simp [Array.getD_eq_getD_getElem?, Array.getElem?_replicate]
    split <;> rfl
  · simp [Array.getD_eq_getD_getElem?, Array.getElem?_replicate] at hl
    split at hl <;> simp at hl
  · refine ⟨hi.size, hi.defers, fun t => ?_, hi.hrel.draw, fun b => rfl, fun b hb _ => ?_, .draw C, .draw C H⟩
    · exact (hi.envs t).mono (.draw C)
    · exact hi.dom b hb
end Go.Av
/- Forgetting what nobody knows any more; loops. -/
set_option linter.unusedVariables false
namespace Go.Av
open Go

mutual
def AV.blw (n : Nat) : AV → Bool
  | .agg cs => blwL n cs
  | .tup cs => blwL n cs
  | .asl t _ _ _ => Nat.blt t n
  | .row b _ _ _ _ => Nat.blt b n
  | .ptr b _ _ => Nat.blt b n
  | .fn _ a b => blwL n a && blwL n b
  | .iface _ v => AV.blw n v
  | .mapr b => Nat.blt b n
  | _ => true
def blwL (n : Nat) : List AV → Bool
  | [] => true
  | a :: l => AV.blw n a && blwL n l
end
def Blk.blw (n : Nat) : Blk → Bool
  | .row _ es => es.all (blwL n)
  | _ => true

theorem blwL_get {n : Nat} : ∀ {l : List AV}, blwL n l = true → ∀ i, (l.getD i .junk).blw n = true
  | [], _, i => by simp [AV.blw]
  | a :: l, h, i => by
    simp only [blwL, Bool.and_eq_true] at h
    cases i with
    | zero => simpa using h.1
    | succ i => simpa using blwL_get h.2 i

def Ctx.cut (C : Ctx) (n : Nat) : Ctx := { C with φ := fun b => if b < n then C.φ b else none, τ := fun t e => if t < n then C.τ t e else none }

theorem blt_lt {a b : Nat} (h : Nat.blt a b = true) : a < b := Nat.le_of_ble_eq_true h

theorem VRel.cut {C : Ctx} {n : Nat} {a : AV} {v : Value} (h : VRel C a v) : a.blw n = true → VRel (C.cut n) a v := by
  induction h with
  | fro a v h => intro _; exact .fro a v h
  | agg cs vs hl _ ih => intro hb; simp only [AV.blw] at hb; exact .agg cs vs hl fun i hi => ih i hi (blwL_get hb i)
  | tup cs vs hl _ ih => intro hb; simp only [AV.blw] at hb; exact .tup cs vs hl fun i hi => ih i hi (blwL_get hb i)
  | fn f first caps vf vc hf hc _ _ ih1 ih2 =>
    intro hb
    simp only [AV.blw, Bool.and_eq_true] at hb
    exact .fn f first caps vf vc hf hc (fun i hi => ih1 i hi (blwL_get hb.1 i)) (fun i hi => ih2 i hi (blwL_get hb.2 i))
  | iface t a v _ ih => intro hb; simp only [AV.blw] at hb; exact .iface t a v (ih hb)
  | ptr b i j cb base sz h => intro hb; exact .ptr b i j cb base sz (by simp [Ctx.cut, blt_lt hb, h])
  | row b off len sz cb base ccap cap h hc hcap hsp => intro hb; exact .row b off len sz cb base ccap cap (by simp [Ctx.cut, blt_lt hb, h]) hc hcap hsp
  | asl t e sz xs cb off eo ce ccap h hx he hc hce hp => intro hb; exact .asl t e sz xs cb off eo ce ccap (by simp [Ctx.cut, blt_lt hb, h]) hx he hc hce hp
  | asl0 t e sz h => intro hb; exact .asl0 t e sz (by simp [Ctx.cut, blt_lt hb, h])
  | mapr b r h => intro hb; exact .mapr b r (by simp [Ctx.cut, blt_lt hb, h])

theorem Heap.at_take (H : Heap) (n b : Nat) : Heap.at (H.take n) b = if b < n then H.at b else .dead := by
  unfold Heap.at
  rw [List.getD_eq_getElem?_getD, List.getD_eq_getElem?_getD, List.getElem?_take]
  split <;> rfl

theorem Owns.cut {C : Ctx} {H : Heap} {n b cb : Nat} (h : Owns (C.cut n) (H.take n) b cb) : b < n ∧ Owns C H b cb := by
  cases h with
  | row sz es _ base hb hφ =>
    rw [Heap.at_take] at hb
    split at hb
    · rename_i hlt; exact ⟨hlt, .row _ sz es _ base hb (by simpa [Ctx.cut, hlt] using hφ)⟩
    · cases hb
  | tok e _ eo ce hb hτ =>
    rw [Heap.at_take] at hb
    split at hb
    · rename_i hlt; exact ⟨hlt, .tok _ e _ eo ce hb (by simpa [Ctx.cut, hlt] using hτ)⟩
    · cases hb
  | map es _ hb hφ =>
    rw [Heap.at_take] at hb
    split at hb
    · rename_i hlt; exact ⟨hlt, .map _ es _ hb (by simpa [Ctx.cut, hlt] using hφ)⟩
    · cases hb

theorem HRel.cut {C : Ctx} {H : Heap} {n : Nat} (h : HRel C H) (hb : ∀ b, b < n → (H.at b).blw n = true) : HRel (C.cut n) (H.take n) where
  blk := fun b => by
    rw [Heap.at_take]
    split
    · rename_i hlt
      have h1 := h.blk b
      have h2 := hb b hlt
      cases hx : H.at b with
      | dead => trivial
      | row sz es =>
        rw [hx] at h1 h2
        obtain ⟨cb, base, g, k1, k2, k3, k4, k5, k6, k7, k8⟩ := h1
        refine ⟨cb, base, g, by simpa [Ctx.cut, hlt] using k1, k2, k3, k4, k5, k6, k7, fun i j hi hj => (k8 i j hi hj).cut ?_⟩
        simp only [Blk.blw, List.all_eq_true] at h2
        have := h2 (es.getD i []) (by rw [List.getD_eq_getElem?_getD, List.getElem?_eq_getElem hi]; exact List.getElem_mem hi)
        exact blwL_get this j
      | tok e =>
        rw [hx] at h1
        obtain ⟨k1, k2⟩ := h1
        exact ⟨fun e' he' => by simp only [Ctx.cut, hlt, if_true]; exact k1 e' he', by simpa only [Ctx.cut, hlt, if_true] using k2⟩
      | mapb es =>
        rw [hx] at h1
        obtain ⟨r, entries, clock, k1, k2⟩ := h1
        exact ⟨r, entries, clock, by simpa [Ctx.cut, hlt] using k1, k2⟩
    · trivial
  own := fun b b' cb h1 h2 => h.own b b' cb h1.cut.2 h2.cut.2
  dom := h.dom

/-- less is known -/
inductive Weak : AV → AV → Prop
  | refl (a : AV) : Weak a a
  | junk (a : AV) : Weak a .junk
  | frz (a a' : AV) (h : Av.frz a = some a') : Weak a a'
  | agg (cs cs' : List AV) (hl : cs'.length = cs.length) (h : ∀ i, i < cs.length → Weak (cs.getD i .junk) (cs'.getD i .junk)) : Weak (.agg cs) (.agg cs')

theorem VRel.weak {C : Ctx} {a a' : AV} {v : Value} (hw : Weak a a') (h : VRel C a v) : VRel C a' v := by
  induction hw generalizing v with
  | refl a => exact h
  | junk a => exact .fro _ _ (.junk _)
  | frz a a' hf => exact .fro _ _ (h.frz hf)
  | agg cs cs' hl _ ih =>
    cases h with
    | fro _ _ hf =>
      cases hf with
      | agg _ vs hlv hv => exact .agg cs' vs (hl.trans hlv) fun i hi => ih i (by omega) (.fro _ _ (hv i (by omega)))
    | agg _ vs hlv hv => exact .agg cs' vs (hl.trans hlv) fun i hi => ih i (by omega) (hv i (by omega))

inductive WeakB : Blk → Blk → Prop
  | dead (x : Blk) : WeakB x .dead
  | refl (x : Blk) : WeakB x x
  | row (sz : Nat) (es es' : List (List AV)) (hl : es'.length ≤ es.length) (hs : ∀ x ∈ es', x.length = sz) (h : ∀ i j, i < es'.length → j < sz → Weak ((es.getD i []).getD j .junk) ((es'.getD i []).getD j .junk)) : WeakB (.row sz es) (.row sz es')

theorem BlkOK.weak {C : Ctx} {b : Nat} {x x' : Blk} (hw : WeakB x x') (h : BlkOK C b x) : BlkOK C b x' := by
  cases hw with
  | dead => trivial
  | refl => exact h
  | row sz es es' hl hs hc =>
    obtain ⟨cb, base, g, k1, k2, k3, k4, k5, k6, k7, k8⟩ := h
    exact ⟨cb, base, g, k1, k2, k3, hs, fun i j hi hj => k5 i j (by omega) hj, k6, fun i j hi hj => k7 i j (by omega) hj, fun i j hi hj => (k8 i j (by omega) hj).weak (hc i j hi hj)⟩

theorem Owns.weak {C : Ctx} {H H' : Heap} (hw : ∀ b, WeakB (H.at b) (H'.at b)) {b cb : Nat} (h : Owns C H' b cb) : Owns C H b cb := by
  cases h with
  | row sz es _ base hb hφ =>
    have := hw b
    rw [hb] at this
    generalize hx : H.at b = x at this
    cases this with
    | refl => exact .row _ sz es _ base hx hφ
    | row _ es0 _ hl hs hc => exact .row _ sz es0 _ base hx hφ
  | tok e _ eo ce hb hτ =>
    have := hw b
    rw [hb] at this
    generalize hx : H.at b = x at this
    cases this with
    | refl => exact .tok _ e _ eo ce hx hτ
  | map es _ hb hφ =>
    have := hw b
    rw [hb] at this
    generalize hx : H.at b = x at this
    cases this with
    | refl => exact .map _ es _ hx hφ

theorem HRel.weak {C : Ctx} {H H' : Heap} (hw : ∀ b, WeakB (H.at b) (H'.at b)) (h : HRel C H) : HRel C H' :=
  ⟨fun b => (h.blk b).weak (hw b), fun b b' cb h1 h2 => h.own b b' cb (h1.weak hw) (h2.weak hw), h.dom⟩

/-- what is known afterwards: some of the temporaries, and the first blocks -/
structure Cut (m : Nat) (env : Env) (H : Heap) (env' : Env) (H' : Heap) : Prop where
  sub : ∀ t, Weak (env.get t) (env'.get t)
  heap : ∀ b, b < m → WeakB (H.at b) (H'.at b)
  len : H'.length = min m H.length
  below : H.length ≤ m ∨ ((∀ t, (env'.get t).blw m = true) ∧ ∀ b, b < m → (H'.at b).blw m = true)

theorem Ctx.cut_all {C : Ctx} {n m : Nat} (h : ∀ b, n ≤ b → Fresh C b) (hm : n ≤ m) : C.cut m = C := by
  have h1 : (fun b => if b < m then C.φ b else none) = C.φ := funext fun b => by
    by_cases hb : b < m
    · simp [hb]
    · simp [hb, (h b (by omega)).1]
  have h2 : (fun t e => if t < m then C.τ t e else none) = C.τ := funext fun b => funext fun e => by
    by_cases hb : b < m
    · simp [hb]
    · simp [hb, (h b (by omega)).2 e]
  unfold Ctx.cut
  rw [h1, h2]

theorem AInv.cut' {n : Nat} {C : Ctx} {env : Env} {H : Heap} {a : Act} {m : Nat} {env' : Env} {H' : Heap} (hi : AInv n C env H a) (hc : Cut m env H env' H') (envB : ∀ t, (env'.get t).blw m = true) (heapB : ∀ b, b < m → (H'.at b).blw m = true) : AInv n (C.cut m) env' H' a where
  size := hi.size
  defers := hi.defers
  envs := fun t => ((hi.envs t).weak (hc.sub t)).cut (envB t)
  hrel := by
    -- first less is known of the blocks, then the others go
    have h1 : HRel C (H' ++ H.drop m) := hi.hrel.weak fun b => by
      rcases Nat.lt_or_ge b m with hb | hb
      · rcases Nat.lt_or_ge b H'.length with hb' | hb'
        · have : Heap.at (H' ++ H.drop m) b = H'.at b := by
            unfold Heap.at
            rw [List.getD_eq_getElem?_getD, List.getD_eq_getElem?_getD, List.getElem?_append_left hb']
          rw [this]; exact hc.heap b hb
        · have h2 : Heap.at (H' ++ H.drop m) b = .dead := by
            unfold Heap.at
            have := hc.len
            rw [List.getD_eq_getElem?_getD, List.getElem?_eq_none (by simp; omega)]; rfl
          rw [h2]; exact .dead _
      · rcases Nat.lt_or_ge b H.length with hb' | hb'
        · have : Heap.at (H' ++ H.drop m) b = H.at b := by
            have hlen := hc.len
            unfold Heap.at
            rw [List.getD_eq_getElem?_getD, List.getD_eq_getElem?_getD, List.getElem?_append_right (by omega), List.getElem?_drop]
            congr 2; omega
          rw [this]; exact .refl _
        · have h2 : Heap.at (H' ++ H.drop m) b = .dead := by
            unfold Heap.at
            have := hc.len
            rw [List.getD_eq_getElem?_getD, List.getElem?_eq_none (by simp; omega)]; rfl
          rw [h2]; exact .dead _
    have h3 : H' = (H' ++ H.drop m).take m := by
      have hlen := hc.len
      rcases Nat.lt_or_ge m H.length with h | h
      · rw [List.take_append_of_le_length (by omega), List.take_of_length_le (by omega)]
      · rw [List.drop_eq_nil_of_le h, List.append_nil, List.take_of_length_le (by omega)]
    have h4 := h1.cut (n := m) fun b hb => by
      rcases Nat.lt_or_ge b H'.length with hb' | hb'
      · have : Heap.at (H' ++ H.drop m) b = H'.at b := by
          unfold Heap.at
          rw [List.getD_eq_getElem?_getD, List.getD_eq_getElem?_getD, List.getElem?_append_left hb']
        rw [this]; exact heapB b hb
      · have h2 : Heap.at (H' ++ H.drop m) b = .dead := by
          unfold Heap.at
          have := hc.len
          rw [List.getD_eq_getElem?_getD, List.getElem?_eq_none (by simp; omega)]; rfl
        rw [h2]; rfl
    rwa [← h3] at h4
  dom := fun b hb => by
    have hlen := hc.len
    by_cases hlt : b < m
    · have := hi.dom b (by omega)
      exact ⟨by simp [Ctx.cut, hlt, this.1], fun e => by simp [Ctx.cut, hlt, this.2 e]⟩
    · exact ⟨by simp [Ctx.cut, hlt], fun e => by simp [Ctx.cut, hlt]⟩

theorem AInv.cut {n : Nat} {C : Ctx} {env : Env} {H : Heap} {a : Act} {m : Nat} {env' : Env} {H' : Heap} (hi : AInv n C env H a) (hc : Cut m env H env' H') : AInv n (C.cut m) env' H' a := by
  rcases hc.below with hm | ⟨h1, h2⟩
  · rw [Ctx.cut_all hi.dom hm]
    have hlen : H'.length = H.length := by rw [hc.len, Nat.min_eq_right hm]
    refine ⟨hi.size, hi.defers, fun t => (hi.envs t).weak (hc.sub t), hi.hrel.weak fun b => ?_, fun b hb => hi.dom b (by omega)⟩
    rcases Nat.lt_or_ge b m with hb | hb
    · exact hc.heap b hb
    · have : H'.at b = .dead := by
        unfold Heap.at
        rw [List.getD_eq_getElem?_getD, List.getElem?_eq_none (by omega)]; rfl
      rw [this]; exact .dead _
  · exact hi.cut' hc h1 h2

/-- who owns a block behind the cut owned it ahead -/
theorem Cut.owns {C : Ctx} {env env' : Env} {H H' : Heap} {m : Nat} (hc : Cut m env H env' H') {b cb : Nat} (h : Owns (C.cut m) H' b cb) : Owns C H b cb := by
  have hlt : b < m := by
    cases h with
    | row sz es _ base hb hφ => simp only [Ctx.cut] at hφ; split at hφ <;> first | assumption | cases hφ
    | tok e _ eo ce hb hτ => simp only [Ctx.cut] at hτ; split at hτ <;> first | assumption | cases hτ
    | map es _ hb hφ => simp only [Ctx.cut] at hφ; split at hφ <;> first | assumption | cases hφ
  have hw := hc.heap b hlt
  cases h with
  | row sz es _ base hb hφ =>
    rw [hb] at hw
    simp only [Ctx.cut, hlt, if_true] at hφ
    generalize hx : H.at b = x at hw
    cases hw with
    | refl => exact .row _ sz es _ base hx hφ
    | row _ es0 _ hl hs hc => exact .row _ sz es0 _ base hx hφ
  | tok e _ eo ce hb hτ =>
    rw [hb] at hw
    simp only [Ctx.cut, hlt, if_true] at hτ
    generalize hx : H.at b = x at hw
    cases hw with
    | refl => exact .tok _ e _ eo ce hx hτ
  | map es _ hb hφ =>
    rw [hb] at hw
    simp only [Ctx.cut, hlt, if_true] at hφ
    generalize hx : H.at b = x at hw
    cases hw with
    | refl => exact .map _ es _ hx hφ

theorem StepExt.cut {C C' : Ctx} {H : Heap} {m : Nat} (hs : StepExt C C') (hd : ∀ b, H.length ≤ b → Fresh C b) (hm : H.length ≤ m) : StepExt C (C'.cut m) where
  φ := fun b x hx => by
    rcases Nat.lt_or_ge b H.length with h | h
    · simp only [Ctx.cut, show b < m by omega, if_true]; exact hs.φ b x hx
    · rw [(hd b h).1] at hx; cases hx
  τ := fun t e x hx => by
    rcases Nat.lt_or_ge t H.length with h | h
    · simp only [Ctx.cut, show t < m by omega, if_true]; exact hs.τ t e x hx
    · rw [(hd t h).2 e] at hx; cases hx
  K := hs.K
  agree := hs.agree

theorem Frame'.cut {C C' : Ctx} {H H' H'' : Heap} {env' env'' : Env} {m : Nat} (hf : Frame' C H C' H') (hc : Cut m env' H' env'' H'') : Frame' C H (C'.cut m) H'' :=
  ⟨hf.os, hf.output, hf.size, hf.kept, fun b cb ho hcb => hf.owned b cb (hc.owns ho) hcb⟩

variable {P : Program} {n : Nat} {Q : AExit → Env → Heap → Prop} {env : Env} {H : Heap}

/-- going on from less -/
theorem aw_cut {c : Code} {m : Nat} {env' : Env} {H' : Heap} (hm : H.length ≤ m) (hc : Cut m env H env' H') (h : AW P n c Q env' H') : AW P n c Q env H := fun C a hi => by
  have hi' := hi.cut hc
  refine wp_mono (h (C.cut m) a hi') fun e a' w' hp => ?_
  exact hp.trans (StepExt.cut (.refl C) hi.dom hm) ((Frame'.refl C H).cut hc)

/-- a state in the middle, of which less is known -/
def AMid (len : Nat) (M : Env → Heap → Prop) (Q : AExit → Env → Heap → Prop) : AExit → Env → Heap → Prop
  | .normal, env', H' => ∃ m env'' H'', len ≤ m ∧ Cut m env' H' env'' H'' ∧ M env'' H''
  | x, env', H' => Q x env' H'

theorem aw_seq_mid {x y : Code} (M : Env → Heap → Prop) (h1 : AW P n x (AMid H.length M Q) env H) (h2 : ∀ env H, M env H → AW P n y Q env H) : AW P n (.seq x y) Q env H := fun C a hi =>
  wp_seq (wp_mono (h1 C a hi) fun e a' w' ⟨x, C', env', H', e1, e2, e3, e4, e5, e6⟩ => by
    subst e1; subst e4
    cases x with
    | normal =>
      obtain ⟨m, env'', H'', hm, hc, hM⟩ := e2
      exact wp_mono (h2 env'' H'' hM (C'.cut m) a' (e3.cut hc)) fun e a2 w2 hp => hp.trans (e5.cut hi.dom hm) (e6.cut hc)
    | exit id => exact ⟨.exit id, C', env', H', rfl, e2, e3, rfl, e5, e6⟩
    | ret => exact ⟨.ret, C', env', H', rfl, e2, e3, rfl, e5, e6⟩)

theorem aw_loop {c : Code} (I : Nat → Env → Heap → Prop) (k0 : Nat) (h0 : I k0 env H)
    (round : ∀ k env H, I k env H → AW P n c (fun x env' H' => match x with
      | .normal => ∃ k' m env'' H'', k' < k ∧ H.length ≤ m ∧ Cut m env' H' env'' H'' ∧ I k' env'' H''
      | x => Q x env' H') env H) : AW P n (.loop c) Q env H := fun C a hi => by
  refine wp_loop_ghost (fun k a' w' => ∃ C' env' H', I k env' H' ∧ AInv n C' env' H' a' ∧ C'.w = w' ∧ StepExt C C' ∧ Frame' C H C' H') k0 ⟨C, env, H, h0, hi, rfl, .refl C, .refl C H⟩ ?_
  rintro k a1 w1 ⟨C1, env1, H1, hI, hi1, rfl, hs1, hf1⟩
  refine wp_mono (round k env1 H1 hI C1 a1 hi1) fun e a' w' ⟨x, C', env', H', h1, h2, h3, h4, h5, h6⟩ => ?_
  subst h1; subst h4
  cases x with
  | normal =>
    obtain ⟨k', m, env'', H'', hlt, hm, hc, hI'⟩ := h2
    exact ⟨k', hlt, C'.cut m, env'', H'', hI', h3.cut hc, rfl, hs1.trans (h5.cut hi1.dom hm), hf1.trans (h6.cut hc)⟩
  | exit id => exact ⟨.exit id, C', env', H', rfl, h2, h3, rfl, hs1.trans h5, hf1.trans h6⟩
  | ret => exact ⟨.ret, C', env', H', rfl, h2, h3, rfl, hs1.trans h5, hf1.trans h6⟩
end Go.Av
