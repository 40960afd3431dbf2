/- Rows that grow, maps, methods of interface values and results taken over; no conditions. -/
import Derived.Test.YtfdafamjgnbecaaAvc
set_option linter.unusedVariables false
set_option linter.unusedSimpArgs false
/- Appending to a row of the call's own whose room is not known: the row is another one then. -/
set_option linter.unusedVariables false
namespace Go.Av
open Go
variable {P : Program} {T : Tys}

theorem cell_of_shape {w : World} {cb : Nat} {e : TypeId} {m j : Nat} (h : w.shape? cb = some (e, m)) (hj : j < m) : (w.cell? ⟨cb, j, none⟩).isSome = true := by
  unfold World.shape? at h
  unfold World.cell?
  cases hx : w.heap[cb]? with
  | none => rw [hx] at h; cases h
  | some o =>
    rw [hx] at h
    cases o with
    | cells c t f =>
      simp only [Option.some.injEq, Prod.mk.injEq] at h
      obtain ⟨_, rfl⟩ := h
      simpa using hj
    | _ => cases h

theorem HRel.kill1 {C : Ctx} {H : Heap} (h : HRel C H) (b : Nat) : HRel C (H.put b .dead) := h.weak fun q => by
  by_cases e : q = b
  · subst e; rw [Heap.at_put_same]; exact .dead _
  · rw [Heap.at_put_ne H b q _ e]; exact .refl _
theorem Owns.kill1 {C : Ctx} {H : Heap} {b q cb : Nat} (h : Owns C (H.put b .dead) q cb) : q ≠ b ∧ Owns C H q cb := by
  have hq : q ≠ b := fun e => by
    subst e
    cases h with
    | row _ _ _ _ hb _ => rw [Heap.at_put_same] at hb; cases hb
    | tok _ _ _ _ hb _ => rw [Heap.at_put_same] at hb; cases hb
    | map _ _ hb _ => rw [Heap.at_put_same] at hb; cases hb
  exact ⟨hq, h.put_ne hq⟩

theorem sem_app_move (hT : TyOK P T) {o : Oper} {cl : Call} {ts tx e : TypeId} {sx xx : Operand} {env : Env} {H : Heap} {d de : TyD} {b len n : Nat} {cap : Option Nat} {es ys0 ys : List (List AV)} {log : List Nat} {s1 s2 : Nat} (ho : o.op = .call cl) (hb : cl.callee = .builtin .append) (hts : cl.argTypes = #[ts, tx]) (hxs : cl.args = #[sx, xx])
    (hd : T ts = some d) (hk : d.kind = .slice e) (hde : T e = some de) (hs : env.ev s1 sx = .row b 0 len cap de.sz) (hat : H.at b = .row de.sz es) (hel : es.length = len) (hsk : srcKind T tx de (env.ev s2 xx) = true) (hsrc : srcOf H (env.ev s2 xx) = some (ys0, log)) (hys : srcFrz (env.ev s2 xx) ys0 = some ys)
    (hyl : ∀ y ∈ ys, y.length = de.sz) (hpos : 0 < ys.length) (hsmall : (len + ys.length) * (de.bytes + 1) ≤ 140737488355328) (hnb : n ≠ b) (hn : n ∉ log) :
    OpSem P o env H ⟨none, .row n 0 (len + ys.length) none de.sz, [(b, .dead), (n, .row de.sz (es ++ ys))], b :: log⟩ := by
  have hm1 : sx ∈ o.op.operands.toList := by rw [ho]; simp [Op.operands, Call.operands, hb, hxs]
  have hm2 : xx ∈ o.op.operands.toList := by rw [ho]; simp [Op.operands, Call.operands, hb, hxs]
  have run : ∀ (a : Act) {w w' : World} {v : Value}, (Builtin.append_ #[ts, tx] o.type #[a.eval sx, a.eval xx]).run P w = .ok v w' → (execOp a.eval o).run P w = .ok (.value v) w' := fun a w w' v hr =>
    exec_builtin ho hb a (s := Builtin.append_ #[ts, tx] o.type #[a.eval sx, a.eval xx]) (fun consts => by rw [hts, hxs]; simp only [List.map_toArray, List.map_cons, List.map_nil]; rfl) hr
  obtain ⟨i0, z0, u, hi0, hs0, _, _, hu, hko, _⟩ := hT.ok ts d hd
  rw [hk] at hko
  cases u <;> simp only [kindOK] at hko
  subst hko
  obtain ⟨ie, ze, ue, hie, hse, hby, hze, hue, hke, hagge, hzl, hzs, hzc, hza, hzn⟩ := hT.ok e de hde
  intro C a H2 henv hH hlog hwr hpre
  have hb2 : H2.at b = .row de.sz es := by rw [hlog b (by simp), hat]
  obtain ⟨news, hns, hnr, _⟩ := src_rel hT hH hse (ev_rel henv s2 xx hm2) hsk hsrc (fun q hq => hlog q (by simp [hq])) hys hyl
  have hrow := ev_rel henv s1 sx hm1
  rw [hs] at hrow
  obtain ⟨cb, base, ccap, hφ, e1, hlc, hcap, hcbl, e9, m9, hsh, hsp⟩ := hrow.row_inv'
  simp only [Nat.zero_mul, Nat.add_zero] at e1 hsp
  obtain ⟨cb', base', g, k1, k2, k3, k4, k5, k6, k7, k8⟩ := hH.row b de.sz es hb2
  rw [hφ] at k1; cases k1
  obtain ⟨hdead, hfresh⟩ : H2.at n = .dead ∧ Fresh C n := (hwr (n, .row de.sz (es ++ ys)) (by simp)).resolve_left (by simp [hnb, hn])
  have hnl : news.length = ys.length * de.sz := by rw [hns.newsLen, hse]
  have hlen : (es ++ ys).length = len + ys.length := by rw [List.length_append, hel]
  have hxl : ∀ x ∈ es ++ ys, x.length = de.sz := fun x hx => (List.mem_append.1 hx).elim (k4 x) (hyl x)
  have hownb : Owns C H2 b cb := .row b de.sz es cb base hb2 hφ
  have hb48 : (len + ys.length) * de.bytes ≤ 140737488355328 := Nat.le_trans (Nat.mul_le_mul_left _ (by omega)) hsmall
  have h63 : len + ys.length ≤ 140737488355328 := by
    have : (len + ys.length) * 1 ≤ (len + ys.length) * (de.bytes + 1) := Nat.mul_le_mul_left _ (by omega)
    omega
  have hold : ∀ {i j}, i < es.length → j < de.sz → i * de.sz + j < len * de.sz := fun {i j} hi hj => by rw [← hel]; exact idx_lt hi hj
  by_cases hroom : len + ys.length ≤ ccap
  · -- there is room
    have hcell : ∀ j, j < news.length → (C.w.cell? ⟨cb, base + len * de.sz + j, none⟩).isSome = true := fun j hj => cell_of_shape hsh (by
      have h1 : (len + ys.length) * de.sz ≤ ccap * de.sz := Nat.mul_le_mul_right _ hroom
      rw [Nat.add_mul] at h1; omega)
    have hrun := run_append_room_src (P := P) C.w ts tx o.type e ie hu hie cb base len ccap (a.eval xx) ys.length news hns hroom (fun j hj => by rw [hse]; exact hcell j hj) (fun j hj => k6 _)
    rw [hse] at hrun
    let C' : Ctx := { C with φ := fun q => if q = n then some (cb, base, de.sz) else C.φ q, w := C.w.setCells cb (base + len * de.sz) news }
    have hagree : Agree C.K C.w (C.w.setCells cb (base + len * de.sz) news) := Agree.of_block (kind_setCells cb news _ _) fun q hq => heap_setCells_ne cb news _ _ q (fun e => by subst e; exact hq k3)
    have hst : StepExt C C' := ⟨fun q x hx => by
      show (if q = n then _ else C.φ q) = some x
      rw [if_neg (fun e => by subst e; rw [hfresh.1] at hx; cases hx)]; exact hx, fun _ _ _ h => h, fun _ => Nat.le_refl _, hagree⟩
    have hφn : C'.φ n = some (cb, base, de.sz) := by simp [C']
    have hsize : (C.w.setCells cb (base + len * de.sz) news).heap.size = C.w.heap.size := size_setCells _ _ _ _
    have hne : ∀ q c, Owns C (H2.put b .dead) q c → c ≠ cb := fun q c ho e => by
      obtain ⟨h1, h2⟩ := ho.kill1
      exact h1 (hH.own _ _ _ h2 (e ▸ hownb))
    have hblk : BlkOK C' n (.row de.sz (es ++ ys)) := by
      refine ⟨cb, base, fun i j => if i < es.length then g i j else news.getD ((i - es.length) * de.sz + j) undef, hφn, by show _ < (C.w.setCells _ _ _).heap.size; rw [hsize]; exact k2, k3, hxl, fun i j hi hj => ?_, fun j => ?_, fun i j hi hj => ?_, fun i j hi hj => ?_⟩
      · show (C.w.setCells cb (base + len * de.sz) news).cell? _ = _
        dsimp only
        split
        · rename_i hi'
          rw [World.cell?_setCells_out cb news _ _ _ (fun _ _ => .inl (by have := hold hi' hj; show base + (i * de.sz + j) < base + len * de.sz; omega))]
          exact k5 i j hi' hj
        · rename_i hi'
          have h1 : (i - es.length) * de.sz + j < news.length := by rw [hnl]; exact idx_lt (by omega) hj
          have := World.cell?_setCells_in cb news (base + len * de.sz) C.w hcell ((i - es.length) * de.sz + j) h1
          rw [show base + len * de.sz + ((i - es.length) * de.sz + j) = base + (i * de.sz + j) by
            rw [Nat.sub_mul, hel]
            have : len * de.sz ≤ i * de.sz := Nat.mul_le_mul_right _ (by omega)
            omega] at this
          rw [this, List.getD_eq_getElem?_getD, List.getElem?_eq_getElem h1]; rfl
      · show (C.w.setCells cb (base + len * de.sz) news).frozen? _ = _
        rw [World.frozen?_setCells]; exact k6 _
      · dsimp only
        split
        · rename_i hi'; exact k7 i j hi' hj
        · rename_i hi'
          have h1 : (i - es.length) * de.sz + j < news.length := by rw [hnl]; exact idx_lt (by omega) hj
          exact hns.one _ (by rw [List.getD_eq_getElem?_getD, List.getElem?_eq_getElem h1]; exact List.getElem_mem h1)
      · dsimp only
        split
        · rename_i hi'
          rw [getDL_app_left hi']
          exact (k8 i j hi' hj).mono hst
        · rename_i hi'
          rw [getDL_app_right (by omega)]
          exact (VRel.fro _ _ (hnr (i - es.length) j (by omega) hj)).mono hst
    have hown : ∀ q, Owns C' ((H2.put b .dead).put n (.row de.sz (es ++ ys))) n q → q = cb := fun q ho => by
      cases ho with
      | row sz' es' _ base' hb' hφ' => rw [hφn] at hφ'; cases hφ'; rfl
      | tok e' _ eo ce hb' hτ => rw [Heap.at_put_same] at hb'; cases hb'
      | map es _ hb' hφ' => rw [Heap.at_put_same] at hb'; cases hb'
    have hk1 := hH.kill1 b
    refine ⟨.slice (some ⟨cb, base, none⟩) (len + ys.length) ccap, C', .inl (run a ?_), ?_, ?_, hst, ⟨(os_setCells cb news _ _).1, (os_setCells cb news _ _).2, by show _ ≤ (C.w.setCells _ _ _).heap.size; rw [hsize]; exact Nat.le_refl _, fun c hc hno => ⟨heap_setCells_ne cb news _ _ c (fun e => hno b (e ▸ hownb)), rfl⟩, fun q c ho hc => ?_⟩, fun q hq => ⟨?_, rfl⟩⟩
    · rw [e1]; exact hrun
    · have := VRel.row (C := C') n 0 (len + ys.length) de.sz cb base ccap none hφn hroom (fun c hc => by cases hc) ⟨by show _ < (C.w.setCells _ _ _).heap.size; rw [hsize]; exact hcbl, e9, m9, (shape?_setCells ..).trans hsh, by simpa using hsp⟩
      simpa using this
    · exact hk1.change hst n _ (fun q c hq ho => ⟨heap_setCells_ne cb news _ _ c (hne q c ho), rfl⟩) (by show _ ≤ (C.w.setCells _ _ _).heap.size; rw [hsize]; exact Nat.le_refl _) (fun q hq => by show _ < (C.w.setCells _ _ _).heap.size; rw [hsize]; exact hH.dom q hq) (fun _ _ => rfl) hblk (fun q ho q' hq' ho' => hne q' q ho' (hown q ho))
    · by_cases hq : q = n
      · subst hq; exact ⟨b, hown c ho ▸ hownb⟩
      · exact ⟨q, ((ho.put_ne hq).back hk1 hst).kill1.2⟩
    · show (if q = n then _ else C.φ q) = _
      rw [if_neg fun e => hq (n, .row de.sz (es ++ ys)) (by simp) e.symm]
  · -- it grows
    let olds := flatOf es.length de.sz g
    have hol : olds.length = len * de.sz := by rw [← hel]; exact flatOf_length ..
    have hfirst : (Builtin.firstCells ie.size len (.slice (some ⟨cb, base, none⟩) len ccap)).run P C.w.drew = .ok olds.toArray C.w.drew := by
      refine run_firstCells_some _ _ _ _ _ _ olds (by rw [hol, hse]) fun j u hu => ?_
      have hj : j < es.length * de.sz := by rw [hel, ← hol]; exact (List.getElem?_eq_some_iff.1 hu).1
      rw [flatOf_get g hj] at hu
      cases hu
      obtain ⟨q1, q2, q3⟩ := idx_split hj
      have := k5 _ _ q1 q2
      rw [q3] at this
      rw [Addr.add_mid]
      exact this
    have hrun := run_append_grow_src (P := P) C.w ts tx o.type e ie ze hu hie hze (some ⟨cb, base, none⟩) len ccap olds hfirst (a.eval xx) ys.length news hns (by omega) (by omega) (growslice_fits (by omega) (by rw [hby]; exact hb48))
    generalize hgc : grownCap C.w (len + ys.length) ccap e = gc at hrun
    have hgcle : len + ys.length ≤ gc := by rw [← hgc]; exact grown_le _ _ _ _
    have hcsz : ((olds ++ news).toArray ++ Builtin.zeroCells ze.cells (gc - (len + ys.length))).size = gc * de.sz := by
      simp only [Array.size_append, List.size_toArray, List.length_append, size_zeroCells, hol, hnl, hzs]
      rw [← Nat.add_mul, ← Nat.add_mul]; congr 1; omega
    have hcget : ∀ k, k < (len + ys.length) * de.sz → ((olds ++ news).toArray ++ Builtin.zeroCells ze.cells (gc - (len + ys.length))).getD k undef = (olds ++ news).getD k undef := fun k hk => by
      have hk' : k < (olds ++ news).length := by rw [List.length_append, hol, hnl, ← Nat.add_mul]; exact hk
      rw [Array.getD_eq_getD_getElem?, Array.getElem?_append_left (by simpa using hk'), List.getD_eq_getElem?_getD]
      simp
    have hold' : ∀ {i j}, i < es.length → j < de.sz → (olds ++ news).getD (i * de.sz + j) undef = g i j := fun {i j} hi hj => by
      rw [getD_app_left (by rw [hol]; exact hold hi hj)]
      exact flatOf_getD g hi hj
    have hnew' : ∀ {i j}, es.length ≤ i → i < (es ++ ys).length → j < de.sz → (olds ++ news).getD (i * de.sz + j) undef = news.getD ((i - es.length) * de.sz + j) undef := fun {i j} hi hi2 hj => by
      have h1 : len * de.sz ≤ i * de.sz := Nat.mul_le_mul_right _ (by omega)
      rw [getD_app_right (by omega), hol, Nat.sub_mul, hel]
      congr 1; omega
    have ha := Allocs.drew C.w (.cells ((olds ++ news).toArray ++ Builtin.zeroCells ze.cells (gc - (len + ys.length))) e)
    have hk1 := hH.kill1 b
    have hdead' : (H2.put b .dead).at n = .dead := by rw [Heap.at_put_ne H2 b n _ hnb]; exact hdead
    obtain ⟨r1, r2, r3, r4⟩ := newRow_ok hk1 hdead' hfresh ha (Nat.le_refl _) (es ++ ys) hxl (by rw [hcsz, hlen]; exact Nat.mul_le_mul_right _ hgcle) (fun k hk => by
        rw [hlen] at hk
        rw [hcget k hk]
        obtain ⟨q1, q2, q3⟩ := idx_split hk
        rw [← q3]
        rcases Nat.lt_or_ge (k / de.sz) es.length with h | h
        · rw [hold' h q2]; exact k7 _ _ h q2
        · rw [hnew' h (by rw [hlen]; exact q1) q2]
          have h1 : (k / de.sz - es.length) * de.sz + k % de.sz < news.length := by rw [hnl]; exact idx_lt (by omega) q2
          exact hns.one _ (by rw [List.getD_eq_getElem?_getD, List.getElem?_eq_getElem h1]; exact List.getElem_mem h1)) (fun i j hi hj => by
        rw [hcget _ (by rw [← hlen]; exact idx_lt hi hj)]
        rcases Nat.lt_or_ge i es.length with h | h
        · rw [hold' h hj, getDL_app_left h]; exact k8 i j h hj
        · rw [hnew' h hi hj, getDL_app_right h]
          rw [List.length_append] at hi
          exact .fro _ _ (hnr _ j (by omega) hj))
    refine ⟨.slice (some ⟨C.w.heap.size, 0, none⟩) (len + ys.length) gc, C.newRow n de.sz _, .inl (run a ?_), ?_, r1, r2, ⟨r3.os, r3.output, r3.size, fun c hc hno => r3.kept c hc fun q hq => hno q hq.kill1.2, fun q c ho hc => ?_⟩, fun q hq => r4 q (hq (n, .row de.sz (es ++ ys)) (by simp))⟩
    · rw [e1]; exact hrun
    · have := VRel.row (C := C.newRow n de.sz (C.w.drew.alloc (.cells ((olds ++ news).toArray ++ Builtin.zeroCells ze.cells (gc - (len + ys.length))) e))) n 0 (len + ys.length) de.sz C.w.heap.size 0 gc none (by simp [Ctx.newRow]) hgcle (fun c hc => by cases hc) ⟨by show _ < (C.w.drew.alloc _).heap.size; rw [heap_alloc_size]; show _ < C.w.heap.size + 1; omega, _, _, ha.shape, by rw [hcsz]; simp⟩
      simpa using this
    · obtain ⟨q', hq'⟩ := r3.owned q c ho hc
      exact ⟨q', hq'.kill1.2⟩
end Go.Av
/- Calls whose outcome is left open: of frozen data, and of memory of the call's own. -/
set_option linter.unusedVariables false
namespace Go.Av
open Go
variable {P : Program} {T : Tys}

/-- A function of frozen data: its result is known data of which R holds, and all memory that there was is as it was. -/
def QCall (P : Program) (g : FuncId) (args : List AV) (R : AV → Prop) : Prop :=
  ∀ (K : Nat → Nat) (w : World) (vs : Array Value), (∀ b, K b ≠ 0 → b < w.heap.size) → vs.size = args.length → (∀ i, i < args.length → FRel K w (args.getD i .junk) (vs.getD i undef)) →
    Calls P g vs w fun e w' => ∃ v r K', e = .returned v ∧ R r ∧ FRel K' w' r v ∧ Grown K w K' w'

theorem qcall_of_fcall {g : FuncId} {args : List AV} {R : AV → Prop} (h : FCall P g args [] fun r' _ => ∃ r, frz r' = some r ∧ R r) : QCall P g args R := by
  intro K w vs hdom hsz hvs
  refine Calls.mono (h (.none K w) vs (.nil K w hdom) (fun b _ => ⟨rfl, fun _ => rfl⟩) hsz (fun i hi => .fro _ _ (hvs i hi))) ?_
  rintro e w' ⟨v, r', C', H', h1, ⟨r, h2, h2'⟩, h3, h4, h5, h6, h7, h8⟩
  subst h4
  exact ⟨v, r, C'.K, h1, h2', h3.frz h2, h7.K, h7.agree, h8.os, h8.output, h8.size, fun cb hcb => h8.kept cb hcb fun b hb => hb.nil, h5.dom⟩
theorem PCall.q {g : FuncId} {args : List AV} {r : AV} (h : PCall P g args r) : QCall P g args (· = r) := fun K w vs h1 h2 h3 =>
  Calls.mono (h K w vs h1 h2 h3) fun e w' ⟨v, K', h4, h5, h6⟩ => ⟨v, r, K', h4, rfl, h5, h6⟩
theorem QCall.mono {g : FuncId} {args : List AV} {R R' : AV → Prop} (h : QCall P g args R) (hr : ∀ r, R r → R' r) : QCall P g args R' := fun K w vs h1 h2 h3 =>
  Calls.mono (h K w vs h1 h2 h3) fun e w' ⟨v, r, K', h4, h5, h6⟩ => ⟨v, r, K', h4, hr r h5, h6⟩

variable {n : Nat} {ops : Array Oper} {Q : Env → Heap → Prop} {o : Oper} {os : List Oper} {acc : List Itm} {env : Env} {H : Heap}

theorem open_qcall {c : Call} {g : FuncId} {fn : Func} {body : Code} {args : List AV} {R : AV → Prop} (ho : o.op = .call c) (hc : c.callee = .value (.func g)) (hf : FnOK P g fn body)
    (ha : frzL (c.args.toList.map (env.ev 0)) = some args) (h : QCall P g args R) (H : Heap) : OpenEff P o env H [] fun e => ∃ r, R r ∧ e = ⟨r, [], []⟩ := by
  intro C a H2 henv hH hlog hnew next Q hk
  unfold Oper.wp
  rw [execOp_call ho hc hf]
  simp only [Oper.upon]
  have hops : ∀ x, x ∈ c.args.toList → x ∈ o.op.operands.toList := fun x hx => by
    rw [ho]; simp [Op.operands, Call.operands, hc] ; simp at hx; exact .inr hx
  have hl := frzL_length ha
  refine Calls.mono (h C.K C.w _ hH.dom (by simp [hl]) (frzL_rel ha fun i hi => ?_)) ?_
  · have hi' : i < c.args.size := by simpa using hi
    have h1 := ev_rel henv 0 (c.args[i]) (hops _ (by simp))
    have e1 : (c.args.toList.map (env.ev 0)).getD i .junk = env.ev 0 c.args[i] := by simp [List.getD_eq_getElem?_getD, hi']
    have e2 : (c.args.map a.eval).getD i undef = a.eval c.args[i] := by simp [Array.getD_eq_getD_getElem?, hi']
    rw [e1, e2]; exact h1
  · rintro e w' ⟨v, r, K', rfl, h0, h1, h2⟩
    exact hk ⟨r, [], []⟩ v (C.grow K' w') ⟨r, h0, rfl⟩ (.fro _ _ h1) (hH.grow h2) (.grow h2) (.grow h2) (fun _ _ h => h)

theorem OpenEff.rel {log : List Nat} {F : Eff → Prop} (h : OpenEff P o env H log F) : OpRel P o env H fun r H' => ∃ e, F e ∧ r = e.v ∧ H' = H.puts e.wr := by
  intro C a henv hH hdom next Q hk
  refine h C a H henv hH (fun _ _ => rfl) (fun b hb => ⟨?_, hdom b hb⟩) next Q fun e v' C' hF hv hH' hs hf hu => ?_
  · unfold Heap.at
    rw [List.getD_eq_getElem?_getD, List.getElem?_eq_none hb]; rfl
  · have hlen := Heap.length_puts e.wr H
    exact hk v' e.v C' _ ⟨e, hF, rfl, rfl⟩ hv hH' (fun b hb => hu b (fun p hp he => by have := hlen.2 p hp; omega) (hdom b (by omega))) hs hf

/-! ### calls of memory of the call's own -/
mutual
/-- all ids are of S, or of this number or more -/
def AV.idin (S : List Nat) (n : Nat) : AV → Bool
  | .agg cs => idinL S n cs
  | .tup cs => idinL S n cs
  | .asl t _ _ _ => S.contains t || Nat.ble n t
  | .row b _ _ _ _ => S.contains b || Nat.ble n b
  | .ptr b _ _ => S.contains b || Nat.ble n b
  | .fn _ a b => idinL S n a && idinL S n b
  | .iface _ v => AV.idin S n v
  | .mapr b => S.contains b || Nat.ble n b
  | _ => true
def idinL (S : List Nat) (n : Nat) : List AV → Bool
  | [] => true
  | a :: l => AV.idin S n a && idinL S n l
end
theorem idinL_get {S : List Nat} {n : Nat} : ∀ {l : List AV}, idinL S n l = true → ∀ i, (l.getD i .junk).idin S n = true
  | [], _, i => by simp [AV.idin]
  | a :: l, h, i => by
    simp only [idinL, Bool.and_eq_true] at h
    cases i with
    | zero => simpa using h.1
    | succ i => simpa using idinL_get h.2 i
def Blk.idin (S : List Nat) (n : Nat) : Blk → Bool
  | .row _ es => es.all (idinL S n)
  | _ => true
theorem idin_or {S : List Nat} {n b : Nat} (h : (S.contains b || Nat.ble n b) = true) : b ∈ S ∨ n ≤ b := by
  rcases (Bool.or_eq_true _ _).mp h with h | h
  · exact .inl (by simpa using h)
  · exact .inr (Nat.le_of_ble_eq_true h)

theorem VRel.join_in {C C' : Ctx} {log : List Nat} {n m : Nat} (hm : ∀ b, m ≤ b → Fresh C' b) {a : AV} {v : Value} (h : VRel C' a v) : a.idin log n = true → VRel (Ctx.join C C' log n m) a v := by
  have key : ∀ b, (b ∈ log ∨ n ≤ b) → ¬ Fresh C' b → (Ctx.join C C' log n m).φ b = C'.φ b ∧ (Ctx.join C C' log n m).τ b = C'.τ b := fun b hb hf =>
    Go.Av.join_in (hb.imp id fun h => ⟨h, Nat.lt_of_not_le fun h => hf (hm b h)⟩)
  induction h with
  | fro a v h => intro _; exact .fro a v h
  | agg cs vs hl _ ih => intro hb; simp only [AV.idin] at hb; exact .agg cs vs hl fun i hi => ih i hi (idinL_get hb i)
  | tup cs vs hl _ ih => intro hb; simp only [AV.idin] at hb; exact .tup cs vs hl fun i hi => ih i hi (idinL_get hb i)
  | fn f first caps vf vc hf hc _ _ ih1 ih2 =>
    intro hb
    simp only [AV.idin, Bool.and_eq_true] at hb
    exact .fn f first caps vf vc hf hc (fun i hi => ih1 i hi (idinL_get hb.1 i)) (fun i hi => ih2 i hi (idinL_get hb.2 i))
  | iface t a v _ ih => intro hb; simp only [AV.idin] at hb; exact .iface t a v (ih hb)
  | ptr b i j cb base sz h =>
    intro hb
    have := key b (idin_or hb) (fun hf => by rw [hf.1] at h; cases h)
    exact .ptr b i j cb base sz (this.1.trans h)
  | row b off len sz cb base ccap cap h hc hcap hsp =>
    intro hb
    have := key b (idin_or hb) (fun hf => by rw [hf.1] at h; cases h)
    exact .row b off len sz cb base ccap cap (this.1.trans h) hc hcap hsp
  | asl t e sz xs cb off eo ce ccap h hx he hc hce hp =>
    intro hb
    have := key t (idin_or hb) (fun hf => by rw [hf.2] at h; cases h)
    exact .asl t e sz xs cb off eo ce ccap (by rw [this.2]; exact h) hx he hc hce hp
  | asl0 t e sz h =>
    intro hb
    have := key t (idin_or hb) (fun hf => by rw [hf.2] at h; cases h)
    exact .asl0 t e sz (by rw [this.2]; exact h)
  | mapr b r h =>
    intro hb
    have := key b (idin_or hb) (fun hf => by rw [hf.1] at h; cases h)
    exact .mapr b r (this.1.trans h)

theorem BlkOK.join_in {C C' : Ctx} {log : List Nat} {n m b : Nat} {x : Blk} (hm : ∀ b, m ≤ b → Fresh C' b) (hb : b ∈ log ∨ (n ≤ b ∧ b < m)) (hx : x.idin log n = true) (h : BlkOK C' b x) : BlkOK (Ctx.join C C' log n m) b x := by
  have hj := Go.Av.join_in (C := C) (C' := C') (log := log) (n := n) (m := m) (b := b) hb
  cases x with
  | dead => trivial
  | row sz es =>
    obtain ⟨cb, base, g, k1, k2, k3, k4, k5, k6, k7, k8⟩ := h
    simp only [Blk.idin, List.all_eq_true] at hx
    refine ⟨cb, base, g, hj.1.trans k1, k2, k3, k4, k5, k6, k7, fun i j hi hj' => (k8 i j hi hj').join_in hm ?_⟩
    exact idinL_get (hx _ (by rw [List.getD_eq_getElem?_getD, List.getElem?_eq_getElem hi]; exact List.getElem_mem hi)) j
  | tok e =>
    obtain ⟨k1, k2⟩ := h
    exact ⟨fun e' he' => by rw [hj.2]; exact k1 e' he', by rw [hj.2]; exact k2⟩
  | mapb es =>
    obtain ⟨r, entries, clock, k1, k2⟩ := h
    exact ⟨r, entries, clock, hj.1.trans k1, k2⟩

theorem puts_len : ∀ (ws : List (Nat × Blk)) (H : Heap), (∀ p ∈ ws, p.1 < H.length) → (H.puts ws).length = H.length
  | [], H, _ => rfl
  | (b, x) :: ws, H, h => by
    have h1 := Heap.put_length H b x (h (b, x) (by simp))
    simp only [Heap.puts]
    rw [puts_len ws _ (fun p hp => by rw [h1]; exact h p (by simp [hp])), h1]

theorem open_fcall {c : Call} {g : FuncId} {fn : Func} {body : Code} {log : List Nat} {F : AV → List (Nat × Blk) → List Blk → Prop} (ho : o.op = .call c) (hc : c.callee = .value (.func g)) (hf : FnOK P g fn body)
    (hab : blwL H.length (c.args.toList.map (env.ev 0)) = true) (hlog : ∀ b ∈ log, b < H.length ∧ (H.at b).blw H.length = true) (hrow : ∀ b ∈ log, ∃ sz es, H.at b = .row sz es)
    (hF : ∀ r ws Bs, F r ws Bs → r.idin log H.length = true ∧ (∀ p ∈ ws, p.1 ∈ log ∧ Blk.idin log H.length p.2 = true) ∧ ∀ x ∈ Bs, Blk.idin log H.length x = true)
    (h : ∀ H1 : Heap, H1.length = H.length → (∀ b ∈ log, H1.at b = H.at b) → FCall P g (c.args.toList.map (env.ev 0)) H1 fun r H' => ∃ ws Bs, F r ws Bs ∧ H' = H1.puts ws ++ Bs) :
    OpenEff P o env H log fun e => ∃ r ws Bs, F r ws Bs ∧ e = ⟨r, ws ++ newWr H.length Bs, log⟩ := by
  intro C a H2 henv hH hlg hnew next Q hk
  have hll : ∀ b ∈ log, b < H.length := fun b hb => (hlog b hb).1
  have hat : ∀ b, (H2.pick H.length log).at b = if b ∈ log then H2.at b else .dead := Heap.at_pick H2 H.length log hll
  have hHn : HRel (C.cut H.length) (H2.pick H.length log) := by
    have h1 : HRel C (H2.pick H.length log) := hH.weak fun b => by
      rw [hat b]
      split
      · exact .refl _
      · exact .dead _
    have h2 := h1.cut (n := H.length) fun b hb => by
      rw [hat b]
      split
      · rename_i hbl; rw [hlg b hbl]; exact (hlog b hbl).2
      · rfl
    rwa [List.take_of_length_le (by rw [Heap.pick_length]; exact Nat.le_refl _)] at h2
  unfold Oper.wp
  rw [execOp_call ho hc hf]
  simp only [Oper.upon]
  have hops : ∀ x, x ∈ c.args.toList → x ∈ o.op.operands.toList := fun x hx => by
    rw [ho]; simp [Op.operands, Call.operands, hc]; simp at hx; exact .inr hx
  refine Calls.mono (h (H2.pick H.length log) (Heap.pick_length ..) (fun b hb => by rw [hat b, if_pos hb]; exact hlg b hb) (C.cut H.length) _ hHn (fun b hb => ?_) (by simp) (fun i hi => ?_)) ?_
  · rw [Heap.pick_length] at hb
    have : ¬ b < H.length := by omega
    exact ⟨by simp [Ctx.cut, this], fun e => by simp [Ctx.cut, this]⟩
  · have hi' : i < c.args.size := by simpa using hi
    have h1 := ev_rel henv 0 (c.args[i]) (hops _ (by simp))
    have e1 : (c.args.toList.map (env.ev 0)).getD i .junk = env.ev 0 c.args[i] := by simp [List.getD_eq_getElem?_getD, hi']
    have e2 : (c.args.map a.eval).getD i undef = a.eval c.args[i] := by simp [Array.getD_eq_getD_getElem?, hi']
    have h2 := blwL_get hab i
    rw [e1] at h2
    rw [e1, e2]; exact h1.cut h2
  · rintro e w' ⟨v, r, C', H', rfl, ⟨ws, Bs, hFr, rfl⟩, hv, rfl, hH', hdom', hs, hfr⟩
    obtain ⟨hr, hws, hBs⟩ := hF r ws Bs hFr
    have hpl : ((H2.pick H.length log).puts ws).length = H.length := by
      rw [puts_len ws _ (fun p hp => by rw [Heap.pick_length]; exact hll _ (hws p hp).1), Heap.pick_length]
    have hlen : ((H2.pick H.length log).puts ws ++ Bs).length = H.length + Bs.length := by rw [List.length_append, hpl]
    have hm : ∀ b, H.length + Bs.length ≤ b → Fresh C' b := fun b hb => hdom' b (by rw [hlen]; exact hb)
    have hst : StepExt C (Ctx.join C C' log H.length (H.length + Bs.length)) := StepExt.join hll (fun b h1 h2 => (hnew b h1).2) hs
    have hnew' : ∀ b, H.length ≤ b → b < H.length + Bs.length → Heap.at ((H2.pick H.length log).puts ws ++ Bs) b = Bs.getD (b - H.length) .dead := fun b h1 h2 => by
      have h9 := Heap.at_app ((H2.pick H.length log).puts ws) Bs (b - H.length)
      rw [hpl, show H.length + (b - H.length) = b by omega] at h9
      exact h9
    have hat2 : ∀ b, (H2.puts (ws ++ newWr H.length Bs)).at b = if H.length ≤ b ∧ b < H.length + Bs.length then Bs.getD (b - H.length) .dead else (H2.puts ws).at b := fun b => by
      rw [puts_append, at_newWr]
    have hold' : ∀ b ∈ log, Heap.at ((H2.pick H.length log).puts ws ++ Bs) b = (H2.puts ws).at b := fun b hb => by
      rw [Heap.at_old _ _ (by rw [hpl]; exact hll b hb), Heap.at_puts, Heap.at_puts]
      exact fputs_congr _ _ _ _ (by rw [hat b, if_pos hb])
    have helse : ∀ b, b ∉ log → (H2.puts ws).at b = H2.at b := fun b hb => by
      rw [Heap.at_puts]
      exact fputs_notin _ _ _ fun p hp he => hb (he ▸ (hws p hp).1)
    have hpick : ∀ b cb, Owns (C.cut H.length) (H2.pick H.length log) b cb → b ∈ log ∧ Owns C H2 b cb := fun b cb ho => by
      cases ho with
      | row sz es _ base hb hφ =>
        rw [hat] at hb
        split at hb
        · rename_i hl; exact ⟨hl, .row _ sz es _ base hb (by simpa [Ctx.cut, hll b hl] using hφ)⟩
        · cases hb
      | tok e _ eo ce hb hτ =>
        rw [hat] at hb
        split at hb
        · rename_i hl; exact ⟨hl, .tok _ e _ eo ce hb (by simpa [Ctx.cut, hll b hl] using hτ)⟩
        · cases hb
      | map es _ hb hφ =>
        rw [hat] at hb
        split at hb
        · rename_i hl; exact ⟨hl, .map _ es _ hb (by simpa [Ctx.cut, hll b hl] using hφ)⟩
        · cases hb
    have hown' : ∀ b cb, Owns (Ctx.join C C' log H.length (H.length + Bs.length)) (H2.puts (ws ++ newWr H.length Bs)) b cb →
        Owns C' ((H2.pick H.length log).puts ws ++ Bs) b cb ∨ (b ∉ log ∧ Owns C H2 b cb) := fun b cb ho => by
      have hatb := hat2 b
      by_cases h1 : H.length ≤ b ∧ b < H.length + Bs.length
      · rw [if_pos h1, ← hnew' b h1.1 h1.2] at hatb
        have hj := Go.Av.join_in (C := C) (C' := C') (log := log) (n := H.length) (m := H.length + Bs.length) (b := b) (.inr h1)
        left
        cases ho with
        | row sz es _ base hb hφ => exact .row _ sz es _ base (hatb ▸ hb) (hj.1 ▸ hφ)
        | tok e _ eo ce hb hτ => exact .tok _ e _ eo ce (hatb ▸ hb) (by rw [← hj.2]; exact hτ)
        | map es _ hb hφ => exact .map _ es _ (hatb ▸ hb) (hj.1 ▸ hφ)
      · rw [if_neg h1] at hatb
        by_cases h2 : b ∈ log
        · rw [← hold' b h2] at hatb
          have hj := Go.Av.join_in (C := C) (C' := C') (log := log) (n := H.length) (m := H.length + Bs.length) (b := b) (.inl h2)
          left
          cases ho with
          | row sz es _ base hb hφ => exact .row _ sz es _ base (hatb ▸ hb) (hj.1 ▸ hφ)
          | tok e _ eo ce hb hτ => exact .tok _ e _ eo ce (hatb ▸ hb) (by rw [← hj.2]; exact hτ)
          | map es _ hb hφ => exact .map _ es _ (hatb ▸ hb) (hj.1 ▸ hφ)
        · rw [helse b h2] at hatb
          have hj := join_out (C := C) (C' := C') (log := log) (n := H.length) (m := H.length + Bs.length) (b := b) (fun h => h.elim h2 h1)
          refine .inr ⟨h2, ?_⟩
          cases ho with
          | row sz es _ base hb hφ => exact .row _ sz es _ base (hatb ▸ hb) (hj.1 ▸ hφ)
          | tok e _ eo ce hb hτ => exact .tok _ e _ eo ce (hatb ▸ hb) (by rw [← hj.2]; exact hτ)
          | map es _ hb hφ => exact .map _ es _ (hatb ▸ hb) (hj.1 ▸ hφ)
    have hmix : ∀ b b' cb, Owns C' ((H2.pick H.length log).puts ws ++ Bs) b cb → b' ∉ log → Owns C H2 b' cb → False := fun b b' cb h1 h2 h3 => by
      obtain ⟨b'', h4⟩ := hfr.owned b cb h1 (hH.owns_lt h3)
      obtain ⟨h5, h6⟩ := hpick b'' cb h4
      exact h2 (hH.own b' b'' cb h3 h6 ▸ h5)
    refine hk ⟨r, ws ++ newWr H.length Bs, log⟩ v (Ctx.join C C' log H.length (H.length + Bs.length)) ⟨r, ws, Bs, hFr, rfl⟩ (hv.join_in hm hr) ⟨fun b => ?_, fun b b' cb h1 h2 => ?_, hH'.dom⟩ hst
      ⟨hfr.os, hfr.output, hfr.size, fun cb hcb hn => hfr.kept cb hcb fun b hb => hn b (hpick b cb hb).2, fun b cb ho hcb => ?_⟩ (fun b hb hfrsh => ?_)
    · rw [hat2]
      by_cases h1 : H.length ≤ b ∧ b < H.length + Bs.length
      · rw [if_pos h1]
        have h2 := hH'.blk b
        rw [hnew' b h1.1 h1.2] at h2
        have h3 : b - H.length < Bs.length := by omega
        exact BlkOK.join_in hm (.inr h1) (hBs _ (by rw [List.getD_eq_getElem?_getD, List.getElem?_eq_getElem h3]; exact List.getElem_mem h3)) h2
      · rw [if_neg h1]
        by_cases h2 : b ∈ log
        · have h3 := hH'.blk b
          rw [hold' b h2] at h3
          by_cases hw : ∃ p ∈ ws, p.1 = b
          · refine BlkOK.join_in hm (.inl h2) ?_ h3
            rw [Heap.at_puts]
            have : ∀ (ws : List (Nat × Blk)) (f : Nat → Blk), (∀ p ∈ ws, Blk.idin log H.length p.2 = true) → (∃ p ∈ ws, p.1 = b) ∨ Blk.idin log H.length (f b) = true → Blk.idin log H.length (fputs ws f b) = true := by
              intro ws
              induction ws with
              | nil => intro f _ hh; rcases hh with ⟨p, hp, _⟩ | hh; cases hp; exact hh
              | cons q ws ih =>
                obtain ⟨q1, q2⟩ := q
                intro f hall hh
                simp only [fputs]
                refine ih _ (fun p hp => hall p (by simp [hp])) ?_
                by_cases hq : q1 = b
                · subst hq; right; simpa using hall (q1, q2) (by simp)
                · rcases hh with ⟨p, hp, hpb⟩ | hh
                  · rcases List.mem_cons.1 hp with rfl | hp
                    · exact absurd hpb hq
                    · exact .inl ⟨p, hp, hpb⟩
                  · right
                    have : (q1 == b) = false := by simpa using hq
                    rw [this]; exact hh
            exact this ws _ (fun p hp => (hws p hp).2) (.inl hw)
          · have h4 : (H2.puts ws).at b = H2.at b := by
              rw [Heap.at_puts, fputs_notin _ _ _ fun p hp he => hw ⟨p, hp, he⟩]
            rw [h4] at h3 ⊢
            exact BlkOK.join_log hs h2 (by rw [hlg b h2]; exact (hlog b h2).2) (hH.blk b) h3
        · rw [helse b h2]
          refine BlkOK.join_else hst hfr.size (fun h => h.elim h2 h1) (fun cb H0 h3 h4 => ?_) (hH.blk b)
          have h5 : Owns C H2 b cb := by
            cases h4 with
            | row sz es _ base hb hφ => exact .row _ sz es _ base (h3 ▸ hb) hφ
            | tok e _ eo ce hb hτ => exact .tok _ e _ eo ce (h3 ▸ hb) hτ
            | map es _ hb hφ => exact .map _ es _ (h3 ▸ hb) hφ
          exact hfr.kept cb (hH.owns_lt h5) fun b' hb' => h2 (hH.own b b' cb h5 (hpick b' cb hb').2 ▸ (hpick b' cb hb').1)
    · rcases hown' b cb h1 with h1 | ⟨n1, h1⟩ <;> rcases hown' b' cb h2 with h2 | ⟨n2, h2⟩
      · exact hH'.own b b' cb h1 h2
      · exact (hmix b b' cb h1 n2 h2).elim
      · exact (hmix b' b cb h2 n1 h1).elim
      · exact hH.own b b' cb h1 h2
    · rcases hown' b cb ho with h1 | ⟨_, h1⟩
      · obtain ⟨b', h2⟩ := hfr.owned b cb h1 hcb
        exact ⟨b', (hpick b' cb h2).2⟩
      · exact ⟨b, h1⟩
    · refine Fresh.join (fun h => ?_) hfrsh
      rcases h with h | h
      · obtain ⟨sz, es, h1⟩ := hrow b h
        have h2 := hH.blk b
        rw [hlg b h, h1] at h2
        obtain ⟨cb, base, g, k1, _⟩ := h2
        rw [hfrsh.1] at k1; cases k1
      · refine hb (b, Bs.getD (b - H.length) .dead) ?_ rfl
        refine List.mem_append_right _ ?_
        unfold newWr
        refine List.mem_map.2 ⟨b - H.length, List.mem_range.2 (by omega), ?_⟩
        rw [show H.length + (b - H.length) = b by omega]

section forms
variable {d : Tmp} {c : Call} {ty : TypeId} {pos : String} {after : Array Edge} {guard : Option (Nat × Bool)} {g : FuncId} {fn : Func} {body : Code}
theorem ar_qcall {args : List AV} {R : AV → Prop} (hc : c.callee = .value (.func g)) (hf : FnOK P g fn body) (ha : frzL (c.args.toList.map (env.ev 0)) = some args) (h : QCall P g args R) (hd : Nat.blt d n = true)
    (hg : aguard ops ⟨some d, .call c, ty, pos, after, guard⟩ env = some true) (hk : ∀ r, R r → ASeq P n ops Q os ((d, r) :: env) H) : ASeq P n ops Q (⟨some d, .call c, ty, pos, after, guard⟩ :: os) env H :=
  .inr ⟨by simp [dstOK, hd], hg, _, (open_qcall rfl hc hf ha h H).rel, fun v H' hh => by
    obtain ⟨e, ⟨r, h1, h2⟩, h3, h4⟩ := hh
    subst h2; subst h4
    rw [h3]; exact hk r h1⟩
theorem ard_qcall {args : List AV} {R : AV → Prop} (hc : c.callee = .value (.func g)) (hf : FnOK P g fn body) (ha : frzL (c.args.toList.map (env.ev 0)) = some args) (h : QCall P g args R) (hd : Nat.blt d n = true)
    (hg : aguard ops ⟨some d, .call c, ty, pos, after, guard⟩ env = some true) (haft : aftOK ops acc.length = true)
    (hord : orderOK ops ((⟨⟨some d, .call c, ty, pos, after, guard⟩, ⟨.junk, [], []⟩⟩ :: acc : List Itm).reverse) = true)
    (hk : ∀ r, R r → AReg P n ops true Q os (⟨⟨some d, .call c, ty, pos, after, guard⟩, ⟨r, [], []⟩⟩ :: acc) ((d, r) :: env) H) : AReg P n ops true Q (⟨some d, .call c, ty, pos, after, guard⟩ :: os) acc env H :=
  .inr ⟨by simp [dstOK, hd], hg, haft, [], _, hord, open_qcall rfl hc hf ha h H, fun e hh => by
    obtain ⟨r, h1, rfl⟩ := hh
    exact hk r h1⟩
theorem ard_ocall {args : List AV} {log : List Nat} {F : AV → List (Nat × Blk) → List Blk → Prop} (hc : c.callee = .value (.func g)) (hf : FnOK P g fn body) (ha : c.args.toList.map (env.ev 0) = args)
    (h : ∀ H1 : Heap, H1.length = H.length → (∀ b ∈ log, H1.at b = H.at b) → FCall P g args H1 fun r H' => ∃ ws Bs, F r ws Bs ∧ H' = H1.puts ws ++ Bs)
    (hd : Nat.blt d n = true) (hg : aguard ops ⟨some d, .call c, ty, pos, after, guard⟩ env = some true) (haft : aftOK ops acc.length = true)
    (hord : orderOK ops ((⟨⟨some d, .call c, ty, pos, after, guard⟩, ⟨.junk, [], log⟩⟩ :: acc : List Itm).reverse) = true)
    (hab : blwL H.length args = true) (hlog : ∀ b ∈ log, b < H.length ∧ (H.at b).blw H.length = true) (hrow : ∀ b ∈ log, ∃ sz es, H.at b = .row sz es)
    (hF : ∀ r ws Bs, F r ws Bs → r.idin log H.length = true ∧ (∀ p ∈ ws, p.1 ∈ log ∧ Blk.idin log H.length p.2 = true) ∧ ∀ x ∈ Bs, Blk.idin log H.length x = true)
    (hk : ∀ r ws Bs, F r ws Bs → AReg P n ops true Q os (⟨⟨some d, .call c, ty, pos, after, guard⟩, ⟨r, ws ++ newWr H.length Bs, log⟩⟩ :: acc) ((d, r) :: env) (H.puts ws ++ Bs)) :
    AReg P n ops true Q (⟨some d, .call c, ty, pos, after, guard⟩ :: os) acc env H := by
  subst ha
  refine .inr ⟨by simp [dstOK, hd], hg, haft, log, _, hord, open_fcall rfl hc hf hab hlog hrow hF h, fun e he => ?_⟩
  obtain ⟨r, ws, Bs, h1, rfl⟩ := he
  have hpl := puts_len ws H fun p hp => (hlog _ ((hF r ws Bs h1).2.1 p hp).1).1
  have := hk r ws Bs h1
  show AReg P n ops true Q os _ ((d, r) :: env) (H.puts (ws ++ newWr H.length Bs))
  rw [puts_append]
  have e2 := puts_newWr (H.puts ws) Bs
  rw [hpl] at e2
  rw [e2]; exact this
end forms
end Go.Av
/- Calls of methods through interface values. -/
set_option linter.unusedVariables false
namespace Go.Av
open Go
variable {P : Program} {T : Tys}

/-- a method of a type itself, by value (or of a pointer, by that pointer) -/
def methB (P : Program) (t : TypeId) (name : String) (g : FuncId) : Bool :=
  match P.info? t with
  | some i => match i.methods.find? (·.name == name) with
    | some m => m.path.isEmpty && (match m.func, P.underlying t with
      | some (f, true), some (.pointer _) => f == g
      | some (f, false), some (.pointer _) => false
      | some (f, false), some _ => f == g
      | _, _ => false)
    | none => false
  | none => false

theorem run_method {t : TypeId} {name : String} {g : FuncId} (h : methB P t name g = true) (n : Nat) (v : Value) (w : World) : (method (n + 1) t v name).run P w = .ok (g, v) w := by
  unfold methB at h
  split at h
  · rename_i i hi
    split at h
    · rename_i m hm
      simp only [Bool.and_eq_true] at h
      have hp : m.path = #[] := by simpa using h.1
      have h2 := h.2
      simp only [method, Sem.run_bind, typeInfo, hi]
      have hpr : (program : Sem Program).run P w = .ok P w := rfl
      simp only [hpr, Result.andThen_ok, hi, Sem.run_pure, hm, hp]
      simp only [follow, Sem.run_pure, Result.andThen_ok]
      split at h2
      · rename_i f e hf hu
        simp only [hf, receiverAt, Sem.run_bind, run_underlying hu, Result.andThen_ok, Place.get, Sem.run_pure]
        have : f = g := by simpa using h2
        rw [this]
      · cases h2
      · rename_i hf f u hpt hne hu
        have hfg : f = g := by simpa using h2
        subst hfg
        have hun : ∀ w, (underlying t : Sem TypeDesc).run P w = .ok u w := fun w => run_underlying hu w
        cases u <;> first | exact (hpt _ rfl).elim | (simp only [hne, receiverAt, Sem.run_bind, hun, Result.andThen_ok, Place.get, Sem.run_pure])
      · cases h2
    · cases h
  · cases h

theorem execOp_invoke {o : Oper} {c : Call} {g : FuncId} {fn : Func} {body : Code} {recv : Operand} {name : String} {t : TypeId} {v : Value} (ho : o.op = .call c) (hc : c.callee = .invoke recv name) (hf : FnOK P g fn body) (hm : methB P t name g = true)
    (a : Act) (w : World) (hr : a.eval recv = .iface t v) : (execOp a.eval o).run P w = .ok (.enter g (#[v] ++ c.args.map a.eval)) w := by
  unfold execOp
  rw [ho]
  simp only [resolve, hc, hr, Sem.run_bind, Sem.run_pure, Result.andThen_ok, invoke]
  have hp : (program : Sem Program).run P w = .ok P w := rfl
  have e0 : (#[Value.iface t v] ++ c.args.map a.eval)[0]? = some (.iface t v) := by rw [Array.getElem?_append_left (by simp)]; rfl
  have e1 : (#[Value.iface t v] ++ c.args.map a.eval).extract 1 (#[Value.iface t v] ++ c.args.map a.eval).size = c.args.map a.eval := by
    apply Array.ext'
    rw [Array.toList_extract, Array.toList_append]
    simp [List.extract, List.take_of_length_le]
  simp only [e0, callMethod, e1, Sem.run_bind, hp, Result.andThen_ok]
  rw [show P.types.size + Made.depth = (P.types.size + 99) + 1 from rfl, run_method hm]
  simp only [Result.andThen_ok, callFunc, Sem.run_bind, hp, hf.hfn, hf.hname, hf.hbody]
  rfl

variable {n : Nat} {ops : Array Oper} {Q : Env → Heap → Prop} {o : Oper} {os : List Oper} {acc : List Itm} {env : Env} {H : Heap}
theorem open_invoke {c : Call} {g : FuncId} {fn : Func} {body : Code} {recv : Operand} {name : String} {t : TypeId} {x : AV} {args : List AV} {R : AV → Prop} (ho : o.op = .call c) (hc : c.callee = .invoke recv name) (hf : FnOK P g fn body) (hm : methB P t name g = true)
    (hx : env.ev 0 recv = .iface t x) (ha : frzL (x :: c.args.toList.map (env.ev 0)) = some args) (h : QCall P g args R) (H : Heap) : OpenEff P o env H [] fun e => ∃ r, R r ∧ e = ⟨r, [], []⟩ := by
  intro C a H2 henv hH hlog hnew next Q hk
  have hops : ∀ y, y ∈ c.args.toList → y ∈ o.op.operands.toList := fun y hy => by
    rw [ho]; simp [Op.operands, Call.operands, hc]; simp at hy; exact .inr hy
  have hr := ev_rel henv 0 recv (by rw [ho]; simp [Op.operands, Call.operands, hc])
  rw [hx] at hr
  obtain ⟨u, e1, hu⟩ := hr.iface_inv
  unfold Oper.wp
  rw [execOp_invoke ho hc hf hm a C.w e1]
  simp only [Oper.upon]
  have hl := frzL_length ha
  refine Calls.mono (h C.K C.w _ hH.dom (by simp at hl ⊢; omega) (frzL_rel ha fun i hi => ?_)) ?_
  · cases i with
    | zero =>
      have e9 : (#[u] ++ c.args.map a.eval).getD 0 undef = u := by rw [Array.getD_eq_getD_getElem?, Array.getElem?_append_left (by simp)]; rfl
      rw [e9]; exact hu
    | succ i =>
      have hi' : i < c.args.size := by simpa using hi
      have h1 := ev_rel henv 0 (c.args[i]) (hops _ (by simp))
      have e1 : (x :: c.args.toList.map (env.ev 0)).getD (i + 1) .junk = env.ev 0 c.args[i] := by simp [List.getD_eq_getElem?_getD, hi']
      have e2 : (#[u] ++ c.args.map a.eval).getD (i + 1) undef = a.eval c.args[i] := by
        rw [Array.getD_eq_getD_getElem?, Array.getElem?_append_right (by simp)]
        simp [hi']
      rw [e1, e2]; exact h1
  · rintro e w' ⟨v, r, K', rfl, h0, h1, h2⟩
    exact hk ⟨r, [], []⟩ v (C.grow K' w') ⟨r, h0, rfl⟩ (.fro _ _ h1) (hH.grow h2) (.grow h2) (.grow h2) (fun _ _ h => h)

section forms
variable {d : Tmp} {c : Call} {ty : TypeId} {pos : String} {after : Array Edge} {guard : Option (Nat × Bool)} {g : FuncId} {fn : Func} {body : Code} {recv : Operand} {name : String} {t : TypeId} {x : AV}
theorem ar_invoke {args : List AV} {r : AV} (hc : c.callee = .invoke recv name) (hx : env.ev 0 recv = .iface t x) (hf : FnOK P g fn body) (hm : methB P t name g = true) (ha : frzL (x :: c.args.toList.map (env.ev 0)) = some args) (h : PCall P g args r) (hd : Nat.blt d n = true)
    (hg : aguard ops ⟨some d, .call c, ty, pos, after, guard⟩ env = some true) (hk : ASeq P n ops Q os ((d, r) :: env) H) : ASeq P n ops Q (⟨some d, .call c, ty, pos, after, guard⟩ :: os) env H :=
  .inr ⟨by simp [dstOK, hd], hg, _, (open_invoke rfl hc hf hm hx ha h.q H).rel, fun v H' hh => by
    obtain ⟨e, ⟨r', h1, h2⟩, h3, h4⟩ := hh
    subst h1; subst h2; subst h4
    rw [h3]; exact hk⟩
end forms
end Go.Av
/- Spans of frozen lists: when two are the same; keys of maps. -/
set_option linter.unusedVariables false
namespace Go.Av
open Go
variable {P : Program} {T : Tys}

theorem run_sameAddr_plain {w : World} {a b : Addr} (ha : Plain w a.block) (hb : Plain w b.block) (h1 : (w.cell? ⟨a.block, a.off, none⟩).isSome = true) (h2 : (w.cell? ⟨b.block, b.off, none⟩).isSome = true) :
    (sameAddr a b).run P w = .ok (a == b) w := by
  by_cases h : a.block = b.block
  · simp [sameAddr, h]
  · rw [run_sameAddr_apart (P := P) w h ha.2 hb.2 h1 h2]
    have : (a == b) = false := by
      have hne : a ≠ b := fun e => h (by rw [e])
      simpa using hne
    rw [this]

/-- the type of a span: a pointer, and a number -/
structure SpanT (P : Program) (t tp te tn : TypeId) : Prop where
  fs : ∃ f1 f2, P.underlying t = some (.struct #[f1, f2]) ∧ f1.name ≠ "_" ∧ f2.name ≠ "_" ∧ f1.offset = 0 ∧ f2.offset = 1 ∧ f1.type = tp ∧ f2.type = tn
  held : P.stoodInHeld t = false
  ptr : P.underlying tp = some (.pointer te)
  num : P.underlying tn = some (.int .i64)
  size : ∃ i, P.info? te = some i ∧ i.size ≠ 0

theorem run_equal_span {t tp te tn : TypeId} (h : SpanT P t tp te tn) (d : Nat) {w : World} {a b : Addr} {m m' : Int} (hs : (sameAddr a b).run P w = .ok (a == b) w) :
    (Op.equalIn (d + 2) t (.agg #[.pointer (some a), .int .i64 m]) (.agg #[.pointer (some b), .int .i64 m'])).run P w = .ok ((a == b) && (m == m')) w := by
  obtain ⟨f1, f2, hu, n1, n2, o1, o2, t1, t2⟩ := h.fs
  obtain ⟨ji, hte, hsz⟩ := h.size
  have hfo : P.fieldsOf t = #[f1, f2] := by unfold Program.fieldsOf; rw [hu]
  rw [show d + 2 = (d + 1) + 1 from rfl, run_equalIn_agg w (d + 1) t _ _ (by rw [hfo]; exact hu) h.held, hfo]
  have hagg1 : (isAgg tp).run P w = .ok false w := by
    unfold isAgg
    rw [Sem.run_bind, run_underlying h.ptr]
    rfl
  have hagg2 : (isAgg tn).run P w = .ok false w := by
    unfold isAgg
    rw [Sem.run_bind, run_underlying h.num]
    rfl
  have hpa : ∀ a : Addr, ∀ x : Value, (part tp #[.pointer (some a), x] 0).run P w = .ok (.pointer (some a)) w := fun a x => by simp [part, hagg1]
  have hpn : ∀ x y : Value, (part tn #[x, y] 1).run P w = .ok y w := fun x y => by simp [part, hagg2]
  have he : (Op.equalIn (d + 1) tp (.pointer (some a)) (.pointer (some b))).run P w = .ok (a == b) w := by
    simp [Op.equalIn, run_underlying h.ptr, sizeOf, typeInfo, hte, hsz, hs]
  have hi : (Op.equalIn (d + 1) tn (.int .i64 m) (.int .i64 m')).run P w = .ok (m == m') w := run_equalIn_int w d tn .i64 .i64 m m' h.num
  simp only [Op.eqFields, n1, n2, ne_eq, not_false_eq_true, if_true, o1, o2, t1, t2, Sem.run_bind, hpa, hpn, he, hi, Result.andThen_ok]
  by_cases hab : a = b
  · subst hab
    by_cases hm : m = m'
    · subst hm; simp [Sem.run_pure, hpn, hi]
    · have : (m == m') = false := by simpa using hm
      simp [this, Sem.run_pure, hpn, hi]
  · have : (a == b) = false := by simpa using hab
    simp [this, Sem.run_pure]

theorem FRel.fptr_at {K : Nat → Nat} {w : World} {cs : List AV} {v : Value} (h : FRel K w (.fptr cs) v) (hl : 1 < cs.length) : ∃ a : Addr, v = .pointer (some a) ∧ a.spot = none ∧ Plain w a.block ∧ (w.cell? ⟨a.block, a.off, none⟩).isSome = true := by
  cases h with
  | fptr _ blk off g hK hp hc ho hr =>
    refine ⟨⟨blk, off, none⟩, rfl, rfl, hp hl, ?_⟩
    have := hc 0 (by omega)
    rw [Nat.add_zero] at this
    rw [this]; rfl

theorem agg_two {vs : Array Value} (h : 2 = vs.size) : vs = #[vs.getD 0 undef, vs.getD 1 undef] := by
  obtain ⟨l⟩ := vs
  match l, h with
  | [u1, u2], _ => rfl
theorem agg_four {vs : Array Value} (h : 4 = vs.size) : vs = #[vs.getD 0 undef, vs.getD 1 undef, vs.getD 2 undef, vs.getD 3 undef] := by
  obtain ⟨l⟩ := vs
  match l, h with
  | [u1, u2, u3, u4], _ => rfl

theorem FRel.agg2 {K : Nat → Nat} {w : World} {p q : AV} {v : Value} (h : FRel K w (.agg [p, q]) v) : ∃ u1 u2, v = .agg #[u1, u2] ∧ FRel K w p u1 ∧ FRel K w q u2 := by
  cases h with
  | agg _ vs hl hh => exact ⟨vs.getD 0 undef, vs.getD 1 undef, congrArg _ (agg_two hl), hh 0 (by simp), hh 1 (by simp)⟩
theorem FRel.agg4 {K : Nat → Nat} {w : World} {p q r s : AV} {v : Value} (h : FRel K w (.agg [p, q, r, s]) v) : ∃ u1 u2 u3 u4, v = .agg #[u1, u2, u3, u4] ∧ FRel K w p u1 ∧ FRel K w q u2 ∧ FRel K w r u3 ∧ FRel K w s u4 := by
  cases h with
  | agg _ vs hl hh => exact ⟨vs.getD 0 undef, vs.getD 1 undef, vs.getD 2 undef, vs.getD 3 undef, congrArg _ (agg_four hl), hh 0 (by simp), hh 1 (by simp), hh 2 (by simp), hh 3 (by simp)⟩
theorem FRel.int_inv {K : Nat → Nat} {w : World} {k : IntKind} {n : Int} {v : Value} (h : FRel K w (.int k n) v) : v = .int k n := by cases h; rfl

/-- two spans of frozen lists are not the same where their cells cannot be -/
theorem eff_spanNe {o : Oper} {env : Env} {H : Heap} {t tp te tn opt : TypeId} {x y : Operand} {cs cs' : List AV} {m m' : Int} (ho : o.op = .binOp .eql t x y opt) (ht : SpanT P t tp te tn) (hg : P.eqGuardType P.depth t = false)
    (hx : env.ev 0 x = .agg [.fptr cs, .int .i64 m]) (hy : env.ev 0 y = .agg [.fptr cs', .int .i64 m']) (hl : 1 < cs.length) (hl' : 1 < cs'.length)
    (hne : ∀ K w v, FRel K w (.fptr cs) v → FRel K w (.fptr cs') v → m ≠ m') : OpEff P o env H ⟨.bool false, [], []⟩ := by
  intro C a H2 henv hH hlog hwr next Q hk
  have hrx := ev_rel henv 0 x (by rw [ho]; simp [Op.operands])
  have hry := ev_rel henv 0 y (by rw [ho]; simp [Op.operands])
  rw [hx] at hrx; rw [hy] at hry
  have hfx := hrx.frz (a' := .agg [.fptr cs, .int .i64 m]) rfl
  have hfy := hry.frz (a' := .agg [.fptr cs', .int .i64 m']) rfl
  obtain ⟨u1, u2, e1, r1, r2⟩ := hfx.agg2
  obtain ⟨v1, v2, e2, s1, s2⟩ := hfy.agg2
  obtain ⟨p, rfl, psp, pp, pc⟩ := r1.fptr_at hl
  obtain ⟨q, rfl, qsp, qp, qc⟩ := s1.fptr_at hl'
  cases r2.int_inv; cases s2.int_inv
  have hs := run_sameAddr_plain (P := P) pp qp pc qc
  have hrun : (binOp .eql t (.agg #[.pointer (some p), .int .i64 m]) (.agg #[.pointer (some q), .int .i64 m'])).run P C.w = .ok (.bool false) C.w := by
    rw [run_eql_struct, show (10000 : Nat) = 9998 + 2 from rfl, run_equal_span ht 9998 hs]
    have : ((p == q) && (m == m')) = false := by
      by_cases hpq : p = q
      · subst hpq
        have := hne _ _ _ r1 s1
        simp [this]
      · simp [hpq]
    rw [this]; rfl
  unfold Oper.wp
  have hex : (execOp a.eval o).run P C.w = .ok (.value (.bool false)) C.w := by
    unfold execOp
    rw [ho]
    simp only [Sem.run_bind, e1, e2, run_eqGuard_agg C.w .eql t x y _ _ hg, Result.andThen_ok, hrun, Sem.run_pure]
  rw [hex]
  simp only [Oper.upon]
  exact hk (.bool false) C (.fro _ _ (.bool _)) hH (StepExt.refl C) (Frame'.refl C H2) (fun b _ hf => hf)

/-! ### keys of maps: two are the same where they read the same -/
structure KeyT (P : Program) (kt : TypeId) (kind : TypeDesc) (S : AV → Prop) : Prop where
  und : P.underlying kt = some kind
  chk : ∀ K w a v e, S a → FRel K w a v → (Instr.checkKey e 10000 kt v).run P w = .ok () w
  eql : ∀ K w a v a' v', S a → S a' → FRel K w a v → FRel K w a' v' → ∃ b, (Op.equal kt v v').run P w = .ok b w ∧ (b = true ↔ v = v')
  now : ∀ K w a v a' v' b, S a → S a' → FRel K w a v → FRel K w a' v' → Instr.sameNow kind v v' = some b → (b = true ↔ v = v')
  bits : ∀ K w a v, S a → FRel K w a v → Instr.sameBits 10000 v v = true

/-- what finding a key comes to -/
def Found (es : List MapEntry) (k : Value) : Option (Nat × Value) → Prop
  | none => ∀ e ∈ es, k ≠ e.key
  | some (i, v) => ∃ e, es[i]? = some e ∧ e.val = v ∧ k = e.key

theorem findAsking_spec {kt : TypeId} {kind : TypeDesc} {S : AV → Prop} (hT : KeyT P kt kind S) {K : Nat → Nat} {w : World} {a : AV} {k : Value} (ha : S a) (hk : FRel K w a k) : ∀ (es pre : List MapEntry), (∀ e ∈ es, ∃ a', S a' ∧ FRel K w a' e.key) → (∀ e ∈ pre, k ≠ e.key) →
    ∃ r, (Instr.findAsking kt k es pre.length).run P w = .ok r w ∧ Found (pre ++ es) k r
  | [], pre, _, hp => ⟨none, by simp [Instr.findAsking, Sem.run_pure], by simpa [Found] using hp⟩
  | e :: es, pre, he, hp => by
    obtain ⟨a', h1, h2⟩ := he e (by simp)
    obtain ⟨b, h3, h4⟩ := hT.eql K w a k a' e.key ha h1 hk h2
    cases b with
    | true =>
      refine ⟨some (pre.length, e.val), by simp [Instr.findAsking, Sem.run_bind, h3, Sem.run_pure], e, ?_, rfl, h4.1 rfl⟩
      rw [List.getElem?_append_right (Nat.le_refl _), Nat.sub_self]; rfl
    | false =>
      have hne : k ≠ e.key := fun h => by have := h4.2 h; cases this
      obtain ⟨r, h5, h6⟩ := findAsking_spec hT ha hk es (pre ++ [e]) (fun x hx => he x (by simp [hx])) (fun x hx => by
        rcases List.mem_append.1 hx with h | h
        · exact hp x h
        · have : x = e := by simpa using h
          subst this; exact hne)
      refine ⟨r, ?_, by simpa using h6⟩
      rw [List.length_append] at h5
      simpa [Instr.findAsking, Sem.run_bind, h3] using h5

theorem findNow_spec {kt : TypeId} {kind : TypeDesc} {S : AV → Prop} (hT : KeyT P kt kind S) {K : Nat → Nat} {w : World} {a : AV} {k : Value} (ha : S a) (hk : FRel K w a k) : ∀ (es pre : List MapEntry) (r : Option (Nat × Value)), (∀ e ∈ es, ∃ a', S a' ∧ FRel K w a' e.key) → (∀ e ∈ pre, k ≠ e.key) →
    Instr.findNow kind k es pre.length = some r → Found (pre ++ es) k r
  | [], pre, r, _, hp, h => by simp [Instr.findNow] at h; subst h; simpa [Found] using hp
  | e :: es, pre, r, he, hp, h => by
    obtain ⟨a', h1, h2⟩ := he e (by simp)
    unfold Instr.findNow at h
    split at h
    · rename_i hs
      cases h
      refine ⟨e, ?_, rfl, (hT.now K w a k a' e.key true ha h1 hk h2 hs).1 rfl⟩
      rw [List.getElem?_append_right (Nat.le_refl _), Nat.sub_self]; rfl
    · rename_i hs
      have hne : k ≠ e.key := fun hh => by have := (hT.now K w a k a' e.key false ha h1 hk h2 hs).2 hh; cases this
      have := findNow_spec hT ha hk es (pre ++ [e]) r (fun x hx => he x (by simp [hx])) (fun x hx => by
        rcases List.mem_append.1 hx with h | h
        · exact hp x h
        · have : x = e := by simpa using h
          subst this; exact hne) (by rw [List.length_append]; exact h)
      simpa using this
    · cases h

theorem findKey_spec {kt : TypeId} {kind : TypeDesc} {S : AV → Prop} (hT : KeyT P kt kind S) {K : Nat → Nat} {w : World} {a : AV} {k : Value} (ha : S a) (hk : FRel K w a k) (es : List MapEntry) (he : ∀ e ∈ es, ∃ a', S a' ∧ FRel K w a' e.key) :
    ∃ r, (Instr.findKey kt k es).run P w = .ok r w ∧ Found es k r := by
  unfold Instr.findKey
  simp only [Sem.run_bind, run_underlying hT.und, Result.andThen_ok]
  cases h : Instr.findNow kind k es 0 with
  | some r => exact ⟨r, Sem.run_pure .., by simpa using findNow_spec hT ha hk es [] r he (fun e he => by cases he) h⟩
  | none => exact by simpa using findAsking_spec hT ha hk es [] he (fun e he => by cases he)
end Go.Av
/- Maps of the call's own, of frozen keys and values. -/
set_option linter.unusedVariables false
namespace Go.Av
open Go
variable {P : Program} {T : Tys}

def World.setMap (w : World) (r : Nat) (o : Obj) : World := { w with heap := w.heap.setIfInBounds r o }
theorem setMap_ne (w : World) (r : Nat) (o : Obj) {k : Nat} (h : k ≠ r) : (World.setMap w r o).heap[k]? = w.heap[k]? := by
  unfold World.setMap
  simp only [Array.getElem?_setIfInBounds, if_neg (Ne.symm h)]
theorem setMap_eq (w : World) (r : Nat) (o : Obj) (h : r < w.heap.size) : (World.setMap w r o).heap[r]? = some o := by
  unfold World.setMap
  simp [h]
theorem setMap_size (w : World) (r : Nat) (o : Obj) : (World.setMap w r o).heap.size = w.heap.size := by simp [World.setMap]
theorem setMap_kind {w : World} {r : Nat} {es : Array MapEntry} {ck : Nat} (h : w.heap[r]? = some (.map es ck)) (es' : Array MapEntry) (ck' : Nat) : SameKind w (World.setMap w r (.map es' ck')) := fun b hb => by
  have hr : r < w.heap.size := (Array.getElem?_eq_some_iff.1 h).1
  refine ⟨by rw [setMap_size]; exact hb, ?_, fun j => ?_⟩
  · unfold World.shape?
    by_cases e : b = r
    · subst e; rw [setMap_eq _ _ _ hr, h]
    · rw [setMap_ne _ _ _ e]
  · unfold World.frozen?
    dsimp only
    by_cases e : b = r
    · subst e; rw [setMap_eq _ _ _ hr, h]
    · rw [setMap_ne _ _ _ e]

theorem run_getMap {w : World} {r : Nat} {es : Array MapEntry} {ck : Nat} (h : w.heap[r]? = some (.map es ck)) : (getObj r).run P w = .ok (.map es ck) w := by simp [getObj, Sem.run, h]
theorem run_setMap {w : World} {r : Nat} {es : Array MapEntry} {ck : Nat} (o : Obj) (h : w.heap[r]? = some (.map es ck)) : (setObj r o).run P w = .ok () (World.setMap w r o) := by simp [setObj, Sem.run, h, World.setMap]

/-- a new map -/
def Ctx.newMap (C : Ctx) (n : Nat) (w' : World) : Ctx := { C with φ := fun b => if b = n then some (C.w.heap.size, 0, 0) else C.φ b, w := w' }

theorem sem_makeMap {o : Oper} {t : TypeId} {env : Env} {H : Heap} {n : Nat} (ho : o.op = .makeMap t none) : OpSem P o env H ⟨none, .mapr n, [(n, .mapb [])], []⟩ := by
  intro C a H2 henv hH hlog hwr hpre
  obtain ⟨hdead, hfresh⟩ : H2.at n = .dead ∧ Fresh C n := (hwr (n, .mapb []) (by simp)).resolve_left (by simp)
  have ha := Allocs.alloc C.w (.map #[] 0)
  have hst : StepExt C (C.newMap n (C.w.alloc (.map #[] 0))) := by
    refine ⟨fun b x hx => ?_, fun _ _ _ h => h, fun _ => Nat.le_refl _, Agree.of_block ha.kind fun b hb => ha.old b (hH.dom b hb)⟩
    show (if b = n then _ else C.φ b) = some x
    rw [if_neg (fun e => by subst e; rw [hfresh.1] at hx; cases hx)]; exact hx
  have hφ : (C.newMap n (C.w.alloc (.map #[] 0))).φ n = some (C.w.heap.size, 0, 0) := by simp [Ctx.newMap]
  have hsize : C.w.heap.size ≤ (C.newMap n (C.w.alloc (.map #[] 0))).w.heap.size := by show _ ≤ (C.w.alloc _).heap.size; rw [heap_alloc_size]; omega
  have hown : ∀ cb, Owns (C.newMap n (C.w.alloc (.map #[] 0))) (H2.put n (.mapb [])) n cb → cb = C.w.heap.size := fun cb ho => by
    cases ho with
    | row sz' es' _ base hb hφ' => rw [Heap.at_put_same] at hb; cases hb
    | tok e _ eo ce hb hτ => rw [Heap.at_put_same] at hb; cases hb
    | map es _ hb hφ' => rw [hφ] at hφ'; cases hφ'; rfl
  have hblk : BlkOK (C.newMap n (C.w.alloc (.map #[] 0))) n (.mapb []) :=
    ⟨C.w.heap.size, #[], 0, hφ, ha.new, hH.K_size _ (Nat.le_refl _), rfl, fun i hi => by simp at hi, fun i hi => by simp at hi⟩
  refine ⟨.map (some C.w.heap.size), C.newMap n (C.w.alloc (.map #[] 0)), .inl ?_, .mapr n _ hφ, hH.change hst n _ (fun b cb hb ho => ⟨ha.old cb (hH.owns_lt ho), rfl⟩) hsize (fun b hb => Nat.lt_of_lt_of_le (hH.dom b hb) hsize) (fun _ _ => rfl) hblk (fun cb ho b hb ho' => ?_), hst, ⟨ha.os, ha.output, hsize, fun cb hcb _ => ⟨ha.old cb hcb, rfl⟩, fun b cb ho hcb => ?_⟩, fun b hb => ⟨?_, rfl⟩⟩
  · unfold execOp; rw [ho]
    simp [Instr.makeMap, Sem.run_bind]
    rfl
  · have := hown cb ho
    have := hH.owns_lt ho'
    omega
  · by_cases e : b = n
    · subst e; have := hown cb ho; omega
    · exact ⟨b, (ho.put_ne e).back hH hst⟩
  · show (if b = n then _ else C.φ b) = _
    rw [if_neg fun e => hb (n, .mapb []) (by simp) e.symm]

/-- all keys are of a kind, all values are one -/
def MapOK (S : AV → Prop) (z : AV) (es : List (AV × AV)) : Prop := ∀ p ∈ es, S p.1 ∧ p.2 = z

theorem mapb_at {C : Ctx} {H : Heap} (hH : HRel C H) {b : Nat} {es : List (AV × AV)} (hb : H.at b = .mapb es) {v : Value} (hv : VRel C (.mapr b) v) :
    ∃ r entries clock, v = .map (some r) ∧ C.φ b = some (r, 0, 0) ∧ C.w.heap[r]? = some (.map entries clock) ∧ C.K r = 0 ∧ es.length = entries.size ∧
      (∀ i, i < es.length → FRel C.K C.w (es.getD i (.junk, .junk)).1 (entries.getD i default).key) ∧ (∀ i, i < es.length → FRel C.K C.w (es.getD i (.junk, .junk)).2 (entries.getD i default).val) := by
  obtain ⟨r, entries, clock, h1, h2, h3, h4, h5, h6⟩ := hH.map b es hb
  cases hv with
  | fro _ _ h => cases h
  | mapr _ r' h =>
    rw [h1] at h; cases h
    exact ⟨r, entries, clock, rfl, h1, h2, h3, h4, h5, h6⟩

theorem entries_ok {K : Nat → Nat} {w : World} {S : AV → Prop} {z : AV} {es : List (AV × AV)} {entries : Array MapEntry} (hl : es.length = entries.size) (hok : MapOK S z es)
    (hk : ∀ i, i < es.length → FRel K w (es.getD i (.junk, .junk)).1 (entries.getD i default).key) (hv : ∀ i, i < es.length → FRel K w (es.getD i (.junk, .junk)).2 (entries.getD i default).val) :
    ∀ e ∈ entries.toList, ∃ a', S a' ∧ FRel K w a' e.key ∧ FRel K w z e.val := fun e he => by
  obtain ⟨i, hi, rfl⟩ := List.getElem_of_mem he
  have hi' : i < es.length := by rw [hl]; simpa using hi
  have h1 := hk i hi'
  have h2 := hv i hi'
  have e1 : es.getD i (.junk, .junk) = es[i] := by simp [List.getD_eq_getElem?_getD, hi']
  have e2 : entries.getD i default = entries.toList[i] := by
    simp at hi
    simp [Array.getD, hi]
  rw [e1] at h1 h2
  rw [e2] at h1 h2
  obtain ⟨h3, h4⟩ := hok es[i] (List.getElem_mem hi')
  exact ⟨_, h3, h1, h4 ▸ h2⟩

/-- whether a key is there is left open -/
theorem or_lookup {o : Oper} {env : Env} {H : Heap} {t kt et : TypeId} {x k : Operand} {kind : TypeDesc} {S : AV → Prop} {ka z : AV} {b : Nat} {es : List (AV × AV)} {d : TyD} (hT : TyOK P T) (ho : o.op = .lookup t x k true) (hu : P.underlying t = some (.map kt et)) (hk : KeyT P kt kind S)
    (hd : T et = some d) (hz : ofCells d d.zero = some z) (hx : env.ev 0 x = .mapr b) (hb : H.at b = .mapb es) (hok : MapOK S z es) (hka : frz (env.ev 0 k) = some ka) (hS : S ka) :
    OpRel P o env H fun r H' => H' = H ∧ ∃ ok, r = .tup [z, .bool ok] := by
  intro C a henv hH hdom next Q hk'
  have hrx := ev_rel henv 0 x (by rw [ho]; simp [Op.operands])
  rw [hx] at hrx
  obtain ⟨r, entries, clock, e1, hφ, hheap, hK, hl, hkeys, hvals⟩ := mapb_at hH hb hrx
  have hrk := (ev_rel henv 0 k (by rw [ho]; simp [Op.operands])).frz hka
  have hent := entries_ok hl hok hkeys hvals
  obtain ⟨f, hf, hfound⟩ := findKey_spec hk hS hrk entries.toList fun e he => by
    obtain ⟨a', h1, h2, _⟩ := hent e he
    exact ⟨a', h1, h2⟩
  obtain ⟨zv, hzr, hzrel⟩ := ofCells_zero hT hd hz C
  have key : ∃ v ok, (execOp a.eval o).run P C.w = .ok (.value (.tuple #[v, .bool ok])) C.w ∧ VRel C z v := by
    unfold execOp
    rw [ho]
    simp only [Instr.lookup, Sem.run_bind, run_underlying hu, Result.andThen_ok, e1, run_getMap hheap, hk.chk _ _ _ _ _ hS hrk, hf, Sem.run_pure]
    cases f with
    | none => exact ⟨zv, false, by simp [hzr, Sem.run_bind, Sem.run_pure], hzrel⟩
    | some p =>
      obtain ⟨i, v⟩ := p
      obtain ⟨e, h1, h2, h3⟩ := hfound
      obtain ⟨a', _, _, h4⟩ := hent e (List.mem_iff_getElem?.2 ⟨i, h1⟩)
      exact ⟨v, true, by simp [Sem.run_bind, Sem.run_pure], .fro _ _ (h2 ▸ h4)⟩
  obtain ⟨v, ok, h1, h2⟩ := key
  unfold Oper.wp
  rw [h1]
  simp only [Oper.upon]
  refine hk' _ (.tup [z, .bool ok]) C H ⟨rfl, ok, rfl⟩ (.tup _ _ rfl fun i hi => ?_) hH hdom (.refl C) (.refl C H)
  simp at hi
  rcases Nat.lt_or_ge i 1 with h1 | h1
  · have : i = 0 := by omega
    subst this; exact h2
  · have : i = 1 := by omega
    subst this; exact .fro _ _ (.bool _)

theorem mapPut_ok {C : Ctx} {H : Heap} (hH : HRel C H) {b r clock clock' : Nat} {es es' : List (AV × AV)} {entries entries' : Array MapEntry} (hb : H.at b = .mapb es) (hφ : C.φ b = some (r, 0, 0)) (hheap : C.w.heap[r]? = some (.map entries clock)) (hK : C.K r = 0)
    (hl : es'.length = entries'.size) (hk : ∀ i, i < es'.length → FRel C.K C.w (es'.getD i (.junk, .junk)).1 (entries'.getD i default).key) (hv : ∀ i, i < es'.length → FRel C.K C.w (es'.getD i (.junk, .junk)).2 (entries'.getD i default).val) :
    HRel { C with w := World.setMap C.w r (.map entries' clock') } (H.put b (.mapb es')) ∧ StepExt C { C with w := World.setMap C.w r (.map entries' clock') } ∧ Frame' C H { C with w := World.setMap C.w r (.map entries' clock') } (H.put b (.mapb es')) := by
  have hr : r < C.w.heap.size := (Array.getElem?_eq_some_iff.1 hheap).1
  have hag : Agree C.K C.w (World.setMap C.w r (.map entries' clock')) := Agree.of_block (setMap_kind hheap _ _) fun q hq => setMap_ne _ _ _ (fun e => by subst e; exact hq hK)
  have hst : StepExt C { C with w := World.setMap C.w r (.map entries' clock') } := ⟨fun _ _ h => h, fun _ _ _ h => h, fun _ => Nat.le_refl _, hag⟩
  have hownb : Owns C H b r := .map b es r hb hφ
  have hblk : BlkOK { C with w := World.setMap C.w r (.map entries' clock') } b (.mapb es') :=
    ⟨r, entries', clock', hφ, setMap_eq _ _ _ hr, hK, hl, fun i hi => (hk i hi).mono (fun _ => Nat.le_refl _) hag, fun i hi => (hv i hi).mono (fun _ => Nat.le_refl _) hag⟩
  have hown : ∀ q, Owns { C with w := World.setMap C.w r (.map entries' clock') } (H.put b (.mapb es')) b q → q = r := fun q ho => by
    cases ho with
    | row sz' es' _ base' hb' hφ' => rw [Heap.at_put_same] at hb'; cases hb'
    | tok e _ eo ce hb' hτ => rw [Heap.at_put_same] at hb'; cases hb'
    | map es _ hb' hφ' =>
      have : C.φ b = some (q, 0, 0) := hφ'
      rw [hφ] at this; cases this; rfl
  refine ⟨hH.change hst b _ (fun q c hq ho => ⟨setMap_ne _ _ _ (fun e => hq (hH.own _ _ _ ho (e ▸ hownb))), rfl⟩) (by rw [setMap_size]; exact Nat.le_refl _) (fun q hq => by rw [setMap_size]; exact hH.dom q hq) (fun _ _ => rfl) hblk
      (fun q ho q' hq' ho' => hq' (hH.own _ _ _ ho' (hown q ho ▸ hownb))), hst, ⟨rfl, rfl, by rw [setMap_size]; exact Nat.le_refl _, fun c hc hno => ⟨setMap_ne _ _ _ (fun e => hno b (e ▸ hownb)), rfl⟩, fun q c ho hc => ?_⟩⟩
  by_cases hq : q = b
  · subst hq; exact ⟨q, hown c ho ▸ hownb⟩
  · exact ⟨q, (ho.put_ne hq).back hH hst⟩

theorem or_mapUpdate {o : Oper} {env : Env} {H : Heap} {t kt et : TypeId} {x k y : Operand} {kind : TypeDesc} {S : AV → Prop} {ka z : AV} {b : Nat} {es : List (AV × AV)} (ho : o.op = .mapUpdate t x k y) (hu : P.underlying t = some (.map kt et)) (hk : KeyT P kt kind S)
    (hx : env.ev 0 x = .mapr b) (hb : H.at b = .mapb es) (hok : MapOK S z es) (hka : frz (env.ev 0 k) = some ka) (hS : S ka) (hy : frz (env.ev 0 y) = some z) :
    OpRel P o env H fun r H' => r = .junk ∧ ∃ es', H' = H.put b (.mapb es') ∧ MapOK S z es' := by
  intro C a henv hH hdom next Q hk'
  have hrx := ev_rel henv 0 x (by rw [ho]; simp [Op.operands])
  rw [hx] at hrx
  obtain ⟨r, entries, clock, e1, hφ, hheap, hK, hl, hkeys, hvals⟩ := mapb_at hH hb hrx
  have hrk := (ev_rel henv 0 k (by rw [ho]; simp [Op.operands])).frz hka
  have hry := (ev_rel henv 0 y (by rw [ho]; simp [Op.operands])).frz hy
  have hent := entries_ok hl hok hkeys hvals
  obtain ⟨f, hf, hfound⟩ := findKey_spec hk hS hrk entries.toList fun e he => by
    obtain ⟨a', h1, h2, _⟩ := hent e he
    exact ⟨a', h1, h2⟩
  have hbl : b < H.length := at_lt (by rw [hb]; simp)
  have hlen : ∀ x, (H.put b x).length = H.length := fun x => Heap.put_length H b x hbl
  have key : ∃ entries' clock' es', (execOp a.eval o).run P C.w = .ok .skip (World.setMap C.w r (.map entries' clock')) ∧ es'.length = entries'.size ∧ MapOK S z es' ∧
      (∀ i, i < es'.length → FRel C.K C.w (es'.getD i (.junk, .junk)).1 (entries'.getD i default).key) ∧ (∀ i, i < es'.length → FRel C.K C.w (es'.getD i (.junk, .junk)).2 (entries'.getD i default).val) := by
    unfold execOp
    rw [ho]
    simp only [Instr.mapUpdate, Sem.run_bind, run_underlying hu, Result.andThen_ok, e1, run_getMap hheap, hk.chk _ _ _ _ _ hS hrk, hf]
    cases f with
    | none =>
      refine ⟨entries.push { key := a.eval k, val := a.eval y, born := clock }, clock + 1, es ++ [(ka, z)], ?_, by simp [hl], fun p hp => ?_, fun i hi => ?_, fun i hi => ?_⟩
      · simp only [run_setMap _ hheap, Result.andThen_ok, Sem.run_pure]
      · rcases List.mem_append.1 hp with h | h
        · exact hok p h
        · have : p = (ka, z) := by simpa using h
          subst this; exact ⟨hS, rfl⟩
      · rw [List.length_append, List.length_singleton] at hi
        rcases Nat.lt_or_ge i es.length with h | h
        · have := hkeys i h
          rw [List.getD_eq_getElem?_getD, List.getElem?_append_left h, ← List.getD_eq_getElem?_getD]
          rw [Array.getD_eq_getD_getElem?, Array.getElem?_push, if_neg (by omega), ← Array.getD_eq_getD_getElem?]; exact this
        · have : i = es.length := by omega
          subst this
          rw [List.getD_eq_getElem?_getD, List.getElem?_append_right h, Nat.sub_self, Array.getD_eq_getD_getElem?, Array.getElem?_push, if_pos hl]
          exact hrk
      · rw [List.length_append, List.length_singleton] at hi
        rcases Nat.lt_or_ge i es.length with h | h
        · have := hvals i h
          rw [List.getD_eq_getElem?_getD, List.getElem?_append_left h, ← List.getD_eq_getElem?_getD]
          rw [Array.getD_eq_getD_getElem?, Array.getElem?_push, if_neg (by omega), ← Array.getD_eq_getD_getElem?]; exact this
        · have : i = es.length := by omega
          subst this
          rw [List.getD_eq_getElem?_getD, List.getElem?_append_right h, Nat.sub_self, Array.getD_eq_getD_getElem?, Array.getElem?_push, if_pos hl]
          exact hry
    | some p =>
      obtain ⟨i0, v⟩ := p
      obtain ⟨e, h1, h2, h3⟩ := hfound
      have h1' : entries[i0]? = some e := by simpa using h1
      have hst : (Instr.keyThatStays (((entries[i0]?).map (·.key)).getD (a.eval k)) (a.eval k)).run P C.w = .ok (a.eval k) C.w := by
        rw [h1', Option.map_some, Option.getD_some, ← h3]
        simp [Instr.keyThatStays, hk.bits _ _ _ _ hS hrk, Sem.run_pure]
      have hi0 : i0 < entries.size := (Array.getElem?_eq_some_iff.1 h1').1
      refine ⟨entries.modify i0 fun e => { e with key := a.eval k, val := a.eval y }, clock, es.set i0 (ka, z), ?_, by simp [hl], fun p hp => ?_, fun i hi => ?_, fun i hi => ?_⟩
      · simp only [Sem.run_bind, hst, Result.andThen_ok, run_setMap _ hheap, Sem.run_pure]
      · rcases List.mem_or_eq_of_mem_set hp with h | h
        · exact hok p h
        · subst h; exact ⟨hS, rfl⟩
      · rw [List.length_set] at hi
        by_cases hii : i0 = i
        · subst hii
          simp only [List.getD_eq_getElem?_getD, List.getElem?_set, if_pos, Array.getD_eq_getD_getElem?, Array.getElem?_modify, h1', hi]
          exact hrk
        · have := hkeys i hi
          simpa [List.getD_eq_getElem?_getD, List.getElem?_set, hii, Array.getD_eq_getD_getElem?, Array.getElem?_modify] using this
      · rw [List.length_set] at hi
        by_cases hii : i0 = i
        · subst hii
          simp only [List.getD_eq_getElem?_getD, List.getElem?_set, if_pos, Array.getD_eq_getD_getElem?, Array.getElem?_modify, h1', hi]
          exact hry
        · have := hvals i hi
          simpa [List.getD_eq_getElem?_getD, List.getElem?_set, hii, Array.getD_eq_getD_getElem?, Array.getElem?_modify] using this
  obtain ⟨entries', clock', es', h1, h2, h3, h4, h5⟩ := key
  obtain ⟨r1, r2, r3⟩ := mapPut_ok (clock' := clock') hH hb hφ hheap hK h2 h4 h5
  unfold Oper.wp
  rw [h1]
  simp only [Oper.upon]
  refine hk' undef .junk _ (H.put b (.mapb es')) ⟨rfl, es', rfl, h3⟩ (.fro _ _ (.junk _)) r1 (fun q hq => hdom q (by rw [hlen] at hq; exact hq)) r2 r3
end Go.Av
/- Kinds of keys: spans, pairs of spans. -/
set_option linter.unusedVariables false
namespace Go.Av
open Go
variable {P : Program} {T : Tys}

theorem isAgg_struct {t : TypeId} {fs : Array Field} (h : P.underlying t = some (.struct fs)) (w : World) : (isAgg t).run P w = .ok true w := by
  unfold isAgg
  rw [Sem.run_bind, run_underlying h]
  rfl
theorem isAgg_ptr {t e : TypeId} (h : P.underlying t = some (.pointer e)) (w : World) : (isAgg t).run P w = .ok false w := by
  unfold isAgg
  rw [Sem.run_bind, run_underlying h]
  rfl
theorem isAgg_int {t : TypeId} {k : IntKind} (h : P.underlying t = some (.int k)) (w : World) : (isAgg t).run P w = .ok false w := by
  unfold isAgg
  rw [Sem.run_bind, run_underlying h]
  rfl

theorem run_check_struct2 {t : TypeId} {f1 f2 : Field} (hu : P.underlying t = some (.struct #[f1, f2])) (n1 : f1.name ≠ "_") (n2 : f2.name ≠ "_") (e : Bool) (d : Nat) (cs : Array Value) (w : World) {a b : Value}
    (h1 : (part f1.type cs f1.offset).run P w = .ok a w) (h2 : (Instr.checkKey e d f1.type a).run P w = .ok () w) (h3 : (part f2.type cs f2.offset).run P w = .ok b w) (h4 : (Instr.checkKey e d f2.type b).run P w = .ok () w) :
    (Instr.checkKey e (d + 1) t (.agg cs)).run P w = .ok () w := by
  simp only [Instr.checkKey, Sem.run_bind, run_underlying hu, Result.andThen_ok]
  rw [← Array.forIn_toList]
  simp [List.forIn_cons, List.forIn_nil, n1, n2, Sem.run_bind, Sem.run_pure, h1, h2, h3, h4]

theorem run_check_span {t tp te tn : TypeId} (h : SpanT P t tp te tn) (e : Bool) (d : Nat) (x y : Value) (w : World) : (Instr.checkKey e (d + 2) t (.agg #[x, y])).run P w = .ok () w := by
  obtain ⟨f1, f2, hu, n1, n2, o1, o2, t1, t2⟩ := h.fs
  have h1 : (part tp #[x, y] 0).run P w = .ok x w := by simp [part, isAgg_ptr h.ptr]
  have h2 : (part tn #[x, y] 1).run P w = .ok y w := by simp [part, isAgg_int h.num]
  have c1 : (Instr.checkKey e (d + 1) tp x).run P w = .ok () w := by
    simp only [Instr.checkKey, Sem.run_bind, run_underlying h.ptr, Result.andThen_ok]
    cases x <;> rfl
  have c2 : (Instr.checkKey e (d + 1) tn y).run P w = .ok () w := by
    simp only [Instr.checkKey, Sem.run_bind, run_underlying h.num, Result.andThen_ok]
    cases y <;> rfl
  exact run_check_struct2 hu n1 n2 e (d + 1) _ w (by rw [t1, o1]; exact h1) (by rw [t1]; exact c1) (by rw [t2, o2]; exact h2) (by rw [t2]; exact c2)

def SpanKey (a : AV) : Prop := ∃ cs n, a = .agg [.fptr cs, .int .i64 n] ∧ 1 < cs.length
def SpanKey2 (a : AV) : Prop := ∃ cs n cs' n', a = .agg [.fptr cs, .int .i64 n, .fptr cs', .int .i64 n'] ∧ 1 < cs.length ∧ 1 < cs'.length

/-- the type of two spans -/
structure SpanT2 (P : Program) (kt t : TypeId) : Prop where
  fs : ∃ f1 f2, P.underlying kt = some (.struct #[f1, f2]) ∧ f1.name ≠ "_" ∧ f2.name ≠ "_" ∧ f1.offset = 0 ∧ f2.offset = 2 ∧ f1.type = t ∧ f2.type = t
  held : P.stoodInHeld kt = false
  size : ∃ i, P.info? t = some i ∧ i.size = 2

theorem span2_inv {K : Nat → Nat} {w : World} {a : AV} {v : Value} (hS : SpanKey2 a) (h : FRel K w a v) : ∃ (p q : Addr) (m n : Int), v = .agg #[.pointer (some p), .int .i64 m, .pointer (some q), .int .i64 n] ∧ Plain w p.block ∧ Plain w q.block ∧
    (w.cell? ⟨p.block, p.off, none⟩).isSome = true ∧ (w.cell? ⟨q.block, q.off, none⟩).isSome = true := by
  obtain ⟨cs, n, cs', n', rfl, h1, h2⟩ := hS
  obtain ⟨u1, u2, u3, u4, rfl, r1, r2, r3, r4⟩ := h.agg4
  obtain ⟨p, rfl, _, pp, pc⟩ := r1.fptr_at h1
  obtain ⟨q, rfl, _, qp, qc⟩ := r3.fptr_at h2
  cases r2.int_inv; cases r4.int_inv
  exact ⟨p, q, n, n', rfl, pp, qp, pc, qc⟩

theorem keyT_span2 {kt t tp te tn : TypeId} (h2 : SpanT2 P kt t) (h : SpanT P t tp te tn) : ∃ kind, KeyT P kt kind SpanKey2 := by
  obtain ⟨f1, f2, hu, n1, n2, o1, o2, t1, t2⟩ := h2.fs
  obtain ⟨i, hi, hsz⟩ := h2.size
  obtain ⟨g1, g2, hut, _⟩ := h.fs
  have hfo : P.fieldsOf kt = #[f1, f2] := by unfold Program.fieldsOf; rw [hu]
  have p1 : ∀ (a b c d : Value) (w : World), (part t #[a, b, c, d] 0).run P w = .ok (.agg #[a, b]) w := fun a b c d w => by
    simp [part, isAgg_struct hut, sizeOf, typeInfo, hi, hsz]
  have p2 : ∀ (a b c d : Value) (w : World), (part t #[a, b, c, d] 2).run P w = .ok (.agg #[c, d]) w := fun a b c d w => by
    simp [part, isAgg_struct hut, sizeOf, typeInfo, hi, hsz]
  refine ⟨.struct #[f1, f2], hu, fun K w a v e hS hr => ?_, fun K w a v a' v' hS hS' hr hr' => ?_, fun K w a v a' v' b hS hS' hr hr' hn => ?_, fun K w a v hS hr => ?_⟩
  · obtain ⟨p, q, m, n, rfl, _⟩ := span2_inv hS hr
    exact run_check_struct2 hu n1 n2 e 9999 _ w (by rw [t1, o1]; exact p1 ..) (by rw [t1]; exact run_check_span h e 9997 _ _ w) (by rw [t2, o2]; exact p2 ..) (by rw [t2]; exact run_check_span h e 9997 _ _ w)
  · obtain ⟨p, q, m, n, rfl, pp, qp, pc, qc⟩ := span2_inv hS hr
    obtain ⟨p', q', m', n', rfl, pp', qp', pc', qc'⟩ := span2_inv hS' hr'
    have e1 := run_equal_span (P := P) h 9997 (m := m) (m' := m') (run_sameAddr_plain (P := P) pp pp' pc pc')
    have e2 := run_equal_span (P := P) h 9997 (m := n) (m' := n') (run_sameAddr_plain (P := P) qp qp' qc qc')
    refine ⟨((p == p') && (m == m')) && ((q == q') && (n == n')), ?_, ?_⟩
    · unfold Op.equal Op.maxDepth
      rw [show (10000 : Nat) = 9999 + 1 from rfl, run_equalIn_agg w 9999 kt _ _ (by rw [hfo]; exact hu) h2.held, hfo]
      simp only [Op.eqFields, n1, n2, ne_eq, not_false_eq_true, if_true, o1, o2, t1, t2, Sem.run_bind, p1, p2, Result.andThen_ok]
      rw [show (9999 : Nat) = 9997 + 2 from rfl, e1]
      simp only [Result.andThen_ok]
      cases hc : ((p == p') && (m == m')) with
      | false => simp [Sem.run_pure]
      | true =>
        simp only [Bool.not_true, Bool.false_eq_true, if_false, Sem.run_bind, p2, Result.andThen_ok, e2, Bool.true_and]
        cases hc2 : ((q == q') && (n == n')) <;> simp [Sem.run_pure]
    · simp only [Bool.and_eq_true, beq_iff_eq]
      constructor
      · rintro ⟨⟨rfl, rfl⟩, rfl, rfl⟩; rfl
      · intro hv
        cases hv
        exact ⟨⟨rfl, rfl⟩, rfl, rfl⟩
  · obtain ⟨p, q, m, n, rfl, _⟩ := span2_inv hS hr
    simp [Instr.sameNow] at hn
  · obtain ⟨p, q, m, n, rfl, _⟩ := span2_inv hS hr
    simp [Instr.sameBits]
end Go.Av
/- Results in memory of the call's own, handed out for good; the first element's address of a frozen list, with all its cells. -/
set_option linter.unusedVariables false
namespace Go.Av
open Go
variable {P : Program} {T : Tys}

theorem FCall.mono {g : FuncId} {args : List AV} {H : Heap} {R R' : AV → Heap → Prop} (h : FCall P g args H R) (hr : ∀ r H', R r H' → R' r H') : FCall P g args H R' := fun C vs h1 h2 h3 h4 =>
  Calls.mono (h C vs h1 h2 h3 h4) fun e w' ⟨v, r, C', H', k1, k2, k3⟩ => ⟨v, r, C', H', k1, hr r H' k2, k3⟩
theorem qcall_of_bor {g : FuncId} {args : List AV} {R : AV → Prop} (h : FCall P g args [] fun r' H' => ∃ r S, Bor H' S r' r ∧ R r) : QCall P g args R := by
  intro K w vs hdom hsz hvs
  refine Calls.mono (h (.none K w) vs (.nil K w hdom) (fun b _ => ⟨rfl, fun _ => rfl⟩) hsz (fun i hi => .fro _ _ (hvs i hi))) ?_
  rintro e w' ⟨v, r', C', H', h1, ⟨r, S, hb, hR⟩, h3, h4, h5, h6, h7, h8⟩
  subst h4
  have hge := KupS_ge (S := S) h5
  have hold : ∀ cb, cb < w.heap.size → ∀ b, ¬ Owns C' H' b cb := fun cb hcb b ho => by
    obtain ⟨b', hb'⟩ := h8.owned b cb ho hcb
    exact hb'.nil
  refine ⟨v, r, KupS C' H' S, h1, hR, hb C' v h5 h3, fun b => Nat.le_trans (h7.K b) (hge b), h7.agree, h8.os, h8.output, h8.size, fun cb hcb => ?_, fun b hb => KupS_dom h5 b hb⟩
  obtain ⟨k1, k2⟩ := h8.kept cb hcb fun b hb => hb.nil
  refine ⟨k1, ?_⟩
  rw [KupS_other fun b sz es base h9 h10 h11 => hold cb hcb b (.row _ _ _ _ _ h10 h11)]
  exact k2
theorem pcall_of_bor {g : FuncId} {args : List AV} {r : AV} (h : FCall P g args [] fun r' H' => ∃ S, Bor H' S r' r) : PCall P g args r := by
  have := qcall_of_bor (P := P) (g := g) (args := args) (R := (· = r)) (FCall.mono h fun r' H' ⟨S, hb⟩ => ⟨r, S, hb, rfl⟩)
  intro K w vs h1 h2 h3
  exact Calls.mono (this K w vs h1 h2 h3) fun e w' ⟨v, r', K', k1, k2, k3, k4⟩ => ⟨v, K', k1, k2 ▸ k3, k4⟩

/-! ### all cells behind an address -/
theorem flatten_get : ∀ (xs : List (List AV)) (sz : Nat), (∀ x ∈ xs, x.length = sz) → ∀ i j, i < xs.length → j < sz → xs.flatten.getD (i * sz + j) .junk = (xs.getD i []).getD j .junk
  | [], sz, h, i, j, hi, hj => by simp at hi
  | x :: xs, sz, h, i, j, hi, hj => by
    have hx := h x (by simp)
    cases i with
    | zero =>
      simp only [List.flatten_cons, Nat.zero_mul, Nat.zero_add, List.getD_cons_zero]
      rw [List.getD_eq_getElem?_getD, List.getElem?_append_left (by omega), ← List.getD_eq_getElem?_getD]
    | succ i =>
      have := flatten_get xs sz (fun y hy => h y (by simp [hy])) i j (by simpa using hi) hj
      simp only [List.flatten_cons, List.getD_cons_succ]
      rw [← this, List.getD_eq_getElem?_getD, List.getElem?_append_right (by rw [Nat.add_mul]; omega), List.getD_eq_getElem?_getD]
      congr 2
      rw [Nat.add_mul]; omega
theorem flatten_len : ∀ (xs : List (List AV)) (sz : Nat), (∀ x ∈ xs, x.length = sz) → xs.flatten.length = xs.length * sz
  | [], sz, h => by simp
  | x :: xs, sz, h => by
    rw [List.flatten_cons, List.length_append, flatten_len xs sz (fun y hy => h y (by simp [hy])), h x (by simp), List.length_cons, Nat.add_mul]; omega

/-- a frozen list and the address of its first element, with all its cells -/
theorem FRel.fptr_all {K : Nat → Nat} {w : World} {sz : Nat} {xs : List (List AV)} {v : Value} (h : FRel K w (.fsl sz xs) v) (h0 : 0 < xs.length) (h1 : 1 < sz) : ∃ a cap, v = .slice (some a) xs.length cap ∧ FRel K w (.fptr xs.flatten) (.pointer (some a)) := by
  cases h with
  | fsl0 => simp at h0
  | fsl _ _ blk off cap g hK hcp hp hs hc ho hr =>
    have hlen := flatten_len xs sz hs
    refine ⟨_, cap, rfl, .fptr _ blk off (fun k => g (k / sz) (k % sz)) (by omega) (fun _ => hp h1) (fun k hk => ?_) (fun k hk => ?_) (fun k hk => ?_)⟩
    · rw [hlen] at hk
      obtain ⟨q1, q2, q3⟩ := idx_split hk
      have := hc _ _ q1 q2
      rw [q3] at this; exact this
    · rw [hlen] at hk
      obtain ⟨q1, q2, q3⟩ := idx_split hk
      exact ho _ _ q1 q2
    · rw [hlen] at hk
      obtain ⟨q1, q2, q3⟩ := idx_split hk
      have := hr _ _ q1 q2
      rw [← flatten_get xs sz hs _ _ q1 q2, q3] at this; exact this
/-- a list by the address of its first element -/
theorem FRel.of_fptr {K : Nat → Nat} {w : World} {sz : Nat} {xs : List (List AV)} {a : Addr} (hs : ∀ x ∈ xs, x.length = sz) (h1 : 1 < sz) (h0 : 0 < xs.length) (h : FRel K w (.fptr xs.flatten) (.pointer (some a))) : FRel K w (.fsl sz xs) (.slice (some a) xs.length xs.length) := by
  have hlen := flatten_len xs sz hs
  have hle : sz ≤ xs.length * sz := by
    have : 1 * sz ≤ xs.length * sz := Nat.mul_le_mul_right _ h0
    omega
  cases h with
  | fptr _ blk off g hK hp hc ho hr =>
    refine .fsl sz xs blk off xs.length (fun i j => g (i * sz + j)) (by omega) (Nat.le_refl _) (fun _ => hp (by omega)) hs (fun i j hi hj => hc _ (by rw [hlen]; exact idx_lt hi hj)) (fun i j hi hj => ho _ (by rw [hlen]; exact idx_lt hi hj)) (fun i j hi hj => ?_)
    rw [← flatten_get xs sz hs i j hi hj]
    exact hr _ (by rw [hlen]; exact idx_lt hi hj)

theorem sem_idx0 (hT : TyOK P T) {o : Oper} {t e : TypeId} {x ix : Operand} {env : Env} {H : Heap} {d de : TyD} {s : Nat} {xs : List (List AV)} {k : IntKind} (ho : o.op = .indexAddr t x ix) (hd : T t = some d) (hk : d.kind = .slice e) (hde : T e = some de) (h1 : 1 < de.sz)
    (hx : env.ev s x = .fsl de.sz xs) (hi : env.ev s ix = .int k 0) (h0 : 0 < xs.length) : OpSem P o env H ⟨none, .fptr xs.flatten, [], []⟩ := by
  have hm1 : x ∈ o.op.operands.toList := by rw [ho]; simp [Op.operands]
  have hm2 : ix ∈ o.op.operands.toList := by rw [ho]; simp [Op.operands]
  obtain ⟨i0, z, u, hi0, hs, _, _, hu, hko, _⟩ := hT.ok t d hd
  rw [hk] at hko
  cases u <;> simp only [kindOK] at hko
  subst hko
  obtain ⟨ie, _, _, hie, hse, _⟩ := hT.ok e de hde
  refine OpSem.pure (r := ⟨none, .fptr xs.flatten, [], []⟩) rfl fun C a H2 henv hH hlog _ => ?_
  have hf := (hx ▸ ev_rel henv s x hm1).fsl_inv
  have e2 := (hi ▸ ev_rel henv s ix hm2).int_inv
  obtain ⟨ad, cap, e1, hp⟩ := hf.fptr_all h0 h1
  refine ⟨.pointer (some ad), ?_, .fro _ _ hp⟩
  unfold execOp
  rw [ho]
  have hrun := run_indexAt_sl (P := P) hu hie ad xs.length cap k 0 (by omega) (by omega) C.w
  show (do pure (.value (← Instr.indexAt t (a.eval x) (a.eval ix))) : Sem Next).run P C.w = _
  rw [e1, e2, Sem.run_bind, hrun]
  have hsp : ad.add ((0 : Int).toNat * ie.size) = ad := by
    cases hp with
    | fptr _ blk off => simp [Addr.add_mid]
  rw [hsp]
  rfl
end Go.Av
/- Guards and conditions that are not known ahead: both ways are walked. -/
set_option linter.unusedVariables false
namespace Go.Av
open Go
variable {P : Program} {T : Tys} {n : Nat} {ops : Array Oper} {Q : Env → Heap → Prop} {os : List Oper} {acc : List Itm} {env : Env} {H : Heap}
section
variable {dst : Option Tmp} {op : Op} {ty : TypeId} {pos : String} {after : Array Edge} {g : Nat} {want : Bool} {t : Nat} {b : Bool}
theorem ar_case (h0 : (ops[g]?).bind (·.dst) = some t) (hv : env.get t = .bool b) (h1 : b = true → ASeq P n ops Q (⟨dst, op, ty, pos, after, some (g, want)⟩ :: os) env H) (h2 : b = false → ASeq P n ops Q (⟨dst, op, ty, pos, after, some (g, want)⟩ :: os) env H) :
    ASeq P n ops Q (⟨dst, op, ty, pos, after, some (g, want)⟩ :: os) env H := by
  cases b
  · exact h2 rfl
  · exact h1 rfl
theorem ard_case (h0 : (ops[g]?).bind (·.dst) = some t) (hv : env.get t = .bool b) (h1 : b = true → AReg P n ops true Q (⟨dst, op, ty, pos, after, some (g, want)⟩ :: os) acc env H) (h2 : b = false → AReg P n ops true Q (⟨dst, op, ty, pos, after, some (g, want)⟩ :: os) acc env H) :
    AReg P n ops true Q (⟨dst, op, ty, pos, after, some (g, want)⟩ :: os) acc env H := by
  cases b
  · exact h2 rfl
  · exact h1 rfl
end
section
variable {d : Tmp} {c x y : Operand} {ty : TypeId} {pos : String} {after : Array Edge} {guard : Option (Nat × Bool)} {b : Bool}
theorem ar_pickc (hv : env.ev 0 c = .bool b) (h1 : b = true → ASeq P n ops Q (⟨some d, .pick c x y, ty, pos, after, guard⟩ :: os) env H) (h2 : b = false → ASeq P n ops Q (⟨some d, .pick c x y, ty, pos, after, guard⟩ :: os) env H) :
    ASeq P n ops Q (⟨some d, .pick c x y, ty, pos, after, guard⟩ :: os) env H := by
  cases b
  · exact h2 rfl
  · exact h1 rfl
theorem ard_pickc (hv : env.ev 0 c = .bool b) (h1 : b = true → AReg P n ops true Q (⟨some d, .pick c x y, ty, pos, after, guard⟩ :: os) acc env H) (h2 : b = false → AReg P n ops true Q (⟨some d, .pick c x y, ty, pos, after, guard⟩ :: os) acc env H) :
    AReg P n ops true Q (⟨some d, .pick c x y, ty, pos, after, guard⟩ :: os) acc env H := by
  cases b
  · exact h2 rfl
  · exact h1 rfl
/-- a condition that is not known -/
theorem aw_cond_b {c : Operand} {x y : Code} {Q : AExit → Env → Heap → Prop} {b : Bool} (hc : env.ev 0 c = .bool b) (h1 : b = true → AW P n x Q env H) (h2 : b = false → AW P n y Q env H) : AW P n (.cond c x y) Q env H := aw_cond hc h1 h2
end
end Go.Av
/- A call's result in memory of the call's own is frozen when it is handed out. -/
set_option linter.unusedVariables false
namespace Go.Av
open Go
variable {P : Program} {T : Tys}

theorem FCall.give {g : FuncId} {args : List AV} {H : Heap} {R : AV → Heap → Prop} (h : FCall P g args H fun r' H' => ∃ r S, Bor H' S r' r ∧ (∀ b ∈ S, H.length ≤ b) ∧ R r (H'.kill S)) : FCall P g args H R := by
  intro C vs hH hfr hsz hvs
  refine Calls.mono (h C vs hH hfr hsz hvs) ?_
  rintro e w' ⟨v, r', C', H', h1, ⟨r, S, hb, hS, hR⟩, h3, h4, h5, h6, h7, h8⟩
  subst h4
  have hle : ∀ b, C'.K b ≤ KupS C' H' S b := KupS_ge h5
  have hag : Agree C'.K C'.w C'.w := Agree.refl _ _
  have hs : StepExt C' (C'.grow (KupS C' H' S) C'.w) := ⟨fun _ _ h => h, fun _ _ _ h => h, hle, hag⟩
  have howns : ∀ b cb, Owns (C'.grow (KupS C' H' S) C'.w) (H'.kill S) b cb → Owns C' H' b cb ∧ b ∉ S := fun b cb ho => by
    cases ho with
    | row sz es _ base hb hφ =>
      rw [Heap.at_kill] at hb
      split at hb
      · cases hb
      · rename_i hn; exact ⟨.row _ sz es _ base hb hφ, hn⟩
    | tok e _ eo ce hb hτ =>
      rw [Heap.at_kill] at hb
      split at hb
      · cases hb
      · rename_i hn; exact ⟨.tok _ e _ eo ce hb hτ, hn⟩
    | map es _ hb hφ =>
      rw [Heap.at_kill] at hb
      split at hb
      · cases hb
      · rename_i hn; exact ⟨.map _ es _ hb hφ, hn⟩
  have hother : ∀ b cb, Owns C' H' b cb → b ∉ S → KupS C' H' S cb = C'.K cb := fun b cb ho hb =>
    KupS_other fun b' sz es base h3 h4 h9 => hb (h5.own b' b cb (.row _ _ _ _ _ h4 h9) ho ▸ h3)
  refine ⟨v, r, C'.grow (KupS C' H' S) C'.w, H'.kill S, h1, hR, .fro _ _ (hb C' v h5 h3), rfl, ⟨fun b => ?_, fun b b' cb k1 k2 => h5.own b b' cb (howns b cb k1).1 (howns b' cb k2).1, fun b hb => KupS_dom h5 b hb⟩, fun b hb => ?_, h7.trans hs, ?_⟩
  · rw [Heap.at_kill]
    split
    · trivial
    · rename_i hn
      have h9 := h5.blk b
      cases hb : H'.at b with
      | dead => trivial
      | row sz es =>
        rw [hb] at h9
        obtain ⟨cb, base, g, k1, k2, k3, k4, k5, k6, k7, k8⟩ := h9
        exact ⟨cb, base, g, k1, k2, (hother b cb (.row _ _ _ _ _ hb k1) hn).trans k3, k4, k5, k6, k7, fun i j hi hj => (k8 i j hi hj).mono hs⟩
      | tok e =>
        rw [hb] at h9
        obtain ⟨k1, k2⟩ := h9
        refine ⟨k1, k2.imp id ?_⟩
        rintro ⟨cb, eo, ce, k3, k4, k5, k6⟩
        exact ⟨cb, eo, ce, k3, k4, (hother b cb (.tok _ e _ _ _ hb k3) hn).trans k5, k6⟩
      | mapb es =>
        rw [hb] at h9
        obtain ⟨r, entries, clock, k1, k2, k3, k4, k5, k6⟩ := h9
        exact ⟨r, entries, clock, k1, k2, (hother b r (.map _ es _ hb k1) hn).trans k3, k4, fun i hi => (k5 i hi).mono hle hag, fun i hi => (k6 i hi).mono hle hag⟩
  · refine h6 b ?_
    have := (Heap.length_puts (S.map fun b => (b, Blk.dead)) H').1
    exact Nat.le_trans this hb
  · refine h8.trans ⟨rfl, rfl, Nat.le_refl _, fun cb hcb hn => ⟨rfl, KupS_other fun b sz es base h3 h4 h9 => hn b (.row _ _ _ _ _ h4 h9)⟩, fun b cb ho _ => ⟨b, (howns b cb ho).1⟩⟩
/-- all blocks of the call's own go; only what was there stays -/
theorem Heap.kill_app : ∀ (H L : Heap) (S : List Nat), (∀ b ∈ S, H.length ≤ b) → ∃ N, (H ++ L).kill S = H ++ N := by
  intro H L S
  induction S generalizing L with
  | nil => intro _; exact ⟨L, rfl⟩
  | cons b S ih =>
    intro h
    have hb := h b (by simp)
    obtain ⟨i, rfl⟩ : ∃ i, b = H.length + i := ⟨b - H.length, by omega⟩
    have : (H ++ L).kill ((H.length + i) :: S) = (H ++ Heap.put L i .dead).kill S := by
      show ((H ++ L).put (H.length + i) .dead).puts _ = _
      rw [Heap.put_app]
      rfl
    rw [this]
    exact ih _ fun c hc => h c (by simp [hc])
end Go.Av
/- Calls that look at memory, hand out frozen data and leave memory as it was. -/
set_option linter.unusedVariables false
set_option linter.unusedSimpArgs false
namespace Go.Av
open Go
variable {P : Program} {o : Oper} {env : Env} {H : Heap}

theorem FCall.trim {g : FuncId} {args : List AV} {r : AV} (hb : ∀ b, (H.at b).blw H.length = true) (hr : frz r = some r) (h : FCall P g args H fun r' H' => r' = r ∧ ∃ N, H' = H ++ N) : FCall P g args H fun r' H' => r' = r ∧ H' = H := by
  intro C vs hH hdom hn hv
  refine Calls.mono (h C vs hH hdom hn hv) ?_
  rintro e w' ⟨v, r', C', H', rfl, ⟨rfl, N, rfl⟩, h2, rfl, h4, h5, h6, h7⟩
  have h9 := h4.cut (n := H.length) fun b hb' => by rw [Heap.at_old _ _ hb']; exact hb b
  rw [List.take_left] at h9
  refine ⟨v, r', C'.cut H.length, H, rfl, ⟨rfl, rfl⟩, .fro _ _ (h2.frz hr), rfl, h9, fun b hb' => ?_, h6.cut hdom (Nat.le_refl _), ?_⟩
  · have : ¬ b < H.length := by omega
    exact ⟨by simp [Ctx.cut, this], fun e => by simp [Ctx.cut, this]⟩
  · refine ⟨h7.os, h7.output, h7.size, h7.kept, fun b cb ho hcb => h7.owned b cb ?_ hcb⟩
    have hlt : ∀ {x : Blk}, H.at b = x → x ≠ .dead → b < H.length := fun h1 h2 => at_lt (by rw [h1]; exact h2)
    cases ho with
    | row sz es _ base hb' hφ => exact .row _ sz es _ base (by rw [Heap.at_old _ _ (hlt hb' (by simp))]; exact hb') (by simpa [Ctx.cut, hlt hb' (by simp)] using hφ)
    | tok e _ eo ce hb' hτ => exact .tok _ e _ eo ce (by rw [Heap.at_old _ _ (hlt hb' (by simp))]; exact hb') (by simpa [Ctx.cut, hlt hb' (by simp)] using hτ)
    | map es _ hb' hφ => exact .map _ es _ (by rw [Heap.at_old _ _ (hlt hb' (by simp))]; exact hb') (by simpa [Ctx.cut, hlt hb' (by simp)] using hφ)

theorem eff_fcall2 {c : Call} {g : FuncId} {fn : Func} {body : Code} {r : AV} {Bs : List Blk} {log : List Nat} (ho : o.op = .call c) (hc : c.callee = .value (.func g)) (hf : FnOK P g fn body)
    (hab : blwL H.length (c.args.toList.map (env.ev 0)) = true) (hlog : ∀ b ∈ log, b < H.length ∧ (H.at b).blw H.length = true) (hrow : ∀ b ∈ log, ∃ sz es, H.at b = .row sz es) (hr : r.abv H.length = true) (hBs : ∀ x ∈ Bs, Blk.abv H.length x = true)
    (h : ∀ H1 : Heap, H1.length = H.length → (∀ b ∈ log, H1.at b = H.at b) → (∀ b, (H1.at b).blw H.length = true) → FCall P g (c.args.toList.map (env.ev 0)) H1 fun r' H' => r' = r ∧ H' = H1 ++ Bs) :
    OpEff P o env H ⟨r, newWr H.length Bs, log⟩ := by
  intro C a H2 henv hH hlg hnew next Q hk
  have hll : ∀ b ∈ log, b < H.length := fun b hb => (hlog b hb).1
  have hfresh : ∀ b, H.length ≤ b → b < H.length + Bs.length → H2.at b = .dead ∧ Fresh C b := fun b h1 h2 => by
    have hmem : (b, Bs.getD (b - H.length) .dead) ∈ newWr H.length Bs := by
      unfold newWr
      refine List.mem_map.2 ⟨b - H.length, List.mem_range.2 (by omega), ?_⟩
      rw [show H.length + (b - H.length) = b by omega]
    rcases hnew _ hmem with h3 | h3
    · have := hll b h3; omega
    · exact h3
  have hat : ∀ b, (H2.pick H.length log).at b = if b ∈ log then H2.at b else .dead := Heap.at_pick H2 H.length log hll
  have hHn : HRel (C.cut H.length) (H2.pick H.length log) := by
    have h1 : HRel C (H2.pick H.length log) := hH.weak fun b => by
      rw [hat b]
      split
      · exact .refl _
      · exact .dead _
    have h2 := h1.cut (n := H.length) fun b hb => by
      rw [hat b]
      split
      · rename_i hbl; rw [hlg b hbl]; exact (hlog b hbl).2
      · rfl
    rwa [List.take_of_length_le (by rw [Heap.pick_length]; exact Nat.le_refl _)] at h2
  unfold Oper.wp
  rw [execOp_call ho hc hf]
  simp only [Oper.upon]
  have hops : ∀ x, x ∈ c.args.toList → x ∈ o.op.operands.toList := fun x hx => by
    rw [ho]; simp [Op.operands, Call.operands, hc]; simp at hx; exact .inr hx
  refine Calls.mono (h (H2.pick H.length log) (Heap.pick_length ..) (fun b hb => by rw [hat b, if_pos hb]; exact hlg b hb) (fun b => by
    rw [hat b]
    split
    · rename_i hb; rw [hlg b hb]; exact (hlog b hb).2
    · rfl) (C.cut H.length) _ hHn (fun b hb => ?_) (by simp) (fun i hi => ?_)) ?_
  · rw [Heap.pick_length] at hb
    have : ¬ b < H.length := by omega
    exact ⟨by simp [Ctx.cut, this], fun e => by simp [Ctx.cut, this]⟩
  · have hi' : i < c.args.size := by simpa using hi
    have h1 := ev_rel henv 0 (c.args[i]) (hops _ (by simp))
    have e1 : (c.args.toList.map (env.ev 0)).getD i .junk = env.ev 0 c.args[i] := by simp [List.getD_eq_getElem?_getD, hi']
    have e2 : (c.args.map a.eval).getD i undef = a.eval c.args[i] := by simp [Array.getD_eq_getD_getElem?, hi']
    have h2 := blwL_get hab i
    rw [e1] at h2
    rw [e1, e2]; exact h1.cut h2
  · rintro e w' ⟨v, r', C', H', rfl, ⟨rfl, rfl⟩, hv, rfl, hH', hdom', hs, hfr⟩
    have hlen : (H2.pick H.length log ++ Bs).length = H.length + Bs.length := by rw [List.length_append, Heap.pick_length]
    have hm : ∀ b, H.length + Bs.length ≤ b → Fresh C' b := fun b hb => hdom' b (by rw [hlen]; exact hb)
    have hst : StepExt C (Ctx.join C C' log H.length (H.length + Bs.length)) := StepExt.join hll (fun b h1 h2 => (hfresh b h1 h2).2) hs
    have hnew' : ∀ b, H.length ≤ b → b < H.length + Bs.length → Heap.at (H2.pick H.length log ++ Bs) b = Bs.getD (b - H.length) .dead := fun b h1 h2 => by
      have h9 := Heap.at_app (H2.pick H.length log) Bs (b - H.length)
      rw [Heap.pick_length, show H.length + (b - H.length) = b by omega] at h9
      exact h9
    have hold' : ∀ b ∈ log, Heap.at (H2.pick H.length log ++ Bs) b = H2.at b := fun b hb => by
      rw [Heap.at_old _ _ (by rw [Heap.pick_length]; exact hll b hb), hat b, if_pos hb]
    have hpick : ∀ b cb, Owns (C.cut H.length) (H2.pick H.length log) b cb → b ∈ log ∧ Owns C H2 b cb := fun b cb ho => by
      cases ho with
      | row sz es _ base hb hφ =>
        rw [hat] at hb
        split at hb
        · rename_i hl; exact ⟨hl, .row _ sz es _ base hb (by simpa [Ctx.cut, hll b hl] using hφ)⟩
        · cases hb
      | tok e _ eo ce hb hτ =>
        rw [hat] at hb
        split at hb
        · rename_i hl; exact ⟨hl, .tok _ e _ eo ce hb (by simpa [Ctx.cut, hll b hl] using hτ)⟩
        · cases hb
      | map es _ hb hφ =>
        rw [hat] at hb
        split at hb
        · rename_i hl; exact ⟨hl, .map _ es _ hb (by simpa [Ctx.cut, hll b hl] using hφ)⟩
        · cases hb
    have hown' : ∀ b cb, Owns (Ctx.join C C' log H.length (H.length + Bs.length)) (H2.puts (newWr H.length Bs)) b cb →
        Owns C' (H2.pick H.length log ++ Bs) b cb ∨ (b ∉ log ∧ Owns C H2 b cb) := fun b cb ho => by
      have hatb := at_newWr H2 H.length Bs b
      by_cases h1 : H.length ≤ b ∧ b < H.length + Bs.length
      · rw [if_pos h1, ← hnew' b h1.1 h1.2] at hatb
        have hj := join_in (C := C) (C' := C') (log := log) (n := H.length) (m := H.length + Bs.length) (b := b) (.inr h1)
        left
        cases ho with
        | row sz es _ base hb hφ => exact .row _ sz es _ base (hatb ▸ hb) (hj.1 ▸ hφ)
        | tok e _ eo ce hb hτ => exact .tok _ e _ eo ce (hatb ▸ hb) (by rw [← hj.2]; exact hτ)
        | map es _ hb hφ => exact .map _ es _ (hatb ▸ hb) (hj.1 ▸ hφ)
      · rw [if_neg h1] at hatb
        by_cases h2 : b ∈ log
        · rw [← hold' b h2] at hatb
          have hj := join_in (C := C) (C' := C') (log := log) (n := H.length) (m := H.length + Bs.length) (b := b) (.inl h2)
          left
          cases ho with
          | row sz es _ base hb hφ => exact .row _ sz es _ base (hatb ▸ hb) (hj.1 ▸ hφ)
          | tok e _ eo ce hb hτ => exact .tok _ e _ eo ce (hatb ▸ hb) (by rw [← hj.2]; exact hτ)
          | map es _ hb hφ => exact .map _ es _ (hatb ▸ hb) (hj.1 ▸ hφ)
        · have hj := join_out (C := C) (C' := C') (log := log) (n := H.length) (m := H.length + Bs.length) (b := b) (fun h => h.elim h2 h1)
          refine .inr ⟨h2, ?_⟩
          cases ho with
          | row sz es _ base hb hφ => exact .row _ sz es _ base (hatb ▸ hb) (hj.1 ▸ hφ)
          | tok e _ eo ce hb hτ => exact .tok _ e _ eo ce (hatb ▸ hb) (by rw [← hj.2]; exact hτ)
          | map es _ hb hφ => exact .map _ es _ (hatb ▸ hb) (hj.1 ▸ hφ)
    have hmix : ∀ b b' cb, Owns C' (H2.pick H.length log ++ Bs) b cb → b' ∉ log → Owns C H2 b' cb → False := fun b b' cb h1 h2 h3 => by
      obtain ⟨b'', h4⟩ := hfr.owned b cb h1 (hH.owns_lt h3)
      obtain ⟨h5, h6⟩ := hpick b'' cb h4
      exact h2 (hH.own b' b'' cb h3 h6 ▸ h5)
    refine hk v (Ctx.join C C' log H.length (H.length + Bs.length)) (hv.join_abv hm hr) ⟨fun b => ?_, fun b b' cb h1 h2 => ?_, hH'.dom⟩ hst
      ⟨hfr.os, hfr.output, hfr.size, fun cb hcb hn => hfr.kept cb hcb fun b hb => hn b (hpick b cb hb).2, fun b cb ho hcb => ?_⟩ (fun b hb hfrsh => ?_)
    · rw [at_newWr]
      by_cases h1 : H.length ≤ b ∧ b < H.length + Bs.length
      · rw [if_pos h1]
        have h2 := hH'.blk b
        rw [hnew' b h1.1 h1.2] at h2
        have h3 : b - H.length < Bs.length := by omega
        exact BlkOK.join_new hm h1 (hBs _ (by rw [List.getD_eq_getElem?_getD, List.getElem?_eq_getElem h3]; exact List.getElem_mem h3)) h2
      · rw [if_neg h1]
        by_cases h2 : b ∈ log
        · have h3 := hH'.blk b
          rw [hold' b h2] at h3
          exact BlkOK.join_log hs h2 (by rw [hlg b h2]; exact (hlog b h2).2) (hH.blk b) h3
        · refine BlkOK.join_else hst hfr.size (fun h => h.elim h2 h1) (fun cb H0 h3 h4 => ?_) (hH.blk b)
          have h5 : Owns C H2 b cb := by
            cases h4 with
            | row sz es _ base hb hφ => exact .row _ sz es _ base (h3 ▸ hb) hφ
            | tok e _ eo ce hb hτ => exact .tok _ e _ eo ce (h3 ▸ hb) hτ
            | map es _ hb hφ => exact .map _ es _ (h3 ▸ hb) hφ
          exact hfr.kept cb (hH.owns_lt h5) fun b' hb' => h2 (hH.own b b' cb h5 (hpick b' cb hb').2 ▸ (hpick b' cb hb').1)
    · rcases hown' b cb h1 with h1 | ⟨n1, h1⟩ <;> rcases hown' b' cb h2 with h2 | ⟨n2, h2⟩
      · exact hH'.own b b' cb h1 h2
      · exact (hmix b b' cb h1 n2 h2).elim
      · exact (hmix b' b cb h2 n1 h1).elim
      · exact hH.own b b' cb h1 h2
    · rcases hown' b cb ho with h1 | ⟨_, h1⟩
      · obtain ⟨b', h2⟩ := hfr.owned b cb h1 hcb
        exact ⟨b', (hpick b' cb h2).2⟩
      · exact ⟨b, h1⟩
    · refine Fresh.join (fun h => ?_) hfrsh
      rcases h with h | h
      · obtain ⟨sz, es, h1⟩ := hrow b h
        have h2 := hH.blk b
        rw [hlg b h, h1] at h2
        obtain ⟨cb, base, g, k1, _⟩ := h2
        rw [hfrsh.1] at k1; cases k1
      · refine hb (b, Bs.getD (b - H.length) .dead) ?_ rfl
        unfold newWr
        refine List.mem_map.2 ⟨b - H.length, List.mem_range.2 (by omega), ?_⟩
        rw [show H.length + (b - H.length) = b by omega]

theorem ard_fcall2 {n : Nat} {ops : Array Oper} {Q : Env → Heap → Prop} {os : List Oper} {acc : List Itm} {d : Tmp} {c : Call} {ty : TypeId} {pos : String} {after : Array Edge} {guard : Option (Nat × Bool)} {g : FuncId} {fn : Func} {body : Code} {args : List AV} {r : AV} {Bs : List Blk} {log : List Nat}
    (hc : c.callee = .value (.func g)) (hf : FnOK P g fn body) (ha : c.args.toList.map (env.ev 0) = args)
    (h : ∀ H1 : Heap, H1.length = H.length → (∀ b ∈ log, H1.at b = H.at b) → (∀ b, (H1.at b).blw H.length = true) → FCall P g args H1 fun r' H' => r' = r ∧ H' = H1 ++ Bs)
    (hab : blwL H.length args = true) (hlog : ∀ b ∈ log, b < H.length ∧ (H.at b).blw H.length = true) (hrow : ∀ b ∈ log, ∃ sz es, H.at b = .row sz es) (hr : r.abv H.length = true) (hBs : ∀ x ∈ Bs, Blk.abv H.length x = true)
    (hd : Nat.blt d n = true) (hg : aguard ops ⟨some d, .call c, ty, pos, after, guard⟩ env = some true)
    (hk : AReg P n ops true Q os (⟨⟨some d, .call c, ty, pos, after, guard⟩, ⟨r, newWr H.length Bs, log⟩⟩ :: acc) ((d, r) :: env) (H ++ Bs)) :
    AReg P n ops true Q (⟨some d, .call c, ty, pos, after, guard⟩ :: os) acc env H := by
  subst ha
  refine .inl ⟨_, .run _ (by simp [dstOK, hd]) hg (fun p hp => ?_) (eff_fcall2 rfl hc hf hab hlog hrow hr hBs h), ?_⟩
  · unfold newWr at hp
    obtain ⟨i, _, rfl⟩ := List.mem_map.1 hp
    exact .inr (Nat.le_add_right ..)
  · show AReg P n ops true Q os _ ((d, r) :: env) (H.puts (newWr H.length Bs))
    rw [puts_newWr]; exact hk

/-- such a call where the order is drawn -/
theorem ard_rcall {n : Nat} {ops : Array Oper} {Q : Env → Heap → Prop} {os : List Oper} {acc : List Itm} {d : Tmp} {c : Call} {ty : TypeId} {pos : String} {after : Array Edge} {guard : Option (Nat × Bool)} {g : FuncId} {fn : Func} {body : Code} {args : List AV} {r : AV} {log : List Nat}
    (hc : c.callee = .value (.func g)) (hf : FnOK P g fn body) (ha : c.args.toList.map (env.ev 0) = args)
    (h : ∀ H1 : Heap, H1.length = H.length → (∀ b ∈ log, H1.at b = H.at b) → FCall P g args H1 fun r' H' => r' = r ∧ ∃ N, H' = H1 ++ N)
    (hab : blwL H.length args = true) (hlog : ∀ b ∈ log, b < H.length ∧ (H.at b).blw H.length = true) (hrow : ∀ b ∈ log, ∃ sz es, H.at b = .row sz es) (hr : r.abv H.length = true) (hz : frz r = some r)
    (hd : Nat.blt d n = true) (hg : aguard ops ⟨some d, .call c, ty, pos, after, guard⟩ env = some true)
    (hk : AReg P n ops true Q os (⟨⟨some d, .call c, ty, pos, after, guard⟩, ⟨r, [], log⟩⟩ :: acc) ((d, r) :: env) H) :
    AReg P n ops true Q (⟨some d, .call c, ty, pos, after, guard⟩ :: os) acc env H :=
  ard_fcall2 (Bs := []) hc hf ha (fun H1 e1 e2 e3 => FCall.mono (FCall.trim (fun b => by rw [e1]; exact e3 b) hz (h H1 e1 e2)) fun r' H' ⟨h1, h2⟩ => ⟨h1, by rw [h2]; simp⟩) hab hlog hrow hr (fun x hx => by cases hx) hd hg
    (by simpa [newWr] using hk)
end Go.Av
/- The order of a region's beginning, checked by parts. -/
set_option linter.unusedVariables false
namespace Go.Av
open Go
theorem pairsOK_of' {ops : Array Oper} (all : List Itm) : ∀ (xs : List Itm) (ms : List Nat) (i : Nat), xs.length ≤ ms.length → (∀ k y, xs[k]? = some y → all[i + k]? = some y) →
    (∀ p ∈ loose i ms, ∀ x y, all[p.1]? = some x → all[p.2]? = some y → Oper.apart ops x.o y.o = true ∧ apartH x.e y.e = true) → pairsOK ops i xs ms = true
  | [], ms, i, hl, hy, h => by cases ms <;> rfl
  | x :: xs, [], i, hl, hy, h => by simp at hl
  | x :: xs, m :: ms, i, hl, hy, h => by
    have h0 : all[i]? = some x := by simpa using hy 0 x (by simp)
    have hstep : ∀ k z, xs[k]? = some z → all[(i + 1) + k]? = some z := fun k z hk => by have := hy (k + 1) z (by simpa using hk); rw [← this]; congr 1; omega
    simp only [pairsOK, Bool.and_eq_true]
    refine ⟨pairsOK1_of all xs ms (i + 1) (by simp at hl; omega) hstep fun p hp y hyy hlt => ?_, pairsOK_of' all xs ms (i + 1) (by simpa using hl) hstep fun p hp => h p (by simp [loose, hp])⟩
    have hp1 : p.1 = i := by
      have : ∀ (ms : List Nat) (j : Nat), p ∈ loose1 i j ms → p.1 = i := by
        intro ms
        induction ms with
        | nil => intro j hp; simp [loose1] at hp
        | cons m ms ih =>
          intro j hp
          simp only [loose1] at hp
          cases hb : m.testBit i <;> rw [hb] at hp
          · simp at hp
            rcases hp with rfl | hp
            · rfl
            · exact ih _ hp
          · exact ih _ (by simpa using hp)
      exact this ms _ hp
    exact h p (by simp [loose, hp]) x y (by rw [hp1]; exact h0) hyy
theorem orderOK_pre {ops : Array Oper} {its : List Itm} (n : Nat) (L : List (Nat × Nat)) (hn : its.length = n) (ho : its.map (·.o) = ops.toList.take n) (h1 : topoOK 0 ops.toList = true)
    (h2 : ((looseOf ops).filter fun p => Nat.blt p.1 n && Nat.blt p.2 n) = L) (h3 : looseApart ops = true)
    (h : (L.all fun p => apartH (effOf its p.1) (effOf its p.2)) = true) : orderOK ops its = true := by
  unfold orderOK
  rw [h1, Bool.true_and]
  have hlen : its.length ≤ ops.toList.length := by
    have := congrArg List.length ho
    simp at this ⊢
    omega
  refine pairsOK_of' its its _ 0 (by rw [masks_len]; simpa using hlen) (fun k y hk => by simpa using hk) fun p hp x y hx hy => ?_
  have hp' : p ∈ looseOf ops := hp
  have h3' := (List.all_eq_true.1 h3) p hp'
  have hop : ∀ (i : Nat) (z : Itm), its[i]? = some z → ops[i]? = some z.o := fun i z hz => by
    have h9 : (its.map (·.o))[i]? = some z.o := by simp [hz]
    have hi : i < n := by rw [← hn]; exact (List.getElem?_eq_some_iff.1 hz).1
    rw [ho, List.getElem?_take_of_lt hi] at h9
    simpa using h9
  rw [hop _ _ hx, hop _ _ hy] at h3'
  refine ⟨h3', ?_⟩
  have hb1 : p.1 < n := by rw [← hn]; exact (List.getElem?_eq_some_iff.1 hx).1
  have hb2 : p.2 < n := by rw [← hn]; exact (List.getElem?_eq_some_iff.1 hy).1
  have := (List.all_eq_true.1 h) p (h2 ▸ List.mem_filter.2 ⟨hp', by simp [hb1, hb2]⟩)
  simpa [effOf, hx, hy] using this
end Go.Av
/- A new slice of constants that are structs. -/
set_option linter.unusedVariables false
namespace Go.Av
open Go
variable {P : Program} {T : Tys}

theorem sem_buildSliceF (hT : TyOK P T) {o : Oper} {t e : TypeId} {len : Nat} {parts : Array (Nat × Operand)} {d de : TyD} {env : Env} {H : Heap} {es xs : List (List AV)} (n : Nat) (f : Operand → AV) (hf : ∀ (C : Ctx) (a : Act), EnvOK C env a o.op.operands.toList → ∀ x ∈ o.op.operands.toList, VRel C (f x) (a.eval x)) (ho : o.op = .buildSlice t len parts) (hd : T t = some d)
    (hk : d.kind = .slice e) (hde : T e = some de) (he : aelems de.sz len (List.replicate len de.zero) (parts.toList.map fun p => (p.1, f p.2)) = some es) (hx : frzLL es = some xs) (hb : len * de.sz ≤ 16777216) :
    OpSem P o env H ⟨none, .asl n len de.sz xs, [(n, .tok len)], []⟩ := by
  have hex : ∀ a : Act, execOp a.eval o = (do pure (.value (← Instr.buildSlice t len (parts.map fun (i, x) => (i, a.eval x))))) := fun a => by unfold execOp; rw [ho]
  obtain ⟨ti, z, u, hti, hts', htb, htz, hu, hkk, hrest⟩ := hT.ok t d hd
  obtain ⟨te, ze, ue, hie, hse, _⟩ := hT.ok e de hde
  rw [hk] at hkk
  cases u <;> simp only [kindOK] at hkk
  subst hkk
  obtain ⟨f1, f2⟩ := frzLL_spec hx
  have main : es.length = len → OpSem P o env H ⟨none, .asl n xs.length de.sz xs, [(n, .tok xs.length)], []⟩ := fun hlen => by
    refine newTok_op fun C a H2 henv hH _ => ?_
    obtain ⟨zv, hzr, hzs, hzrel⟩ := zeros_rel hT hde len C
    obtain ⟨c, hc, hr, hn⟩ := elems_fill (C := C) (parts.toList.map fun p => (p.1, f p.2)) (parts.toList.map fun p => (p.1, a.eval p.2)) _ es _ he (by simp) (hzrel _ rfl) (by simp) (fun k hk => by
      have hk' : k < parts.size := by simpa using hk
      have hmem : parts[k].2 ∈ o.op.operands.toList := by
        rw [ho]
        show parts[k].2 ∈ parts.toList.map (·.2)
        exact List.mem_map.2 ⟨parts[k], by simp, rfl⟩
      have := hf C a henv parts[k].2 hmem
      simpa [List.getD_eq_getElem?_getD, hk'] using this)
    have hrun : (Instr.buildSlice t len (parts.map fun (i, x) => (i, a.eval x))).run P C.w = .ok (.slice (some ⟨C.w.heap.size, 0, none⟩) len len) (C.w.alloc (.cells c e)) := by
      have hparts : (parts.map fun (p : Nat × Operand) => (p.1, a.eval p.2)).toList = parts.toList.map fun p => (p.1, a.eval p.2) := by simp
      simp only [Instr.buildSlice, Sem.run_bind, run_underlying hu, Result.andThen_ok, run_sizeOf_of hie, hse]
      rw [if_neg (by omega)]
      by_cases h0 : len * de.sz = 0
      · rw [if_pos h0]
        have harr : ((Array.range (len * de.sz)).map ((#[] : Array Value)[· % (#[] : Array Value).size]!)) = (Array.range (len * de.sz)).map (zv.cells[· % zv.cells.size]!) := by
          rw [h0]; simp
        simp only [Sem.run_bind, Sem.run_pure, Result.andThen_ok, harr, hparts, hc]
        rfl
      · rw [if_neg h0]
        simp only [Sem.run_bind, Sem.run_pure, Result.andThen_ok, hzr, hparts, hc]
        rfl
    have hxl : xs.length = len := by rw [f1, hlen]
    have hfrl : ∀ i, i < es.length → (xs.getD i []).length = (es.getD i []).length := fun i hi => frzL_length (f2 i hi)
    refine ⟨C.w.alloc (.cells c e), c, e, (0, 0), len, .inl ?_, .alloc _ _, .inl (Nat.le_refl _), fun x hx => ?_, by omega, by rw [hr.size, hlen]; exact Nat.le_refl _, fun k hk => hr.one k (by rw [hlen]; rwa [hxl] at hk), fun i j hi hj => ?_⟩
    · rw [hex, Sem.run_bind, hrun, hxl]; rfl
    · obtain ⟨k, hk, rfl⟩ := List.getElem_of_mem hx
      have h1 := hfrl k (by omega)
      rw [List.getD_eq_getElem?_getD, List.getElem?_eq_getElem hk, List.getD_eq_getElem?_getD, List.getElem?_eq_getElem (by omega)] at h1
      rw [show (some xs[k]).getD [] = xs[k] from rfl] at h1
      rw [h1]; exact hr.len _ (List.getElem_mem _)
    · have hi' : i < es.length := by omega
      have hlen2 : (es.getD i []).length = de.sz := by
        rw [List.getD_eq_getElem?_getD, List.getElem?_eq_getElem hi']; exact hr.len _ (List.getElem_mem _)
      exact (hr.rel i j hi' hj).frz (frzL_get (f2 i hi') j (by omega))
  have key : ∀ (ps : List (Nat × AV)) (a b : List (List AV)), aelems de.sz len a ps = some b → b.length = a.length := by
    intro ps
    induction ps with
    | nil => intro a b h; simp [aelems] at h; rw [h]
    | cons p ps ih =>
      intro a b h
      obtain ⟨i, v⟩ := p
      simp only [aelems] at h
      split at h
      · have := ih _ _ h; rw [this]; simp
      · cases h
  have hlen : es.length = len := by rw [key _ _ _ he]; simp
  have := main hlen
  rwa [f1, hlen] at this
end Go.Av
/- A new slice of nothing, as a row that can be written behind. -/
set_option linter.unusedVariables false
namespace Go.Av
open Go
variable {P : Program} {T : Tys}
theorem sem_build0 (hT : TyOK P T) {o : Oper} {t e : TypeId} {d de : TyD} {env : Env} {H : Heap} (nb : Nat) (ho : o.op = .buildSlice t 0 #[]) (hd : T t = some d) (hk : d.kind = .slice e) (hde : T e = some de) :
    OpSem P o env H ⟨none, .row nb 0 0 (some 0) de.sz, [(nb, .row de.sz [])], []⟩ := by
  have hex : ∀ a : Act, execOp a.eval o = (do pure (.value (← Instr.buildSlice t 0 ((#[] : Array (Nat × Operand)).map fun (i, x) => (i, a.eval x))))) := fun a => by unfold execOp; rw [ho]
  obtain ⟨ti, z, u, hti, hts', htb, htz, hu, hkk, hrest⟩ := hT.ok t d hd
  obtain ⟨te, ze, ue, hie, hse, hbe, hze, hue, hke, hagge, hzle, hzse, hzce, hzae, hzne⟩ := hT.ok e de hde
  rw [hk] at hkk
  cases u <;> simp only [kindOK] at hkk
  subst hkk
  refine newRow_op (es := []) (fun x hx => by cases hx) fun C a H2 henv hH hpre => ?_
  refine ⟨.slice (some ⟨C.w.heap.size, 0, none⟩) 0 0, C.w.alloc (.cells #[] e), #[], e, .inl ?_, .alloc _ _, by simp, fun k hk => by simp at hk, fun i j hi => by simp at hi, ?_⟩
  · rw [hex, Sem.run_bind]
    have hrun : (Instr.buildSlice t 0 ((#[] : Array (Nat × Operand)).map fun (i, x) => (i, a.eval x))).run P C.w = .ok (.slice (some ⟨C.w.heap.size, 0, none⟩) 0 0) (C.w.alloc (.cells #[] e)) := by
      simp only [Instr.buildSlice, Sem.run_bind, run_underlying hu, Result.andThen_ok, run_sizeOf_of hie, hse]
      rw [if_neg (by omega)]
      have h1 : ((Array.range 0).map fun x => (#[] : Array Value)[x % (#[] : Array Value).size]!) = #[] := by simp
      have h2 : ((#[] : Array (Nat × Operand)).map fun x => (x.fst, a.eval x.snd)).toList = [] := by simp
      simp only [Nat.zero_mul, if_true, Sem.run_bind, Sem.run_pure, Result.andThen_ok, h1, h2, Instr.fill]
      rfl
    rw [hrun]; rfl
  · have := VRel.row (C := C.newRow nb de.sz (C.w.alloc (.cells #[] e))) nb 0 0 de.sz C.w.heap.size 0 0 (some 0) (by simp [Ctx.newRow]) (Nat.le_refl _) (fun c hc => by cases hc; rfl) ⟨by show _ < (C.w.alloc _).heap.size; rw [heap_alloc_size]; omega, _, _, (Allocs.alloc C.w (.cells #[] e)).shape, by simp⟩
    simpa using this
end Go.Av
/- Appending cells that are in memory of the call's own; a new slice of such cells. -/
set_option linter.unusedVariables false
namespace Go.Av
open Go
variable {P : Program} {T : Tys}

theorem src_row (hT : TyOK P T) {C : Ctx} {H2 : Heap} (hH : HRel C H2) {tx e2 : TypeId} {de dx : TyD} {i : TypeInfo} (hsz : i.size = de.sz) {b2 : Nat} {cap2 : Option Nat} {ys : List (List AV)} {v : Value} (hx : VRel C (.row b2 0 ys.length cap2 de.sz) v)
    (hdx : T tx = some dx) (hdk : dx.kind = .slice e2) (hb2 : H2.at b2 = .row de.sz ys) :
    ∃ news : List Value, Src P i.size tx v ys.length news C.w ∧ ∀ i j, i < ys.length → j < de.sz → VRel C ((ys.getD i []).getD j .junk) (news.getD (i * de.sz + j) undef) := by
  obtain ⟨ti, z, u, hti, hts', htb, htz, hu, hkk, hrest⟩ := hT.ok tx dx hdx
  rw [hdk] at hkk
  cases u <;> simp only [kindOK] at hkk
  subst hkk
  obtain ⟨cb, base, ccap, hφ, rfl, hlc, _⟩ := hx.row_inv
  obtain ⟨cb', base', g, k1, k2, k3, k4, k5, k6, k7, k8⟩ := hH.row b2 de.sz ys hb2
  rw [hφ] at k1; cases k1
  refine ⟨flatOf ys.length de.sz g, Src.ofSlice C.w hu _ _ _ _ (by rw [flatOf_length, hsz]) (fun j u hj => ?_) (flatOf_one k7), fun i j hi hj => ?_⟩
  · have hj' : j < ys.length * de.sz := by
      have := (List.getElem?_eq_some_iff.1 hj).1; rwa [flatOf_length] at this
    rw [flatOf_get g hj'] at hj
    cases hj
    obtain ⟨q1, q2, q3⟩ := idx_split hj'
    have := k5 _ _ q1 q2
    rw [q3] at this
    rw [Addr.add_mid]
    simpa using this
  · rw [flatOf_getD g hi hj]
    exact k8 i j hi hj

theorem sem_app_moveL (hT : TyOK P T) {o : Oper} {cl : Call} {ts tx e : TypeId} {sx xx : Operand} {env : Env} {H : Heap} {d de : TyD} {b len n : Nat} {cap : Option Nat} {es ys : List (List AV)} {b2 : Nat} {cap2 : Option Nat} {dx : TyD} {e2 : TypeId} {s1 s2 : Nat} (ho : o.op = .call cl) (hb : cl.callee = .builtin .append) (hts : cl.argTypes = #[ts, tx]) (hxs : cl.args = #[sx, xx])
    (hd : T ts = some d) (hk : d.kind = .slice e) (hde : T e = some de) (hs : env.ev s1 sx = .row b 0 len cap de.sz) (hat : H.at b = .row de.sz es) (hel : es.length = len) (hdx : T tx = some dx) (hdk : dx.kind = .slice e2) (hx2 : env.ev s2 xx = .row b2 0 ys.length cap2 de.sz) (hat2 : H.at b2 = .row de.sz ys)
    (hyl : ∀ y ∈ ys, y.length = de.sz) (hpos : 0 < ys.length) (hsmall : (len + ys.length) * (de.bytes + 1) ≤ 140737488355328) (hnb : n ≠ b) (hn : n ≠ b2) :
    OpSem P o env H ⟨none, .row n 0 (len + ys.length) none de.sz, [(b, .dead), (n, .row de.sz (es ++ ys))], [b, b2]⟩ := by
  have hm1 : sx ∈ o.op.operands.toList := by rw [ho]; simp [Op.operands, Call.operands, hb, hxs]
  have hm2 : xx ∈ o.op.operands.toList := by rw [ho]; simp [Op.operands, Call.operands, hb, hxs]
  have run : ∀ (a : Act) {w w' : World} {v : Value}, (Builtin.append_ #[ts, tx] o.type #[a.eval sx, a.eval xx]).run P w = .ok v w' → (execOp a.eval o).run P w = .ok (.value v) w' := fun a w w' v hr =>
    exec_builtin ho hb a (s := Builtin.append_ #[ts, tx] o.type #[a.eval sx, a.eval xx]) (fun consts => by rw [hts, hxs]; simp only [List.map_toArray, List.map_cons, List.map_nil]; rfl) hr
  obtain ⟨i0, z0, u, hi0, hs0, _, _, hu, hko, _⟩ := hT.ok ts d hd
  rw [hk] at hko
  cases u <;> simp only [kindOK] at hko
  subst hko
  obtain ⟨ie, ze, ue, hie, hse, hby, hze, hue, hke, hagge, hzl, hzs, hzc, hza, hzn⟩ := hT.ok e de hde
  intro C a H2 henv hH hlog hwr hpre
  have hb2 : H2.at b = .row de.sz es := by rw [hlog b (by simp), hat]
  have hrx := ev_rel henv s2 xx hm2
  rw [hx2] at hrx
  obtain ⟨news, hns, hnr⟩ := src_row hT hH hse hrx hdx hdk (by rw [hlog b2 (by simp), hat2])
  have hrow := ev_rel henv s1 sx hm1
  rw [hs] at hrow
  obtain ⟨cb, base, ccap, hφ, e1, hlc, hcap, hcbl, e9, m9, hsh, hsp⟩ := hrow.row_inv'
  simp only [Nat.zero_mul, Nat.add_zero] at e1 hsp
  obtain ⟨cb', base', g, k1, k2, k3, k4, k5, k6, k7, k8⟩ := hH.row b de.sz es hb2
  rw [hφ] at k1; cases k1
  obtain ⟨hdead, hfresh⟩ : H2.at n = .dead ∧ Fresh C n := (hwr (n, .row de.sz (es ++ ys)) (by simp)).resolve_left (by simp [hnb, hn])
  have hnl : news.length = ys.length * de.sz := by rw [hns.newsLen, hse]
  have hlen : (es ++ ys).length = len + ys.length := by rw [List.length_append, hel]
  have hxl : ∀ x ∈ es ++ ys, x.length = de.sz := fun x hx => (List.mem_append.1 hx).elim (k4 x) (hyl x)
  have hownb : Owns C H2 b cb := .row b de.sz es cb base hb2 hφ
  have hb48 : (len + ys.length) * de.bytes ≤ 140737488355328 := Nat.le_trans (Nat.mul_le_mul_left _ (by omega)) hsmall
  have h63 : len + ys.length ≤ 140737488355328 := by
    have : (len + ys.length) * 1 ≤ (len + ys.length) * (de.bytes + 1) := Nat.mul_le_mul_left _ (by omega)
    omega
  have hold : ∀ {i j}, i < es.length → j < de.sz → i * de.sz + j < len * de.sz := fun {i j} hi hj => by rw [← hel]; exact idx_lt hi hj
  by_cases hroom : len + ys.length ≤ ccap
  · -- there is room
    have hcell : ∀ j, j < news.length → (C.w.cell? ⟨cb, base + len * de.sz + j, none⟩).isSome = true := fun j hj => cell_of_shape hsh (by
      have h1 : (len + ys.length) * de.sz ≤ ccap * de.sz := Nat.mul_le_mul_right _ hroom
      rw [Nat.add_mul] at h1; omega)
    have hrun := run_append_room_src (P := P) C.w ts tx o.type e ie hu hie cb base len ccap (a.eval xx) ys.length news hns hroom (fun j hj => by rw [hse]; exact hcell j hj) (fun j hj => k6 _)
    rw [hse] at hrun
    let C' : Ctx := { C with φ := fun q => if q = n then some (cb, base, de.sz) else C.φ q, w := C.w.setCells cb (base + len * de.sz) news }
    have hagree : Agree C.K C.w (C.w.setCells cb (base + len * de.sz) news) := Agree.of_block (kind_setCells cb news _ _) fun q hq => heap_setCells_ne cb news _ _ q (fun e => by subst e; exact hq k3)
    have hst : StepExt C C' := ⟨fun q x hx => by
      show (if q = n then _ else C.φ q) = some x
      rw [if_neg (fun e => by subst e; rw [hfresh.1] at hx; cases hx)]; exact hx, fun _ _ _ h => h, fun _ => Nat.le_refl _, hagree⟩
    have hφn : C'.φ n = some (cb, base, de.sz) := by simp [C']
    have hsize : (C.w.setCells cb (base + len * de.sz) news).heap.size = C.w.heap.size := size_setCells _ _ _ _
    have hne : ∀ q c, Owns C (H2.put b .dead) q c → c ≠ cb := fun q c ho e => by
      obtain ⟨h1, h2⟩ := ho.kill1
      exact h1 (hH.own _ _ _ h2 (e ▸ hownb))
    have hblk : BlkOK C' n (.row de.sz (es ++ ys)) := by
      refine ⟨cb, base, fun i j => if i < es.length then g i j else news.getD ((i - es.length) * de.sz + j) undef, hφn, by show _ < (C.w.setCells _ _ _).heap.size; rw [hsize]; exact k2, k3, hxl, fun i j hi hj => ?_, fun j => ?_, fun i j hi hj => ?_, fun i j hi hj => ?_⟩
      · show (C.w.setCells cb (base + len * de.sz) news).cell? _ = _
        dsimp only
        split
        · rename_i hi'
          rw [World.cell?_setCells_out cb news _ _ _ (fun _ _ => .inl (by have := hold hi' hj; show base + (i * de.sz + j) < base + len * de.sz; omega))]
          exact k5 i j hi' hj
        · rename_i hi'
          have h1 : (i - es.length) * de.sz + j < news.length := by rw [hnl]; exact idx_lt (by omega) hj
          have := World.cell?_setCells_in cb news (base + len * de.sz) C.w hcell ((i - es.length) * de.sz + j) h1
          rw [show base + len * de.sz + ((i - es.length) * de.sz + j) = base + (i * de.sz + j) by
            rw [Nat.sub_mul, hel]
            have : len * de.sz ≤ i * de.sz := Nat.mul_le_mul_right _ (by omega)
            omega] at this
          rw [this, List.getD_eq_getElem?_getD, List.getElem?_eq_getElem h1]; rfl
      · show (C.w.setCells cb (base + len * de.sz) news).frozen? _ = _
        rw [World.frozen?_setCells]; exact k6 _
      · dsimp only
        split
        · rename_i hi'; exact k7 i j hi' hj
        · rename_i hi'
          have h1 : (i - es.length) * de.sz + j < news.length := by rw [hnl]; exact idx_lt (by omega) hj
          exact hns.one _ (by rw [List.getD_eq_getElem?_getD, List.getElem?_eq_getElem h1]; exact List.getElem_mem h1)
      · dsimp only
        split
        · rename_i hi'
          rw [getDL_app_left hi']
          exact (k8 i j hi' hj).mono hst
        · rename_i hi'
          rw [getDL_app_right (by omega)]
          exact (hnr (i - es.length) j (by omega) hj).mono hst
    have hown : ∀ q, Owns C' ((H2.put b .dead).put n (.row de.sz (es ++ ys))) n q → q = cb := fun q ho => by
      cases ho with
      | row sz' es' _ base' hb' hφ' => rw [hφn] at hφ'; cases hφ'; rfl
      | tok e' _ eo ce hb' hτ => rw [Heap.at_put_same] at hb'; cases hb'
      | map es _ hb' hφ' => rw [Heap.at_put_same] at hb'; cases hb'
    have hk1 := hH.kill1 b
    refine ⟨.slice (some ⟨cb, base, none⟩) (len + ys.length) ccap, C', .inl (run a ?_), ?_, ?_, hst, ⟨(os_setCells cb news _ _).1, (os_setCells cb news _ _).2, by show _ ≤ (C.w.setCells _ _ _).heap.size; rw [hsize]; exact Nat.le_refl _, fun c hc hno => ⟨heap_setCells_ne cb news _ _ c (fun e => hno b (e ▸ hownb)), rfl⟩, fun q c ho hc => ?_⟩, fun q hq => ⟨?_, rfl⟩⟩
    · rw [e1]; exact hrun
    · have := VRel.row (C := C') n 0 (len + ys.length) de.sz cb base ccap none hφn hroom (fun c hc => by cases hc) ⟨by show _ < (C.w.setCells _ _ _).heap.size; rw [hsize]; exact hcbl, e9, m9, (shape?_setCells ..).trans hsh, by simpa using hsp⟩
      simpa using this
    · exact hk1.change hst n _ (fun q c hq ho => ⟨heap_setCells_ne cb news _ _ c (hne q c ho), rfl⟩) (by show _ ≤ (C.w.setCells _ _ _).heap.size; rw [hsize]; exact Nat.le_refl _) (fun q hq => by show _ < (C.w.setCells _ _ _).heap.size; rw [hsize]; exact hH.dom q hq) (fun _ _ => rfl) hblk (fun q ho q' hq' ho' => hne q' q ho' (hown q ho))
    · by_cases hq : q = n
      · subst hq; exact ⟨b, hown c ho ▸ hownb⟩
      · exact ⟨q, ((ho.put_ne hq).back hk1 hst).kill1.2⟩
    · show (if q = n then _ else C.φ q) = _
      rw [if_neg fun e => hq (n, .row de.sz (es ++ ys)) (by simp) e.symm]
  · -- it grows
    let olds := flatOf es.length de.sz g
    have hol : olds.length = len * de.sz := by rw [← hel]; exact flatOf_length ..
    have hfirst : (Builtin.firstCells ie.size len (.slice (some ⟨cb, base, none⟩) len ccap)).run P C.w.drew = .ok olds.toArray C.w.drew := by
      refine run_firstCells_some _ _ _ _ _ _ olds (by rw [hol, hse]) fun j u hu => ?_
      have hj : j < es.length * de.sz := by rw [hel, ← hol]; exact (List.getElem?_eq_some_iff.1 hu).1
      rw [flatOf_get g hj] at hu
      cases hu
      obtain ⟨q1, q2, q3⟩ := idx_split hj
      have := k5 _ _ q1 q2
      rw [q3] at this
      rw [Addr.add_mid]
      exact this
    have hrun := run_append_grow_src (P := P) C.w ts tx o.type e ie ze hu hie hze (some ⟨cb, base, none⟩) len ccap olds hfirst (a.eval xx) ys.length news hns (by omega) (by omega) (growslice_fits (by omega) (by rw [hby]; exact hb48))
    generalize hgc : grownCap C.w (len + ys.length) ccap e = gc at hrun
    have hgcle : len + ys.length ≤ gc := by rw [← hgc]; exact grown_le _ _ _ _
    have hcsz : ((olds ++ news).toArray ++ Builtin.zeroCells ze.cells (gc - (len + ys.length))).size = gc * de.sz := by
      simp only [Array.size_append, List.size_toArray, List.length_append, size_zeroCells, hol, hnl, hzs]
      rw [← Nat.add_mul, ← Nat.add_mul]; congr 1; omega
    have hcget : ∀ k, k < (len + ys.length) * de.sz → ((olds ++ news).toArray ++ Builtin.zeroCells ze.cells (gc - (len + ys.length))).getD k undef = (olds ++ news).getD k undef := fun k hk => by
      have hk' : k < (olds ++ news).length := by rw [List.length_append, hol, hnl, ← Nat.add_mul]; exact hk
      rw [Array.getD_eq_getD_getElem?, Array.getElem?_append_left (by simpa using hk'), List.getD_eq_getElem?_getD]
      simp
    have hold' : ∀ {i j}, i < es.length → j < de.sz → (olds ++ news).getD (i * de.sz + j) undef = g i j := fun {i j} hi hj => by
      rw [getD_app_left (by rw [hol]; exact hold hi hj)]
      exact flatOf_getD g hi hj
    have hnew' : ∀ {i j}, es.length ≤ i → i < (es ++ ys).length → j < de.sz → (olds ++ news).getD (i * de.sz + j) undef = news.getD ((i - es.length) * de.sz + j) undef := fun {i j} hi hi2 hj => by
      have h1 : len * de.sz ≤ i * de.sz := Nat.mul_le_mul_right _ (by omega)
      rw [getD_app_right (by omega), hol, Nat.sub_mul, hel]
      congr 1; omega
    have ha := Allocs.drew C.w (.cells ((olds ++ news).toArray ++ Builtin.zeroCells ze.cells (gc - (len + ys.length))) e)
    have hk1 := hH.kill1 b
    have hdead' : (H2.put b .dead).at n = .dead := by rw [Heap.at_put_ne H2 b n _ hnb]; exact hdead
    obtain ⟨r1, r2, r3, r4⟩ := newRow_ok hk1 hdead' hfresh ha (Nat.le_refl _) (es ++ ys) hxl (by rw [hcsz, hlen]; exact Nat.mul_le_mul_right _ hgcle) (fun k hk => by
        rw [hlen] at hk
        rw [hcget k hk]
        obtain ⟨q1, q2, q3⟩ := idx_split hk
        rw [← q3]
        rcases Nat.lt_or_ge (k / de.sz) es.length with h | h
        · rw [hold' h q2]; exact k7 _ _ h q2
        · rw [hnew' h (by rw [hlen]; exact q1) q2]
          have h1 : (k / de.sz - es.length) * de.sz + k % de.sz < news.length := by rw [hnl]; exact idx_lt (by omega) q2
          exact hns.one _ (by rw [List.getD_eq_getElem?_getD, List.getElem?_eq_getElem h1]; exact List.getElem_mem h1)) (fun i j hi hj => by
        rw [hcget _ (by rw [← hlen]; exact idx_lt hi hj)]
        rcases Nat.lt_or_ge i es.length with h | h
        · rw [hold' h hj, getDL_app_left h]; exact k8 i j h hj
        · rw [hnew' h hi hj, getDL_app_right h]
          rw [List.length_append] at hi
          exact hnr _ j (by omega) hj)
    refine ⟨.slice (some ⟨C.w.heap.size, 0, none⟩) (len + ys.length) gc, C.newRow n de.sz _, .inl (run a ?_), ?_, r1, r2, ⟨r3.os, r3.output, r3.size, fun c hc hno => r3.kept c hc fun q hq => hno q hq.kill1.2, fun q c ho hc => ?_⟩, fun q hq => r4 q (hq (n, .row de.sz (es ++ ys)) (by simp))⟩
    · rw [e1]; exact hrun
    · have := VRel.row (C := C.newRow n de.sz (C.w.drew.alloc (.cells ((olds ++ news).toArray ++ Builtin.zeroCells ze.cells (gc - (len + ys.length))) e))) n 0 (len + ys.length) de.sz C.w.heap.size 0 gc none (by simp [Ctx.newRow]) hgcle (fun c hc => by cases hc) ⟨by show _ < (C.w.drew.alloc _).heap.size; rw [heap_alloc_size]; show _ < C.w.heap.size + 1; omega, _, _, ha.shape, by rw [hcsz]; simp⟩
      simpa using this
    · obtain ⟨q', hq'⟩ := r3.owned q c ho hc
      exact ⟨q', hq'.kill1.2⟩
theorem sem_buildSliceR (hT : TyOK P T) {o : Oper} {t e : TypeId} {len : Nat} {parts : Array (Nat × Operand)} {d de : TyD} {env : Env} {H : Heap} {es : List (List AV)} (n : Nat) (f : Operand → AV) (hf : ∀ (C : Ctx) (a : Act), EnvOK C env a o.op.operands.toList → ∀ x ∈ o.op.operands.toList, VRel C (f x) (a.eval x)) (ho : o.op = .buildSlice t len parts) (hd : T t = some d)
    (hk : d.kind = .slice e) (hde : T e = some de) (he : aelems de.sz len (List.replicate len de.zero) (parts.toList.map fun p => (p.1, f p.2)) = some es) (hes : ∀ x ∈ es, x.length = de.sz) (hlen : es.length = len) (hb : len * de.sz ≤ 16777216) :
    OpSem P o env H ⟨none, .row n 0 len (some len) de.sz, [(n, .row de.sz es)], []⟩ := by
  have hex : ∀ a : Act, execOp a.eval o = (do pure (.value (← Instr.buildSlice t len (parts.map fun (i, x) => (i, a.eval x))))) := fun a => by unfold execOp; rw [ho]
  obtain ⟨ti, z, u, hti, hts', htb, htz, hu, hkk, hrest⟩ := hT.ok t d hd
  obtain ⟨te, ze, ue, hie, hse, _⟩ := hT.ok e de hde
  rw [hk] at hkk
  cases u <;> simp only [kindOK] at hkk
  subst hkk
  refine newRow_op hes fun C a H2 henv hH _ => ?_
  obtain ⟨zv, hzr, hzs, hzrel⟩ := zeros_rel hT hde len C
  obtain ⟨c, hc, hr, hn⟩ := elems_fill (C := C) (parts.toList.map fun p => (p.1, f p.2)) (parts.toList.map fun p => (p.1, a.eval p.2)) _ es _ he (by simp) (hzrel _ rfl) (by simp) (fun k hk => by
    have hk' : k < parts.size := by simpa using hk
    have hmem : parts[k].2 ∈ o.op.operands.toList := by
      rw [ho]
      show parts[k].2 ∈ parts.toList.map (·.2)
      exact List.mem_map.2 ⟨parts[k], by simp, rfl⟩
    have := hf C a henv parts[k].2 hmem
    simpa [List.getD_eq_getElem?_getD, hk'] using this)
  have hrun : (Instr.buildSlice t len (parts.map fun (i, x) => (i, a.eval x))).run P C.w = .ok (.slice (some ⟨C.w.heap.size, 0, none⟩) len len) (C.w.alloc (.cells c e)) := by
    have hparts : (parts.map fun (p : Nat × Operand) => (p.1, a.eval p.2)).toList = parts.toList.map fun p => (p.1, a.eval p.2) := by simp
    simp only [Instr.buildSlice, Sem.run_bind, run_underlying hu, Result.andThen_ok, run_sizeOf_of hie, hse]
    rw [if_neg (by omega)]
    by_cases h0 : len * de.sz = 0
    · rw [if_pos h0]
      have harr : ((Array.range (len * de.sz)).map ((#[] : Array Value)[· % (#[] : Array Value).size]!)) = (Array.range (len * de.sz)).map (zv.cells[· % zv.cells.size]!) := by
        rw [h0]; simp
      simp only [Sem.run_bind, Sem.run_pure, Result.andThen_ok, harr, hparts, hc]
      rfl
    · rw [if_neg h0]
      simp only [Sem.run_bind, Sem.run_pure, Result.andThen_ok, hzr, hparts, hc]
      rfl
  refine ⟨.slice (some ⟨C.w.heap.size, 0, none⟩) len len, C.w.alloc (.cells c e), c, e, .inl ?_, .alloc _ _, by rw [hr.size]; exact Nat.le_refl _, hr.one, hr.rel, ?_⟩
  · rw [hex, Sem.run_bind, hrun]; rfl
  · have := VRel.row (C := C.newRow n de.sz (C.w.alloc (.cells c e))) n 0 len de.sz C.w.heap.size 0 len (some len) (by simp [Ctx.newRow]) (Nat.le_refl _) (fun c hc => by cases hc; rfl) ⟨by show _ < (C.w.alloc _).heap.size; rw [heap_alloc_size]; omega, _, _, (Allocs.alloc C.w (.cells c e)).shape, by rw [hr.size, hlen]; simp⟩
    simpa using this
end Go.Av
/- The beginning of a row whose room is not known. -/
set_option linter.unusedVariables false
namespace Go.Av
open Go
variable {P : Program} {T : Tys}
theorem sem_cutHi (hT : TyOK P T) {o : Oper} {t : TypeId} {x y : Operand} {env : Env} {H : Heap} {d de : TyD} {e b off len sz h : Nat} {cap : Option Nat} {k : IntKind} (ho : o.op = .slice t x none (some y) none) (hd : T t = some d) (hk : d.kind = .slice e) (hde : T e = some de)
    (hx : env.ev 0 x = .row b off len cap sz) (hsz : sz = de.sz) (hy : env.ev 0 y = .int k h) (h2 : h ≤ len) :
    OpSem P o env H ⟨none, .row b off h none sz, [], []⟩ := by
  obtain ⟨i, z, u, hi0, hs, _, _, hu, hko, _⟩ := hT.ok t d hd
  rw [hk] at hko
  cases u <;> simp only [kindOK] at hko
  subst hko
  obtain ⟨ie, _, _, hie, hse, _⟩ := hT.ok e de hde
  refine OpSem.pure (r := ⟨none, .row b off h none sz, [], []⟩) rfl fun C a H2 henv hH hlog hp => ?_
  have hrow := ev_rel henv 0 x (by rw [ho]; simp [Op.operands])
  rw [hx] at hrow
  obtain ⟨cb, base, ccap, hφ, ev, hlc, hcap, hcbl, e9, m9, hsh, hsp⟩ := hrow.row_inv'
  have ey := ev_rel henv 0 y (by rw [ho]; simp [Op.operands])
  rw [hy] at ey
  have ey := ey.int_inv
  have hb3 := run_bounds3 (P := P) (len := len) (cap := ccap) (lo := none) (hi := some (a.eval y)) (mx := none) (l := 0) (h := h) (m := ccap) (.inl ⟨rfl, rfl⟩) (.inr ⟨k, by rw [ey]⟩) (.inl ⟨rfl, rfl⟩) (by omega) (by omega) (by omega) (by omega) C.w
  have hrun : (execOp a.eval o).run P C.w = .ok (.value (.slice (if ccap = 0 then (some ⟨cb, base + off * sz, none⟩ : Option Addr) else some ⟨cb, base + off * sz, none⟩) h ccap)) C.w := by
    unfold execOp; rw [ho]
    show (do let v ← Instr.sliceAt t (a.eval x) none (some (a.eval y)) none; pure (Next.value v) : Sem Next).run P C.w = _
    rw [ev]
    simp only [Instr.sliceAt, Instr.slice, Sem.run_bind, run_underlying hu, Result.andThen_ok, hb3, run_sizeOf_of hie, Sem.run_pure, Int.toNat_natCast, hse, Option.map_some, Addr.add_mid, Int.toNat_zero, Nat.sub_zero, Nat.zero_mul, Nat.add_zero]
  refine ⟨_, hrun, ?_⟩
  simp only [ite_self]
  exact .row b _ _ sz cb base _ _ hφ (by omega) (fun c' hc' => by cases hc') ⟨hcbl, e9, m9, hsh, hsp⟩
section forms
variable {n : Nat} {ops : Array Oper} {Q : Env → Heap → Prop} {os : List Oper} {env : Env} {H : Heap} {d : Tmp} {op : Op} {ty : TypeId} {pos : String} {after : Array Edge} {guard : Option (Nat × Bool)} {R : AV → Heap → Prop}
theorem ar_rel (h : OpRel P ⟨some d, op, ty, pos, after, guard⟩ env H R) (hd : Nat.blt d n = true) (hg : aguard ops ⟨some d, op, ty, pos, after, guard⟩ env = some true) (hk : ∀ v H', R v H' → ASeq P n ops Q os ((d, v) :: env) H') :
    ASeq P n ops Q (⟨some d, op, ty, pos, after, guard⟩ :: os) env H := .inr ⟨by simp [dstOK, hd], hg, R, h, hk⟩
theorem ar_rel0 (h : OpRel P ⟨none, op, ty, pos, after, guard⟩ env H R) (hg : aguard ops ⟨none, op, ty, pos, after, guard⟩ env = some true) (hk : ∀ v H', R v H' → ASeq P n ops Q os env H') :
    ASeq P n ops Q (⟨none, op, ty, pos, after, guard⟩ :: os) env H := .inr ⟨by simp [dstOK], hg, R, h, hk⟩
end forms
end Go.Av
/- A store of nothing. -/
set_option linter.unusedVariables false
namespace Go.Av
open Go
variable {P : Program} {T : Tys}
theorem sem_store0 (hT : TyOK P T) {o : Oper} {t : TypeId} {p x : Operand} {d : TyD} {env : Env} {H : Heap} {b i j : Nat} (ho : o.op = .store t p x) (hd : T t = some d) (h0 : d.sz = 0) (hp : env.ev 0 p = .ptr b i j) (hx : env.ev 0 x = .agg []) :
    OpSem P o env H ⟨none, .junk, [], []⟩ := by
  have hmp : p ∈ o.op.operands.toList := by rw [ho]; simp [Op.operands]
  have hmx : x ∈ o.op.operands.toList := by rw [ho]; simp [Op.operands]
  obtain ⟨ti, z, u, hti, hts', htb, htz, hu, hk, hrest⟩ := hT.ok t d hd
  intro C a H2 henv hH hlog hwr hpre
  obtain ⟨cb, base, sz', hφ, ep⟩ := (hp ▸ ev_rel henv 0 p hmp).ptr_inv
  have hrx := ev_rel henv 0 x hmx
  rw [hx] at hrx
  have hv : a.eval x = .agg #[] := by
    have hf := hrx.frz (a' := .agg []) rfl
    generalize a.eval x = v at hf
    cases hf with
    | agg _ vs hl _ =>
      have : vs = #[] := Array.eq_empty_of_size_eq_zero (by simpa using hl.symm)
      rw [this]
  have hst : (storeVar t ⟨cb, base + (i * sz' + j), none⟩ (a.eval x)).run P C.w = .ok () C.w := by
    have hsc := run_storeCells_cells (P := P) cb (base + (i * sz' + j)) [] 0 C.w (fun q hq => by simp at hq) (fun q hq => by simp at hq) (fun v hv => by cases hv)
    simp only [Nat.add_zero] at hsc
    simp only [storeVar, Sem.run_bind, run_sizeOf_of hti, Result.andThen_ok]
    rw [if_neg (by rw [hv]; simp [Value.cells, hts', h0]), hv]
    exact hsc
  refine ⟨undef, C, .inr ⟨?_, rfl⟩, .fro _ _ (.junk _), hH, StepExt.refl C, Frame'.refl C H2, fun _ _ => ⟨rfl, rfl⟩⟩
  unfold execOp; rw [ho]
  simp only [ep, Instr.storeAt, Instr.sureAddr, Sem.run_bind, Sem.run_pure, Result.andThen_ok, hst]
end Go.Av
/- In the middle of a function: memory of the call's own is written no more. -/
set_option linter.unusedVariables false
namespace Go.Av
open Go
variable {P : Program} {n : Nat} {Q : AExit → Env → Heap → Prop} {env : Env} {H : Heap}

theorem aw_freeze {c : Code} (S : List Nat) {env' : Env} {H' : Heap} (henv : ∀ t, env'.get t = env.get t ∨ env'.get t = .junk ∨ Bor H S (env.get t) (env'.get t)) (hlen : H'.length = H.length)
    (hH : ∀ b, H'.at b = .dead ∨ (b ∉ S ∧ (H'.at b = H.at b ∨ ∃ sz es es', H.at b = .row sz es ∧ H'.at b = .row sz es' ∧ es'.length = es.length ∧ (∀ x ∈ es', x.length = sz) ∧ ∀ i j, i < es.length → j < sz → ((es'.getD i []).getD j .junk = (es.getD i []).getD j .junk ∨ Bor H S ((es.getD i []).getD j .junk) ((es'.getD i []).getD j .junk)))))
    (h : AW P n c Q env' H') : AW P n c Q env H := fun C a hi => by
  have hHr := hi.hrel
  have hle : ∀ b, C.K b ≤ KupS C H S b := KupS_ge hHr
  have hs : StepExt C (C.grow (KupS C H S) C.w) := ⟨fun _ _ h => h, fun _ _ _ h => h, hle, Agree.refl _ _⟩
  have howns : ∀ b cb, Owns (C.grow (KupS C H S) C.w) H' b cb → Owns C H b cb ∧ b ∉ S := fun b cb ho => by
    have hb := hH b
    cases ho with
    | row sz es _ base h1 hφ =>
      rcases hb with h2 | ⟨h2, h3 | ⟨sz', es', es'', h3, h4, _⟩⟩
      · rw [h2] at h1; cases h1
      · exact ⟨.row _ sz es _ base (h3 ▸ h1) hφ, h2⟩
      · rw [h4] at h1; cases h1; exact ⟨.row _ sz es' _ base h3 hφ, h2⟩
    | tok e _ eo ce h1 hτ =>
      rcases hb with h2 | ⟨h2, h3 | ⟨sz', es', es'', h3, h4, _⟩⟩
      · rw [h2] at h1; cases h1
      · exact ⟨.tok _ e _ eo ce (h3 ▸ h1) hτ, h2⟩
      · rw [h4] at h1; cases h1
    | map es _ h1 hφ =>
      rcases hb with h2 | ⟨h2, h3 | ⟨sz', es', es'', h3, h4, _⟩⟩
      · rw [h2] at h1; cases h1
      · exact ⟨.map _ es _ (h3 ▸ h1) hφ, h2⟩
      · rw [h4] at h1; cases h1
  have hother : ∀ b cb, Owns C H b cb → b ∉ S → KupS C H S cb = C.K cb := fun b cb ho hb =>
    KupS_other fun b' sz es base h3 h4 h9 => hb (hHr.own b' b cb (.row _ _ _ _ _ h4 h9) ho ▸ h3)
  have hrel : HRel (C.grow (KupS C H S) C.w) H' := by
    refine ⟨fun b => ?_, fun b b' cb k1 k2 => hHr.own b b' cb (howns b cb k1).1 (howns b' cb k2).1, fun b hb => KupS_dom hHr b hb⟩
    have h9 := hHr.blk b
    rcases hH b with h2 | ⟨h2, h3 | ⟨sz, es, es', h3, h4, h5, h6, h7⟩⟩
    · rw [h2]; trivial
    · rw [h3]
      cases hb : H.at b with
      | dead => trivial
      | row sz es =>
        rw [hb] at h9
        obtain ⟨cb, base, g, k1, k2, k3, k4, k5, k6, k7, k8⟩ := h9
        exact ⟨cb, base, g, k1, k2, (hother b cb (.row _ _ _ _ _ hb k1) h2).trans k3, k4, k5, k6, k7, fun i j hi hj => (k8 i j hi hj).mono hs⟩
      | tok e =>
        rw [hb] at h9
        obtain ⟨k1, k2⟩ := h9
        refine ⟨k1, k2.imp id ?_⟩
        rintro ⟨cb, eo, ce, k3, k4, k5, k6⟩
        exact ⟨cb, eo, ce, k3, k4, (hother b cb (.tok _ e _ _ _ hb k3) h2).trans k5, k6⟩
      | mapb es =>
        rw [hb] at h9
        obtain ⟨r, entries, clock, k1, k2, k3, k4, k5, k6⟩ := h9
        exact ⟨r, entries, clock, k1, k2, (hother b r (.map _ es _ hb k1) h2).trans k3, k4, fun i hi => (k5 i hi).mono hle (Agree.refl _ _), fun i hi => (k6 i hi).mono hle (Agree.refl _ _)⟩
    · rw [h4]
      rw [h3] at h9
      obtain ⟨cb, base, g, k1, k2, k3, k4, k5, k6, k7, k8⟩ := h9
      refine ⟨cb, base, g, k1, k2, (hother b cb (.row _ _ _ _ _ h3 k1) h2).trans k3, h6, fun i j hi hj => k5 i j (by omega) hj, k6, fun i j hi hj => k7 i j (by omega) hj, fun i j hi hj => ?_⟩
      rcases h7 i j (by omega) hj with e | hb
      · rw [e]; exact (k8 i j (by omega) hj).mono hs
      · exact .fro _ _ (hb C _ hHr (k8 i j (by omega) hj))
  have hi' : AInv n (C.grow (KupS C H S) C.w) env' H' a := ⟨hi.size, hi.defers, fun t => by
    rcases henv t with e | e | hb
    · rw [e]; exact (hi.envs t).mono hs
    · rw [e]; exact .fro _ _ (.junk _)
    · exact .fro _ _ (hb C _ hHr (hi.envs t)), hrel, fun b hb => hi.dom b (by omega)⟩
  refine wp_mono (h (C.grow (KupS C H S) C.w) a hi') fun e a' w' hp => ?_
  exact hp.trans hs ⟨rfl, rfl, Nat.le_refl _, fun cb hcb hn => ⟨rfl, KupS_other fun b sz es base h3 h4 h9 => hn b (.row _ _ _ _ _ h4 h9)⟩, fun b cb ho _ => ⟨b, (howns b cb ho).1⟩⟩
end Go.Av
/- Functions of frozen data whose result is a row in new memory: it is taken over as a row of the caller's own. -/
set_option linter.unusedVariables false
namespace Go.Av
open Go
variable {P : Program} {T : Tys}

def mkR (a : AV) : Option AV → AV
  | none => a
  | some x => .tup [a, x]
def NCall (P : Program) (g : FuncId) (args : List AV) (sz : Nat) (R : Option AV → List (List AV) → Prop) : Prop :=
  ∀ (K : Nat → Nat) (w : World) (vs : Array Value), (∀ b, K b ≠ 0 → b < w.heap.size) → vs.size = args.length → (∀ i, i < args.length → FRel K w (args.getD i .junk) (vs.getD i undef)) →
    Calls P g vs w fun e w' => ∃ (v : Value) (x : Option AV) (xs : List (List AV)) (K' : Nat → Nat) (cb base ccap : Nat) (f : Nat → Nat → Value), e = .returned v ∧ R x xs ∧ Grown K w K' w' ∧
      ((x = none ∧ v = .slice (some ⟨cb, base, none⟩) xs.length ccap) ∨ ∃ y vy, x = some y ∧ v = .tuple #[.slice (some ⟨cb, base, none⟩) xs.length ccap, vy] ∧ FRel K' w' y vy) ∧
      (w.heap.size ≤ cb ∧ cb < w'.heap.size ∧ K' cb = 0) ∧ xs.length ≤ ccap ∧ (∃ e m, w'.shape? cb = some (e, m) ∧ base + ccap * sz ≤ m) ∧ (∀ x ∈ xs, x.length = sz) ∧
      (∀ i j, i < xs.length → j < sz → w'.cell? ⟨cb, base + (i * sz + j), none⟩ = some (f i j)) ∧ (∀ j, w'.frozen? ⟨cb, j, none⟩ = false) ∧ (∀ i j, i < xs.length → j < sz → (f i j).oneCell' = true) ∧ ∀ i j, i < xs.length → j < sz → FRel K' w' ((xs.getD i []).getD j .junk) (f i j)

theorem ncall_of_fcall {g : FuncId} {args : List AV} {sz : Nat} {R : Option AV → List (List AV) → Prop} (h : FCall P g args [] fun r' H' => ∃ (b : Nat) (cap : Option Nat) (es xs : List (List AV)) (x : Option AV) (S : List Nat), r' = mkR (.row b 0 xs.length cap sz) x ∧ (∀ y, x = some y → frz y = some y) ∧
      H'.at b = .row sz es ∧ es.length = xs.length ∧ b ∉ S ∧ (∀ x ∈ xs, x.length = sz) ∧ (∀ i j, i < xs.length → j < sz → Bor H' S ((es.getD i []).getD j .junk) ((xs.getD i []).getD j .junk)) ∧ R x xs) : NCall P g args sz R := by
  intro K w vs hdom hsz hvs
  refine Calls.mono (h (.none K w) vs (.nil K w hdom) (fun b _ => ⟨rfl, fun _ => rfl⟩) hsz (fun i hi => .fro _ _ (hvs i hi))) ?_
  rintro e w' ⟨v, r', C', H', h1, ⟨b, cap, es, xs, x, S, rfl, hx, hat, hel, hbS, hxl, hbor, hR⟩, h3, h4, h5, h6, h7, h8⟩
  subst h4
  have hge := KupS_ge (S := S) h5
  have hold : ∀ cb, cb < w.heap.size → ∀ b, ¬ Owns C' H' b cb := fun cb hcb b ho => by
    obtain ⟨b', hb'⟩ := h8.owned b cb ho hcb
    exact hb'.nil
  have hgrown : Grown K w (KupS C' H' S) C'.w := ⟨fun b => Nat.le_trans (h7.K b) (hge b), h7.agree, h8.os, h8.output, h8.size, fun cb hcb => by
    obtain ⟨k1, k2⟩ := h8.kept cb hcb fun b hb => hb.nil
    refine ⟨k1, ?_⟩
    rw [KupS_other fun b sz es base h9 h10 h11 => hold cb hcb b (.row _ _ _ _ _ h10 h11)]
    exact k2, fun b hb => KupS_dom h5 b hb⟩
  have key : ∀ vr, VRel C' (.row b 0 xs.length cap sz) vr → ∃ (cb base ccap : Nat) (f : Nat → Nat → Value), vr = .slice (some ⟨cb, base, none⟩) xs.length ccap ∧ (w.heap.size ≤ cb ∧ cb < C'.w.heap.size ∧ KupS C' H' S cb = 0) ∧ xs.length ≤ ccap ∧ (∃ e m, C'.w.shape? cb = some (e, m) ∧ base + ccap * sz ≤ m) ∧
      (∀ i j, i < xs.length → j < sz → C'.w.cell? ⟨cb, base + (i * sz + j), none⟩ = some (f i j)) ∧ (∀ j, C'.w.frozen? ⟨cb, j, none⟩ = false) ∧ (∀ i j, i < xs.length → j < sz → (f i j).oneCell' = true) ∧ ∀ i j, i < xs.length → j < sz → FRel (KupS C' H' S) C'.w ((xs.getD i []).getD j .junk) (f i j) := fun vr hr => by
    obtain ⟨cb, base, ccap, hφ, ev, hlc, hcap, hcbl, e9, m9, hsh, hsp⟩ := hr.row_inv'
    obtain ⟨cb', base', f, k1, k2, k3, k4, k5, k6, k7, k8⟩ := h5.row b sz es hat
    rw [hφ] at k1; cases k1
    have hown : Owns C' H' b cb := .row b sz es cb base hat hφ
    refine ⟨cb, base, ccap, f, by rw [ev, Nat.zero_mul, Nat.add_zero], ⟨?_, hcbl, ?_⟩, hlc, ⟨e9, m9, hsh, by simpa using hsp⟩, fun i j hi hj => k5 i j (by omega) hj, k6, fun i j hi hj => k7 i j (by omega) hj, fun i j hi hj => hbor i j hi hj C' _ h5 (k8 i j (by omega) hj)⟩
    · rcases Nat.lt_or_ge cb w.heap.size with h9 | h9
      · exact absurd hown (hold cb h9 b)
      · exact h9
    · rw [KupS_other fun b' sz' es' base' h9 h10 h11 => hbS (h5.own b' b cb (.row _ _ _ _ _ h10 h11) hown ▸ h9)]; exact k3
  cases x with
  | none =>
    obtain ⟨cb, base, ccap, f, rfl, q1, q2, q3, q4⟩ := key v h3
    exact ⟨_, none, xs, KupS C' H' S, cb, base, ccap, f, h1, hR, hgrown, .inl ⟨rfl, rfl⟩, q1, q2, q3, hxl, q4⟩
  | some y =>
    have h3' : VRel C' (.tup [.row b 0 xs.length cap sz, y]) v := h3
    generalize hzz : AV.tup [.row b 0 xs.length cap sz, y] = z at h3'
    cases h3' with
    | fro _ _ hf =>
      subst hzz
      cases hf with
      | tup _ us hl hh =>
        have := hh 0 (by simp)
        simp only [List.getD_cons_zero] at this
        cases this
    | tup cs us hl hh =>
      cases hzz
      obtain ⟨cb, base, ccap, f, e9, q1, q2, q3, q4⟩ := key _ (hh 0 (by simp))
      have hy := (hh 1 (by simp)).frz (a' := y) (hx y rfl)
      have hus : us = #[us.getD 0 undef, us.getD 1 undef] := agg_two (by simpa using hl)
      rw [e9] at hus
      exact ⟨_, some y, xs, KupS C' H' S, cb, base, ccap, f, h1, hR, hgrown, .inr ⟨y, us.getD 1 undef, rfl, congrArg _ hus, hy.mono hge (Agree.refl _ _)⟩, q1, q2, q3, hxl, q4⟩
    | _ => cases hzz

variable {n : Nat} {ops : Array Oper} {Q : Env → Heap → Prop} {o : Oper} {os : List Oper} {acc : List Itm} {env : Env} {H : Heap}
theorem open_ncall {c : Call} {g : FuncId} {fn : Func} {body : Code} {args : List AV} {sz : Nat} {R : Option AV → List (List AV) → Prop} (ho : o.op = .call c) (hc : c.callee = .value (.func g)) (hf : FnOK P g fn body)
    (ha : frzL (c.args.toList.map (env.ev 0)) = some args) (h : NCall P g args sz R) (H : Heap) : OpenEff P o env H [] fun e => ∃ x xs, R x xs ∧ e = ⟨mkR (.row H.length 0 xs.length none sz) x, [(H.length, .row sz xs)], []⟩ := by
  intro C a H2 henv hH hlog hnew next Q hk
  unfold Oper.wp
  rw [execOp_call ho hc hf]
  simp only [Oper.upon]
  have hops : ∀ x, x ∈ c.args.toList → x ∈ o.op.operands.toList := fun x hx => by
    rw [ho]; simp [Op.operands, Call.operands, hc] ; simp at hx; exact .inr hx
  have hl := frzL_length ha
  refine Calls.mono (h C.K C.w _ hH.dom (by simp [hl]) (frzL_rel ha fun i hi => ?_)) ?_
  · have hi' : i < c.args.size := by simpa using hi
    have h1 := ev_rel henv 0 (c.args[i]) (hops _ (by simp))
    have e1 : (c.args.toList.map (env.ev 0)).getD i .junk = env.ev 0 c.args[i] := by simp [List.getD_eq_getElem?_getD, hi']
    have e2 : (c.args.map a.eval).getD i undef = a.eval c.args[i] := by simp [Array.getD_eq_getD_getElem?, hi']
    rw [e1, e2]; exact h1
  · rintro e w' ⟨v, x, xs, K', cb, base, ccap, f, rfl, hR, hgr, hv, ⟨q1, q2, q3⟩, q4, ⟨e9, m9, hsh, hsp⟩, hxl, k5, k6, k7, k8⟩
    obtain ⟨hdead, hfresh⟩ := hnew H.length (Nat.le_refl _)
    have hs0 := StepExt.grow hgr
    let C' : Ctx := { C.grow K' w' with φ := fun q => if q = H.length then some (cb, base, sz) else C.φ q }
    have hst : StepExt C C' := ⟨fun q y hy => by
      show (if q = H.length then _ else C.φ q) = some y
      rw [if_neg (fun e => by subst e; rw [hfresh.1] at hy; cases hy)]; exact hy, fun _ _ _ h => h, hgr.le, hgr.agree⟩
    have hφn : C'.φ H.length = some (cb, base, sz) := by simp [C']
    have hrow : VRel C' (.row H.length 0 xs.length none sz) (.slice (some ⟨cb, base, none⟩) xs.length ccap) := by
      have := VRel.row (C := C') H.length 0 xs.length sz cb base ccap none hφn q4 (fun c hc => by cases hc) ⟨q2, e9, m9, hsh, by simpa using hsp⟩
      simpa using this
    have hvr : VRel C' (mkR (.row H.length 0 xs.length none sz) x) v := by
      rcases hv with ⟨rfl, rfl⟩ | ⟨y, vy, rfl, rfl, hy⟩
      · exact hrow
      · refine .tup _ _ rfl fun i hi => ?_
        match i, hi with
        | 0, _ => exact hrow
        | 1, _ => exact .fro _ _ hy
        | i + 2, hi => simp at hi; omega
    have hblk : BlkOK C' H.length (.row sz xs) := ⟨cb, base, f, hφn, q2, q3, hxl, k5, k6, k7, fun i j hi hj => .fro _ _ (k8 i j hi hj)⟩
    have holdc : ∀ q c, Owns C H2 q c → c < C.w.heap.size := fun q c ho => hH.owns_lt ho
    refine hk ⟨mkR (.row H.length 0 xs.length none sz) x, [(H.length, .row sz xs)], []⟩ v C' ⟨x, xs, hR, rfl⟩ hvr ?_ hst ?_ ?_
    · exact hH.change hst H.length _ (fun q c hq ho => hgr.kept c (holdc q c ho)) hgr.size hgr.dom (fun _ _ => rfl) hblk (fun c ho q hq ho' => by
        have h9 := holdc q c ho'
        cases ho with
        | row sz' es' _ base' hb' hφ' => rw [hφn] at hφ'; cases hφ'; omega
        | tok e' _ eo ce hb' hτ => rw [Heap.at_put_same] at hb'; cases hb'
        | map es _ hb' hφ' => rw [Heap.at_put_same] at hb'; cases hb')
    · refine ⟨hgr.os, hgr.output, hgr.size, fun c hc _ => hgr.kept c hc, fun q c ho hc => ?_⟩
      by_cases hq : q = H.length
      · subst hq
        have ho : Owns C' (H2.put H.length (.row sz xs)) H.length c := ho
        cases ho with
        | row sz' es' _ base' hb' hφ' => rw [hφn] at hφ'; cases hφ'; omega
        | tok e' _ eo ce hb' hτ => rw [Heap.at_put_same] at hb'; cases hb'
        | map es _ hb' hφ' => rw [Heap.at_put_same] at hb'; cases hb'
      · exact ⟨q, ((ho.put_ne hq).back hH hst)⟩
    · intro q hq hfr
      have hqn : q ≠ H.length := fun e => hq (H.length, .row sz xs) (by simp) e.symm
      refine ⟨?_, hfr.2⟩
      show (if q = H.length then _ else C.φ q) = none
      rw [if_neg hqn]; exact hfr.1
variable {c : Call} {d : Tmp} {ty : TypeId} {pos : String} {after : Array Edge} {guard : Option (Nat × Bool)} {g : FuncId} {fn : Func} {body : Code}
theorem ar_ncall {args : List AV} {sz : Nat} {R : Option AV → List (List AV) → Prop} (hc : c.callee = .value (.func g)) (hf : FnOK P g fn body) (ha : frzL (c.args.toList.map (env.ev 0)) = some args) (h : NCall P g args sz R) (hd : Nat.blt d n = true)
    (hg : aguard ops ⟨some d, .call c, ty, pos, after, guard⟩ env = some true) (hk : ∀ x xs, R x xs → ASeq P n ops Q os ((d, mkR (.row H.length 0 xs.length none sz) x) :: env) (H ++ [.row sz xs])) : ASeq P n ops Q (⟨some d, .call c, ty, pos, after, guard⟩ :: os) env H :=
  .inr ⟨by simp [dstOK, hd], hg, _, (open_ncall rfl hc hf ha h H).rel, fun v H' hh => by
    obtain ⟨e, ⟨x, xs, h1, h2⟩, h3, h4⟩ := hh
    subst h2; subst h4
    rw [h3]
    have := hk x xs h1
    rwa [show H.puts [(H.length, Blk.row sz xs)] = H ++ [.row sz xs] from Heap.put_len H _]⟩
theorem ard_ncall {args : List AV} {sz : Nat} {R : Option AV → List (List AV) → Prop} (hc : c.callee = .value (.func g)) (hf : FnOK P g fn body) (ha : frzL (c.args.toList.map (env.ev 0)) = some args) (h : NCall P g args sz R) (hd : Nat.blt d n = true)
    (hg : aguard ops ⟨some d, .call c, ty, pos, after, guard⟩ env = some true) (haft : aftOK ops acc.length = true)
    (hord : orderOK ops ((⟨⟨some d, .call c, ty, pos, after, guard⟩, ⟨.junk, [], []⟩⟩ :: acc : List Itm).reverse) = true)
    (hk : ∀ x xs, R x xs → AReg P n ops true Q os (⟨⟨some d, .call c, ty, pos, after, guard⟩, ⟨mkR (.row H.length 0 xs.length none sz) x, [(H.length, .row sz xs)], []⟩⟩ :: acc) ((d, mkR (.row H.length 0 xs.length none sz) x) :: env) (H ++ [.row sz xs])) : AReg P n ops true Q (⟨some d, .call c, ty, pos, after, guard⟩ :: os) acc env H :=
  .inr ⟨by simp [dstOK, hd], hg, haft, [], _, hord, open_ncall rfl hc hf ha h H, fun e hh => by
    obtain ⟨x, xs, h1, rfl⟩ := hh
    have := hk x xs h1
    rwa [← show H.puts [(H.length, Blk.row sz xs)] = H ++ [.row sz xs] from Heap.put_len H _] at this⟩
end Go.Av
/- Calls that write rows of the caller's and leave no new memory, where the outcome is known. -/
set_option linter.unusedVariables false
set_option linter.unusedSimpArgs false
namespace Go.Av
open Go
variable {P : Program} {o : Oper} {env : Env} {H : Heap}
theorem eff_fcallw {c : Call} {g : FuncId} {fn : Func} {body : Code} {log : List Nat} {r0 : AV} {ws0 : List (Nat × Blk)} (ho : o.op = .call c) (hc : c.callee = .value (.func g)) (hf : FnOK P g fn body)
    (hab : blwL H.length (c.args.toList.map (env.ev 0)) = true) (hlog : ∀ b ∈ log, b < H.length ∧ (H.at b).blw H.length = true) (hrow : ∀ b ∈ log, ∃ sz es, H.at b = .row sz es)
    (hr0 : r0.idin log H.length = true) (hw0 : ∀ p ∈ ws0, p.1 ∈ log ∧ Blk.idin log H.length p.2 = true)
    (h0 : ∀ H1 : Heap, H1.length = H.length → (∀ b ∈ log, H1.at b = H.at b) → FCall P g (c.args.toList.map (env.ev 0)) H1 fun r H' => r = r0 ∧ H' = H1.puts ws0) :
    OpEff P o env H ⟨r0, ws0, log⟩ := by
  intro C a H2 henv hH hlg hnew0 next Q hk0
  have hF : ∀ (r : AV) (ws : List (Nat × Blk)) (Bs : List Blk), (r = r0 ∧ ws = ws0 ∧ Bs = []) → r.idin log H.length = true ∧ (∀ p ∈ ws, p.1 ∈ log ∧ Blk.idin log H.length p.2 = true) ∧ ∀ x ∈ Bs, Blk.idin log H.length x = true := by
    rintro r ws Bs ⟨rfl, rfl, rfl⟩
    exact ⟨hr0, hw0, fun x hx => by cases hx⟩
  have h : ∀ H1 : Heap, H1.length = H.length → (∀ b ∈ log, H1.at b = H.at b) → FCall P g (c.args.toList.map (env.ev 0)) H1 fun r H' => ∃ ws Bs, (r = r0 ∧ ws = ws0 ∧ Bs = []) ∧ H' = H1.puts ws ++ Bs := fun H1 e1 e2 =>
    FCall.mono (h0 H1 e1 e2) fun r H' ⟨h1, h2⟩ => ⟨ws0, [], ⟨h1, rfl, rfl⟩, by rw [h2]; simp⟩
  have hk : ∀ (e : Eff) v' C', (∃ r ws Bs, (r = r0 ∧ ws = ws0 ∧ Bs = []) ∧ e = ⟨r, ws ++ newWr H.length Bs, log⟩) → VRel C' e.v v' → HRel C' (H2.puts e.wr) → StepExt C C' → Frame' C H2 C' (H2.puts e.wr) →
      (∀ b, (∀ p ∈ e.wr, p.1 ≠ b) → Fresh C b → Fresh C' b) → next (a.put o.dst v') C'.w := by
    rintro e v' C' ⟨r, ws, Bs, ⟨rfl, rfl, rfl⟩, rfl⟩
    simpa [newWr] using hk0 v' C'
  have hll : ∀ b ∈ log, b < H.length := fun b hb => (hlog b hb).1
  have hat : ∀ b, (H2.pick H.length log).at b = if b ∈ log then H2.at b else .dead := Heap.at_pick H2 H.length log hll
  have hHn : HRel (C.cut H.length) (H2.pick H.length log) := by
    have h1 : HRel C (H2.pick H.length log) := hH.weak fun b => by
      rw [hat b]
      split
      · exact .refl _
      · exact .dead _
    have h2 := h1.cut (n := H.length) fun b hb => by
      rw [hat b]
      split
      · rename_i hbl; rw [hlg b hbl]; exact (hlog b hbl).2
      · rfl
    rwa [List.take_of_length_le (by rw [Heap.pick_length]; exact Nat.le_refl _)] at h2
  unfold Oper.wp
  rw [execOp_call ho hc hf]
  simp only [Oper.upon]
  have hops : ∀ x, x ∈ c.args.toList → x ∈ o.op.operands.toList := fun x hx => by
    rw [ho]; simp [Op.operands, Call.operands, hc]; simp at hx; exact .inr hx
  refine Calls.mono (h (H2.pick H.length log) (Heap.pick_length ..) (fun b hb => by rw [hat b, if_pos hb]; exact hlg b hb) (C.cut H.length) _ hHn (fun b hb => ?_) (by simp) (fun i hi => ?_)) ?_
  · rw [Heap.pick_length] at hb
    have : ¬ b < H.length := by omega
    exact ⟨by simp [Ctx.cut, this], fun e => by simp [Ctx.cut, this]⟩
  · have hi' : i < c.args.size := by simpa using hi
    have h1 := ev_rel henv 0 (c.args[i]) (hops _ (by simp))
    have e1 : (c.args.toList.map (env.ev 0)).getD i .junk = env.ev 0 c.args[i] := by simp [List.getD_eq_getElem?_getD, hi']
    have e2 : (c.args.map a.eval).getD i undef = a.eval c.args[i] := by simp [Array.getD_eq_getD_getElem?, hi']
    have h2 := blwL_get hab i
    rw [e1] at h2
    rw [e1, e2]; exact h1.cut h2
  · rintro e w' ⟨v, r, C', H', rfl, ⟨ws, Bs, hFr, rfl⟩, hv, rfl, hH', hdom', hs, hfr⟩
    obtain ⟨hr, hws, hBs⟩ := hF r ws Bs hFr
    have hpl : ((H2.pick H.length log).puts ws).length = H.length := by
      rw [puts_len ws _ (fun p hp => by rw [Heap.pick_length]; exact hll _ (hws p hp).1), Heap.pick_length]
    have hlen : ((H2.pick H.length log).puts ws ++ Bs).length = H.length + Bs.length := by rw [List.length_append, hpl]
    have hm : ∀ b, H.length + Bs.length ≤ b → Fresh C' b := fun b hb => hdom' b (by rw [hlen]; exact hb)
    have hst : StepExt C (Ctx.join C C' log H.length (H.length + Bs.length)) := StepExt.join hll (fun b h1 h2 => absurd h2 (by rw [hFr.2.2]; simp; omega)) hs
    have hnew' : ∀ b, H.length ≤ b → b < H.length + Bs.length → Heap.at ((H2.pick H.length log).puts ws ++ Bs) b = Bs.getD (b - H.length) .dead := fun b h1 h2 => by
      have h9 := Heap.at_app ((H2.pick H.length log).puts ws) Bs (b - H.length)
      rw [hpl, show H.length + (b - H.length) = b by omega] at h9
      exact h9
    have hat2 : ∀ b, (H2.puts (ws ++ newWr H.length Bs)).at b = if H.length ≤ b ∧ b < H.length + Bs.length then Bs.getD (b - H.length) .dead else (H2.puts ws).at b := fun b => by
      rw [puts_append, at_newWr]
    have hold' : ∀ b ∈ log, Heap.at ((H2.pick H.length log).puts ws ++ Bs) b = (H2.puts ws).at b := fun b hb => by
      rw [Heap.at_old _ _ (by rw [hpl]; exact hll b hb), Heap.at_puts, Heap.at_puts]
      exact fputs_congr _ _ _ _ (by rw [hat b, if_pos hb])
    have helse : ∀ b, b ∉ log → (H2.puts ws).at b = H2.at b := fun b hb => by
      rw [Heap.at_puts]
      exact fputs_notin _ _ _ fun p hp he => hb (he ▸ (hws p hp).1)
    have hpick : ∀ b cb, Owns (C.cut H.length) (H2.pick H.length log) b cb → b ∈ log ∧ Owns C H2 b cb := fun b cb ho => by
      cases ho with
      | row sz es _ base hb hφ =>
        rw [hat] at hb
        split at hb
        · rename_i hl; exact ⟨hl, .row _ sz es _ base hb (by simpa [Ctx.cut, hll b hl] using hφ)⟩
        · cases hb
      | tok e _ eo ce hb hτ =>
        rw [hat] at hb
        split at hb
        · rename_i hl; exact ⟨hl, .tok _ e _ eo ce hb (by simpa [Ctx.cut, hll b hl] using hτ)⟩
        · cases hb
      | map es _ hb hφ =>
        rw [hat] at hb
        split at hb
        · rename_i hl; exact ⟨hl, .map _ es _ hb (by simpa [Ctx.cut, hll b hl] using hφ)⟩
        · cases hb
    have hown' : ∀ b cb, Owns (Ctx.join C C' log H.length (H.length + Bs.length)) (H2.puts (ws ++ newWr H.length Bs)) b cb →
        Owns C' ((H2.pick H.length log).puts ws ++ Bs) b cb ∨ (b ∉ log ∧ Owns C H2 b cb) := fun b cb ho => by
      have hatb := hat2 b
      by_cases h1 : H.length ≤ b ∧ b < H.length + Bs.length
      · rw [if_pos h1, ← hnew' b h1.1 h1.2] at hatb
        have hj := Go.Av.join_in (C := C) (C' := C') (log := log) (n := H.length) (m := H.length + Bs.length) (b := b) (.inr h1)
        left
        cases ho with
        | row sz es _ base hb hφ => exact .row _ sz es _ base (hatb ▸ hb) (hj.1 ▸ hφ)
        | tok e _ eo ce hb hτ => exact .tok _ e _ eo ce (hatb ▸ hb) (by rw [← hj.2]; exact hτ)
        | map es _ hb hφ => exact .map _ es _ (hatb ▸ hb) (hj.1 ▸ hφ)
      · rw [if_neg h1] at hatb
        by_cases h2 : b ∈ log
        · rw [← hold' b h2] at hatb
          have hj := Go.Av.join_in (C := C) (C' := C') (log := log) (n := H.length) (m := H.length + Bs.length) (b := b) (.inl h2)
          left
          cases ho with
          | row sz es _ base hb hφ => exact .row _ sz es _ base (hatb ▸ hb) (hj.1 ▸ hφ)
          | tok e _ eo ce hb hτ => exact .tok _ e _ eo ce (hatb ▸ hb) (by rw [← hj.2]; exact hτ)
          | map es _ hb hφ => exact .map _ es _ (hatb ▸ hb) (hj.1 ▸ hφ)
        · rw [helse b h2] at hatb
          have hj := join_out (C := C) (C' := C') (log := log) (n := H.length) (m := H.length + Bs.length) (b := b) (fun h => h.elim h2 h1)
          refine .inr ⟨h2, ?_⟩
          cases ho with
          | row sz es _ base hb hφ => exact .row _ sz es _ base (hatb ▸ hb) (hj.1 ▸ hφ)
          | tok e _ eo ce hb hτ => exact .tok _ e _ eo ce (hatb ▸ hb) (by rw [← hj.2]; exact hτ)
          | map es _ hb hφ => exact .map _ es _ (hatb ▸ hb) (hj.1 ▸ hφ)
    have hmix : ∀ b b' cb, Owns C' ((H2.pick H.length log).puts ws ++ Bs) b cb → b' ∉ log → Owns C H2 b' cb → False := fun b b' cb h1 h2 h3 => by
      obtain ⟨b'', h4⟩ := hfr.owned b cb h1 (hH.owns_lt h3)
      obtain ⟨h5, h6⟩ := hpick b'' cb h4
      exact h2 (hH.own b' b'' cb h3 h6 ▸ h5)
    refine hk ⟨r, ws ++ newWr H.length Bs, log⟩ v (Ctx.join C C' log H.length (H.length + Bs.length)) ⟨r, ws, Bs, hFr, rfl⟩ (hv.join_in hm hr) ⟨fun b => ?_, fun b b' cb h1 h2 => ?_, hH'.dom⟩ hst
      ⟨hfr.os, hfr.output, hfr.size, fun cb hcb hn => hfr.kept cb hcb fun b hb => hn b (hpick b cb hb).2, fun b cb ho hcb => ?_⟩ (fun b hb hfrsh => ?_)
    · rw [hat2]
      by_cases h1 : H.length ≤ b ∧ b < H.length + Bs.length
      · rw [if_pos h1]
        have h2 := hH'.blk b
        rw [hnew' b h1.1 h1.2] at h2
        have h3 : b - H.length < Bs.length := by omega
        exact BlkOK.join_in hm (.inr h1) (hBs _ (by rw [List.getD_eq_getElem?_getD, List.getElem?_eq_getElem h3]; exact List.getElem_mem h3)) h2
      · rw [if_neg h1]
        by_cases h2 : b ∈ log
        · have h3 := hH'.blk b
          rw [hold' b h2] at h3
          by_cases hw : ∃ p ∈ ws, p.1 = b
          · refine BlkOK.join_in hm (.inl h2) ?_ h3
            rw [Heap.at_puts]
            have : ∀ (ws : List (Nat × Blk)) (f : Nat → Blk), (∀ p ∈ ws, Blk.idin log H.length p.2 = true) → (∃ p ∈ ws, p.1 = b) ∨ Blk.idin log H.length (f b) = true → Blk.idin log H.length (fputs ws f b) = true := by
              intro ws
              induction ws with
              | nil => intro f _ hh; rcases hh with ⟨p, hp, _⟩ | hh; cases hp; exact hh
              | cons q ws ih =>
                obtain ⟨q1, q2⟩ := q
                intro f hall hh
                simp only [fputs]
                refine ih _ (fun p hp => hall p (by simp [hp])) ?_
                by_cases hq : q1 = b
                · subst hq; right; simpa using hall (q1, q2) (by simp)
                · rcases hh with ⟨p, hp, hpb⟩ | hh
                  · rcases List.mem_cons.1 hp with rfl | hp
                    · exact absurd hpb hq
                    · exact .inl ⟨p, hp, hpb⟩
                  · right
                    have : (q1 == b) = false := by simpa using hq
                    rw [this]; exact hh
            exact this ws _ (fun p hp => (hws p hp).2) (.inl hw)
          · have h4 : (H2.puts ws).at b = H2.at b := by
              rw [Heap.at_puts, fputs_notin _ _ _ fun p hp he => hw ⟨p, hp, he⟩]
            rw [h4] at h3 ⊢
            exact BlkOK.join_log hs h2 (by rw [hlg b h2]; exact (hlog b h2).2) (hH.blk b) h3
        · rw [helse b h2]
          refine BlkOK.join_else hst hfr.size (fun h => h.elim h2 h1) (fun cb H0 h3 h4 => ?_) (hH.blk b)
          have h5 : Owns C H2 b cb := by
            cases h4 with
            | row sz es _ base hb hφ => exact .row _ sz es _ base (h3 ▸ hb) hφ
            | tok e _ eo ce hb hτ => exact .tok _ e _ eo ce (h3 ▸ hb) hτ
            | map es _ hb hφ => exact .map _ es _ (h3 ▸ hb) hφ
          exact hfr.kept cb (hH.owns_lt h5) fun b' hb' => h2 (hH.own b b' cb h5 (hpick b' cb hb').2 ▸ (hpick b' cb hb').1)
    · rcases hown' b cb h1 with h1 | ⟨n1, h1⟩ <;> rcases hown' b' cb h2 with h2 | ⟨n2, h2⟩
      · exact hH'.own b b' cb h1 h2
      · exact (hmix b b' cb h1 n2 h2).elim
      · exact (hmix b' b cb h2 n1 h1).elim
      · exact hH.own b b' cb h1 h2
    · rcases hown' b cb ho with h1 | ⟨_, h1⟩
      · obtain ⟨b', h2⟩ := hfr.owned b cb h1 hcb
        exact ⟨b', (hpick b' cb h2).2⟩
      · exact ⟨b, h1⟩
    · refine Fresh.join (fun h => ?_) hfrsh
      rcases h with h | h
      · obtain ⟨sz, es, h1⟩ := hrow b h
        have h2 := hH.blk b
        rw [hlg b h, h1] at h2
        obtain ⟨cb, base, g, k1, _⟩ := h2
        rw [hfrsh.1] at k1; cases k1
      · refine hb (b, Bs.getD (b - H.length) .dead) ?_ rfl
        refine List.mem_append_right _ ?_
        unfold newWr
        refine List.mem_map.2 ⟨b - H.length, List.mem_range.2 (by omega), ?_⟩
        rw [show H.length + (b - H.length) = b by omega]

theorem ard_fcallw {n : Nat} {ops : Array Oper} {Q : Env → Heap → Prop} {os : List Oper} {acc : List Itm} {d : Tmp} {c : Call} {ty : TypeId} {pos : String} {after : Array Edge} {guard : Option (Nat × Bool)} {g : FuncId} {fn : Func} {body : Code} {args : List AV} {r : AV} {log : List Nat} {ws : List (Nat × Blk)}
    (hc : c.callee = .value (.func g)) (hf : FnOK P g fn body) (ha : c.args.toList.map (env.ev 0) = args)
    (h : ∀ H1 : Heap, H1.length = H.length → (∀ b ∈ log, H1.at b = H.at b) → FCall P g args H1 fun r' H' => r' = r ∧ H' = H1.puts ws)
    (hab : blwL H.length args = true) (hlog : ∀ b ∈ log, b < H.length ∧ (H.at b).blw H.length = true) (hrow : ∀ b ∈ log, ∃ sz es, H.at b = .row sz es) (hr : r.idin log H.length = true) (hw : ∀ p ∈ ws, p.1 ∈ log ∧ Blk.idin log H.length p.2 = true)
    (hd : Nat.blt d n = true) (hg : aguard ops ⟨some d, .call c, ty, pos, after, guard⟩ env = some true)
    (hk : AReg P n ops true Q os (⟨⟨some d, .call c, ty, pos, after, guard⟩, ⟨r, ws, log⟩⟩ :: acc) ((d, r) :: env) (H.puts ws)) :
    AReg P n ops true Q (⟨some d, .call c, ty, pos, after, guard⟩ :: os) acc env H := by
  subst ha
  exact .inl ⟨_, .run _ (by simp [dstOK, hd]) hg (fun p hp => .inl (hw p hp).1) (eff_fcallw rfl hc hf hab hlog hrow hr hw h), hk⟩
end Go.Av
