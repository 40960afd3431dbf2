/- The words of an abstract evaluator and what each plain operation comes to; no conditions. -/
import Derived.Calls
import Derived.Orders
import Derived.Deep.LoopGhost
import Derived.KernelRfl
import Derived.Deep.MidRow
import Derived.Deep.AppendSrc
import Derived.Laws.BytesString
import Derived.Laws.Slices
set_option linter.unusedVariables false
set_option linter.unusedSimpArgs false
/- The abstract values, the abstract memory and the abstract predicate transformer of the evaluator. -/
namespace Go.Av
open Go

/-- Abstract values. 'fsl': a slice that nobody writes any more, by its elements (each the list of its cells). 'asl': a slice at which 'append' may go on (a token and how far it is). 'row': a slice of a block of the call's own. -/
inductive AV where
  | junk
  | bool (b : Bool)
  | int (k : IntKind) (n : Int)
  | str (s : List UInt8)
  | agg (cs : List AV)
  | tup (vs : List AV)
  | fsl (sz : Nat) (xs : List (List AV))
  | nsl (sz : Nat)
  | asl (t e sz : Nat) (xs : List (List AV))
  | row (b off len : Nat) (cap : Option Nat) (sz : Nat)
  | ptr (b i j : Nat)
  | fptr (cs : List AV)
  | nilp
  | fn (f : Fn) (first caps : List AV)
  | nilfn
  | iface (t : TypeId) (v : AV)
  | nilif
  | mapr (b : Nat)
  | fmap (es : List (AV × AV))
  | nilmap
  deriving Inhabited

inductive Blk where
  | dead
  | row (sz : Nat) (es : List (List AV))
  | tok (e : Nat)
  | mapb (es : List (AV × AV))
  deriving Inhabited

abbrev Heap := List Blk
def Heap.at (H : Heap) (b : Nat) : Blk := H.getD b .dead

/-- put a block at an id (ids behind the end are filled up with dead blocks) -/
def Heap.put : Heap → Nat → Blk → Heap
  | [], 0, x => [x]
  | [], n + 1, x => .dead :: Heap.put [] n x
  | _ :: H, 0, x => x :: H
  | y :: H, n + 1, x => y :: Heap.put H n x

def Heap.puts (H : Heap) : List (Nat × Blk) → Heap
  | [] => H
  | (b, x) :: r => Heap.puts (H.put b x) r

abbrev Env := List (Nat × AV)
def Env.get : Env → Nat → AV
  | [], _ => .junk
  | (t, v) :: r, u => bif t == u then v else Env.get r u

structure St where
  env : Env
  H : Heap

/-! ### what is known of a type -/
inductive TyK where
  | bool | int (k : IntKind) | str
  | slice (e : Nat)
  | struct (fs : List (Nat × Nat))
  | array (n e : Nat)
  | ptr (e : Nat)
  | iface (none : Bool)
  | map (k e : Nat)
  | func
  | other

structure TyD where
  sz : Nat
  bytes : Nat
  agg : Bool
  zero : List AV
  kind : TyK

abbrev Tys := Nat → Option TyD

/-- a value as its cells -/
def AV.cells : AV → List AV
  | .agg cs => cs
  | v => [v]

/-- cells as a value of a type -/
def ofCells (d : TyD) (cs : List AV) : Option AV :=
  if d.agg then (if cs.length == d.sz then some (.agg cs) else none)
  else match cs with
    | [c] => some c
    | _ => none

/-- the first n of a list; none, if there are fewer -/
def takeN : Nat → List AV → Option (List AV)
  | 0, _ => some []
  | _ + 1, [] => none
  | n + 1, c :: cs => match takeN n cs with
    | some r => some (c :: r)
    | none => none

/-- puts cells into cells from a place on; none, if they do not fit -/
def splice : List AV → Nat → List AV → Option (List AV)
  | cs, 0, vs => match vs with
    | [] => some cs
    | v :: vs => match cs with
      | [] => none
      | _ :: cs => match splice cs 0 vs with
        | some r => some (v :: r)
        | none => none
  | [], _ + 1, _ => none
  | c :: cs, n + 1, vs => match splice cs n vs with
    | some r => some (c :: r)
    | none => none
end Go.Av
/- How abstract values and abstract memory read in a world. -/
namespace Go.Av
open Go

/-- a block of which nothing is shared by a text -/
def Plain (w : World) (b : Nat) : Prop := b < w.heap.size ∧ ∀ j, w.frozen? ⟨b, j, none⟩ = false

/-- Frozen data: 'K b' cells of the concrete block b are never written any more. -/
inductive FRel (K : Nat → Nat) (w : World) : AV → Value → Prop
  | junk (v : Value) : FRel K w .junk v
  | bool (b : Bool) : FRel K w (.bool b) (.bool b)
  | int (k : IntKind) (n : Int) : FRel K w (.int k n) (.int k n)
  | str (l : List UInt8) (s : ByteArray) (h : s.data.toList = l) : FRel K w (.str l) (.string s)
  | agg (cs : List AV) (vs : Array Value) (hl : cs.length = vs.size) (h : ∀ i, i < cs.length → FRel K w (cs.getD i .junk) (vs.getD i undef)) : FRel K w (.agg cs) (.agg vs)
  | tup (cs : List AV) (vs : Array Value) (hl : cs.length = vs.size) (h : ∀ i, i < cs.length → FRel K w (cs.getD i .junk) (vs.getD i undef)) : FRel K w (.tup cs) (.tuple vs)
  | fsl0 (sz : Nat) (a : Option Addr) (cap : Nat) : FRel K w (.fsl sz []) (.slice a 0 cap)
  | fsl (sz : Nat) (xs : List (List AV)) (blk off cap : Nat) (g : Nat → Nat → Value) (hK : off + xs.length * sz ≤ K blk) (hcp : xs.length ≤ cap) (hp : 1 < sz → Plain w blk) (hs : ∀ x ∈ xs, x.length = sz)
      (hc : ∀ i j, i < xs.length → j < sz → w.cell? ⟨blk, off + (i * sz + j), none⟩ = some (g i j)) (ho : ∀ i j, i < xs.length → j < sz → (g i j).oneCell' = true)
      (h : ∀ i j, i < xs.length → j < sz → FRel K w ((xs.getD i []).getD j .junk) (g i j)) : FRel K w (.fsl sz xs) (.slice (some ⟨blk, off, none⟩) xs.length cap)
  | nsl (sz : Nat) : FRel K w (.nsl sz) (.slice none 0 0)
  | fptr (cs : List AV) (blk off : Nat) (g : Nat → Value) (hK : off + cs.length ≤ K blk) (hp : 1 < cs.length → Plain w blk)
      (hc : ∀ j, j < cs.length → w.cell? ⟨blk, off + j, none⟩ = some (g j)) (ho : ∀ j, j < cs.length → (g j).oneCell' = true)
      (h : ∀ j, j < cs.length → FRel K w (cs.getD j .junk) (g j)) : FRel K w (.fptr cs) (.pointer (some ⟨blk, off, none⟩))
  | nilp : FRel K w .nilp (.pointer none)
  | fn (f : Fn) (first caps : List AV) (vf vc : Array Value) (hf : first.length = vf.size) (hc : caps.length = vc.size)
      (h1 : ∀ i, i < first.length → FRel K w (first.getD i .junk) (vf.getD i undef)) (h2 : ∀ i, i < caps.length → FRel K w (caps.getD i .junk) (vc.getD i undef)) :
      FRel K w (.fn f first caps) (.func f vf vc)
  | nilfn : FRel K w .nilfn .nilFunc
  | iface (t : TypeId) (a : AV) (v : Value) (h : FRel K w a v) : FRel K w (.iface t a) (.iface t v)
  | nilif : FRel K w .nilif .nilIface
  | fmap (es : List (AV × AV)) (r clock : Nat) (entries : Array MapEntry) (hK : K r ≠ 0) (hr : w.heap[r]? = some (.map entries clock)) (hl : es.length = entries.size)
      (h1 : ∀ i, i < es.length → FRel K w (es.getD i (.junk, .junk)).1 (entries.getD i default).key)
      (h2 : ∀ i, i < es.length → FRel K w (es.getD i (.junk, .junk)).2 (entries.getD i default).val) : FRel K w (.fmap es) (.map (some r))
  | nilmap : FRel K w .nilmap (.map none)

/-- a block that is there is of the same type and size, and no more of it is shared by a text -/
def SameKind (w w' : World) : Prop := ∀ b, b < w.heap.size → b < w'.heap.size ∧ w'.shape? b = w.shape? b ∧ ∀ j, w'.frozen? ⟨b, j, none⟩ = w.frozen? ⟨b, j, none⟩
theorem SameKind.refl (w : World) : SameKind w w := fun _ h => ⟨h, rfl, fun _ => rfl⟩
theorem SameKind.trans {w w' w'' : World} (h : SameKind w w') (h' : SameKind w' w'') : SameKind w w'' := fun b hb => by
  obtain ⟨a1, a2, a3⟩ := h b hb
  obtain ⟨b1, b2, b3⟩ := h' b a1
  exact ⟨b1, b2.trans a2, fun j => (b3 j).trans (a3 j)⟩
theorem Plain.mono {w w' : World} (h : SameKind w w') {b : Nat} (hp : Plain w b) : Plain w' b := by
  obtain ⟨a1, _, a3⟩ := h b hp.1
  exact ⟨a1, fun j => (a3 j).trans (hp.2 j)⟩

/-- What is frozen is as it was. -/
structure Agree (K : Nat → Nat) (w w' : World) : Prop where
  kind : SameKind w w'
  cell : ∀ b j v, j < K b → w.cell? ⟨b, j, none⟩ = some v → w'.cell? ⟨b, j, none⟩ = some v
  map : ∀ r es ck, K r ≠ 0 → w.heap[r]? = some (.map es ck) → w'.heap[r]? = some (.map es ck)

theorem Agree.refl (K : Nat → Nat) (w : World) : Agree K w w := ⟨.refl w, fun _ _ _ _ h => h, fun _ _ _ _ h => h⟩

theorem Agree.trans {K K' : Nat → Nat} {w w' w'' : World} (h : Agree K w w') (h' : Agree K' w' w'') (hK : ∀ b, K b ≤ K' b) : Agree K w w'' :=
  ⟨h.kind.trans h'.kind, fun b j v hj hv => h'.cell b j v (Nat.lt_of_lt_of_le hj (hK b)) (h.cell b j v hj hv),
   fun r es ck hr hm => h'.map r es ck (by have := hK r; omega) (h.map r es ck hr hm)⟩

theorem FRel.mono {K K' : Nat → Nat} {w w' : World} (hK : ∀ b, K b ≤ K' b) (ha : Agree K w w') {a : AV} {v : Value} (h : FRel K w a v) : FRel K' w' a v := by
  induction h with
  | junk v => exact .junk v
  | bool b => exact .bool b
  | int k n => exact .int k n
  | str l s h => exact .str l s h
  | agg cs vs hl _ ih => exact .agg cs vs hl ih
  | tup cs vs hl _ ih => exact .tup cs vs hl ih
  | fsl0 sz a cap => exact .fsl0 sz a cap
  | fsl sz xs blk off cap g hk hcp hp hs hc ho _ ih =>
    refine .fsl sz xs blk off cap g (Nat.le_trans hk (hK blk)) hcp (fun h => (hp h).mono ha.kind) hs (fun i j hi hj => ha.cell _ _ _ ?_ (hc i j hi hj)) ho ih
    have h1 : i * sz + j < xs.length * sz := by
      have : (i + 1) * sz ≤ xs.length * sz := Nat.mul_le_mul_right _ hi
      rw [Nat.add_mul] at this; omega
    omega
  | nsl sz => exact .nsl sz
  | fptr cs blk off g hk hp hc ho _ ih => exact .fptr cs blk off g (Nat.le_trans hk (hK blk)) (fun h => (hp h).mono ha.kind) (fun j hj => ha.cell _ _ _ (by omega) (hc j hj)) ho ih
  | nilp => exact .nilp
  | fn f first caps vf vc hf hc _ _ ih1 ih2 => exact .fn f first caps vf vc hf hc ih1 ih2
  | nilfn => exact .nilfn
  | iface t a v _ ih => exact .iface t a v ih
  | nilif => exact .nilif
  | fmap es r clock entries hk hr hl _ _ ih1 ih2 =>
    exact .fmap es r clock entries (by have := hK r; omega) (ha.map r _ _ hk hr) hl ih1 ih2
  | nilmap => exact .nilmap

structure Ctx where
  φ : Nat → Option (Nat × Nat × Nat)
  τ : Nat → Nat → Option (Option (Nat × Nat × Nat))
  K : Nat → Nat
  w : World

inductive VRel (C : Ctx) : AV → Value → Prop
  | fro (a : AV) (v : Value) (h : FRel C.K C.w a v) : VRel C a v
  | agg (cs : List AV) (vs : Array Value) (hl : cs.length = vs.size) (h : ∀ i, i < cs.length → VRel C (cs.getD i .junk) (vs.getD i undef)) : VRel C (.agg cs) (.agg vs)
  | tup (cs : List AV) (vs : Array Value) (hl : cs.length = vs.size) (h : ∀ i, i < cs.length → VRel C (cs.getD i .junk) (vs.getD i undef)) : VRel C (.tup cs) (.tuple vs)
  | fn (f : Fn) (first caps : List AV) (vf vc : Array Value) (hf : first.length = vf.size) (hc : caps.length = vc.size)
      (h1 : ∀ i, i < first.length → VRel C (first.getD i .junk) (vf.getD i undef)) (h2 : ∀ i, i < caps.length → VRel C (caps.getD i .junk) (vc.getD i undef)) :
      VRel C (.fn f first caps) (.func f vf vc)
  | iface (t : TypeId) (a : AV) (v : Value) (h : VRel C a v) : VRel C (.iface t a) (.iface t v)
  | ptr (b i j cb base sz : Nat) (h : C.φ b = some (cb, base, sz)) : VRel C (.ptr b i j) (.pointer (some ⟨cb, base + (i * sz + j), none⟩))
  | row (b off len sz cb base ccap : Nat) (cap : Option Nat) (h : C.φ b = some (cb, base, sz)) (hc : len ≤ ccap) (hcap : ∀ c, cap = some c → ccap = c)
      (hsp : cb < C.w.heap.size ∧ ∃ e m, C.w.shape? cb = some (e, m) ∧ base + off * sz + ccap * sz ≤ m) :
      VRel C (.row b off len cap sz) (.slice (some ⟨cb, base + off * sz, none⟩) len ccap)
  | asl (t e sz : Nat) (xs : List (List AV)) (cb off eo ce ccap : Nat) (h : C.τ t e = some (some (cb, eo, ce)))
      (hx : FRel C.K C.w (.fsl sz xs) (.slice (some ⟨cb, off, none⟩) xs.length ccap)) (he : off + xs.length * sz = eo) (hc : xs.length ≤ ccap) (hce : off + ccap * sz ≤ ce) (hp : 1 < sz → Plain C.w cb) :
      VRel C (.asl t e sz xs) (.slice (some ⟨cb, off, none⟩) xs.length ccap)
  | asl0 (t e sz : Nat) (h : C.τ t e = some none) : VRel C (.asl t e sz []) (.slice none 0 0)
  | mapr (b r : Nat) (h : C.φ b = some (r, 0, 0)) : VRel C (.mapr b) (.map (some r))

/-- A step forward: what was known is known. -/
structure StepExt (C C' : Ctx) : Prop where
  φ : ∀ b x, C.φ b = some x → C'.φ b = some x
  τ : ∀ t e x, C.τ t e = some x → C'.τ t e = some x
  K : ∀ b, C.K b ≤ C'.K b
  agree : Agree C.K C.w C'.w

theorem StepExt.refl (C : Ctx) : StepExt C C := ⟨fun _ _ h => h, fun _ _ _ h => h, fun _ => Nat.le_refl _, Agree.refl _ _⟩
theorem StepExt.trans {C C' C'' : Ctx} (h : StepExt C C') (h' : StepExt C' C'') : StepExt C C'' :=
  ⟨fun b x hx => h'.φ b x (h.φ b x hx), fun t e x hx => h'.τ t e x (h.τ t e x hx), fun b => Nat.le_trans (h.K b) (h'.K b), h.agree.trans h'.agree h.K⟩

theorem VRel.mono {C C' : Ctx} (hs : StepExt C C') {a : AV} {v : Value} (h : VRel C a v) : VRel C' a v := by
  induction h with
  | fro a v h => exact .fro a v (h.mono hs.K hs.agree)
  | agg cs vs hl _ ih => exact .agg cs vs hl ih
  | tup cs vs hl _ ih => exact .tup cs vs hl ih
  | fn f first caps vf vc hf hc _ _ ih1 ih2 => exact .fn f first caps vf vc hf hc ih1 ih2
  | iface t a v _ ih => exact .iface t a v ih
  | ptr b i j cb base sz h => exact .ptr b i j cb base sz (hs.φ _ _ h)
  | row b off len sz cb base ccap cap h hc hcap hsp =>
    obtain ⟨h1, e, m, h2, h3⟩ := hsp
    obtain ⟨k1, k2, _⟩ := hs.agree.kind cb h1
    exact .row b off len sz cb base ccap cap (hs.φ _ _ h) hc hcap ⟨k1, e, m, k2.trans h2, h3⟩
  | asl t e sz xs cb off eo ce ccap h hx he hc hce hp => exact .asl t e sz xs cb off eo ce ccap (hs.τ _ _ _ h) (hx.mono hs.K hs.agree) he hc hce fun h => (hp h).mono hs.agree.kind
  | asl0 t e sz h => exact .asl0 t e sz (hs.τ _ _ _ h)
  | mapr b r h => exact .mapr b r (hs.φ _ _ h)

/-- Which concrete block an id owns. -/
inductive Owns (C : Ctx) (H : Heap) : Nat → Nat → Prop
  | row (b sz : Nat) (es : List (List AV)) (cb base : Nat) (hb : H.at b = .row sz es) (h : C.φ b = some (cb, base, sz)) : Owns C H b cb
  | tok (t e cb eo ce : Nat) (hb : H.at t = .tok e) (h : C.τ t e = some (some (cb, eo, ce))) : Owns C H t cb
  | map (b : Nat) (es : List (AV × AV)) (r : Nat) (hb : H.at b = .mapb es) (h : C.φ b = some (r, 0, 0)) : Owns C H b r

def BlkOK (C : Ctx) (b : Nat) : Blk → Prop
  | .dead => True
  | .row sz es => ∃ (cb base : Nat) (g : Nat → Nat → Value), C.φ b = some (cb, base, sz) ∧ cb < C.w.heap.size ∧ C.K cb = 0 ∧ (∀ x ∈ es, x.length = sz) ∧
    (∀ i j, i < es.length → j < sz → C.w.cell? ⟨cb, base + (i * sz + j), none⟩ = some (g i j)) ∧
    (∀ j, C.w.frozen? ⟨cb, j, none⟩ = false) ∧
    (∀ i j, i < es.length → j < sz → (g i j).oneCell' = true) ∧
    (∀ i j, i < es.length → j < sz → VRel C ((es.getD i []).getD j .junk) (g i j))
  | .tok e => (∀ e', e < e' → C.τ b e' = none) ∧ (C.τ b e = some none ∨ ∃ cb eo ce, C.τ b e = some (some (cb, eo, ce)) ∧ cb < C.w.heap.size ∧ C.K cb = eo ∧
    (∀ j, eo ≤ j → j < ce → (C.w.cell? ⟨cb, j, none⟩).isSome = true ∧ C.w.frozen? ⟨cb, j, none⟩ = false))
  | .mapb es => ∃ r entries clock, C.φ b = some (r, 0, 0) ∧ C.w.heap[r]? = some (.map entries clock) ∧ C.K r = 0 ∧ es.length = entries.size ∧
    (∀ i, i < es.length → FRel C.K C.w (es.getD i (.junk, .junk)).1 (entries.getD i default).key) ∧
    (∀ i, i < es.length → FRel C.K C.w (es.getD i (.junk, .junk)).2 (entries.getD i default).val)

structure HRel (C : Ctx) (H : Heap) : Prop where
  blk : ∀ b, BlkOK C b (H.at b)
  own : ∀ b b' cb, Owns C H b cb → Owns C H b' cb → b = b'
  dom : ∀ b, C.K b ≠ 0 → b < C.w.heap.size

theorem HRel.row {C : Ctx} {H : Heap} (h : HRel C H) (b sz : Nat) (es : List (List AV)) (hb : H.at b = .row sz es) : BlkOK C b (.row sz es) := hb ▸ h.blk b
theorem HRel.tok {C : Ctx} {H : Heap} (h : HRel C H) (b e : Nat) (hb : H.at b = .tok e) : BlkOK C b (.tok e) := hb ▸ h.blk b
theorem HRel.map {C : Ctx} {H : Heap} (h : HRel C H) (b : Nat) (es : List (AV × AV)) (hb : H.at b = .mapb es) : BlkOK C b (.mapb es) := hb ▸ h.blk b

theorem HRel.owns_lt {C : Ctx} {H : Heap} (h : HRel C H) {b cb : Nat} (ho : Owns C H b cb) : cb < C.w.heap.size := by
  cases ho with
  | row sz es _ base hb hφ =>
    obtain ⟨cb', base', g, h1, h2, _⟩ := h.row b sz es hb
    rw [hφ] at h1; cases h1; exact h2
  | tok e _ eo ce hb hτ =>
    rcases (h.tok b e hb).2 with h1 | ⟨cb', eo', ce', h1, h2, _⟩
    · rw [hτ] at h1; cases h1
    · rw [hτ] at h1; cases h1; exact h2
  | map es _ hb hφ =>
    obtain ⟨r, entries, clock, h1, h2, _⟩ := h.map b es hb
    rw [hφ] at h1; cases h1
    rcases Nat.lt_or_ge cb C.w.heap.size with h' | h'
    · exact h'
    · rw [Array.getElem?_eq_none h'] at h2; cases h2

/-- What is neither owned nor new is as it was. -/
structure Frame' (C : Ctx) (H : Heap) (C' : Ctx) (H' : Heap) : Prop where
  os : C'.w.os = C.w.os
  output : C'.w.output = C.w.output
  size : C.w.heap.size ≤ C'.w.heap.size
  kept : ∀ cb, cb < C.w.heap.size → (∀ b, ¬ Owns C H b cb) → C'.w.heap[cb]? = C.w.heap[cb]? ∧ C'.K cb = C.K cb
  owned : ∀ b cb, Owns C' H' b cb → cb < C.w.heap.size → ∃ b', Owns C H b' cb

theorem Frame'.refl (C : Ctx) (H : Heap) : Frame' C H C H := ⟨rfl, rfl, Nat.le_refl _, fun _ _ _ => ⟨rfl, rfl⟩, fun b _ h _ => ⟨b, h⟩⟩

theorem Frame'.trans {C C1 C2 : Ctx} {H H1 H2 : Heap} (h : Frame' C H C1 H1) (h' : Frame' C1 H1 C2 H2) : Frame' C H C2 H2 where
  os := h'.os.trans h.os
  output := h'.output.trans h.output
  size := Nat.le_trans h.size h'.size
  kept := fun cb hcb hn => by
    have h1 := h.kept cb hcb hn
    have h2 := h'.kept cb (Nat.lt_of_lt_of_le hcb h.size) (fun b hb => by
      obtain ⟨b', hb'⟩ := h.owned b cb hb hcb
      exact hn b' hb')
    exact ⟨h2.1.trans h1.1, h2.2.trans h1.2⟩
  owned := fun b cb hb hcb => by
    obtain ⟨b1, hb1⟩ := h'.owned b cb hb (Nat.lt_of_lt_of_le hcb h.size)
    exact h.owned b1 cb hb1 hcb
end Go.Av
/- What each operation comes to on abstract values, but for calls. -/
namespace Go.Av
open Go

/-- an abstract value that is surely no junk: its cells are cells -/
def AV.isCell : AV → Bool
  | .junk | .agg _ | .tup _ => false
  | _ => true
def AV.solid : AV → Bool
  | .agg cs => cs.all AV.isCell
  | v => v.isCell

/-! ### freezing: the spine of a value is told without tokens; none, if it leads to memory of the call's own -/
mutual
def frz : AV → Option AV
  | .junk => some .junk
  | .bool b => some (.bool b)
  | .int k n => some (.int k n)
  | .str s => some (.str s)
  | .agg cs => match frzL cs with
    | some r => some (.agg r)
    | none => none
  | .tup cs => match frzL cs with
    | some r => some (.tup r)
    | none => none
  | .fsl sz xs => some (.fsl sz xs)
  | .nsl sz => some (.fsl sz [])
  | .asl _ _ sz xs => some (.fsl sz xs)
  | .row _ _ _ _ _ => none
  | .ptr _ _ _ => none
  | .fptr cs => some (.fptr cs)
  | .nilp => some .nilp
  | .fn f first caps => match frzL first with
    | some a => match frzL caps with
      | some b => some (.fn f a b)
      | none => none
    | none => none
  | .nilfn => some .nilfn
  | .iface t v => match frz v with
    | some r => some (.iface t r)
    | none => none
  | .nilif => some .nilif
  | .mapr _ => none
  | .fmap es => some (.fmap es)
  | .nilmap => some .nilmap
def frzL : List AV → Option (List AV)
  | [] => some []
  | a :: l => match frz a with
    | some b => match frzL l with
      | some r => some (b :: r)
      | none => none
    | none => none
end
def frzLL : List (List AV) → Option (List (List AV))
  | [] => some []
  | a :: l => match frzL a with
    | some b => match frzLL l with
      | some r => some (b :: r)
      | none => none
    | none => none

structure ORes where
  pre : Option Prop
  v : AV
  wr : List (Nat × Blk)
  log : List Nat

def vOk (v : AV) : Option ORes := some ⟨none, v, [], []⟩
def vIf (p : Prop) (v : AV) : Option ORes := some ⟨some p, v, [], []⟩

def Tys.esz (T : Tys) (t : TypeId) : Nat :=
  match T t with
  | some d => match d.kind with
    | .slice e => match T e with
      | some de => de.sz
      | none => 0
    | _ => 0
  | none => 0

def constAV (sz : Nat) : Value → AV
  | .bool b => .bool b
  | .int k n => .int k n
  | .string s => .str s.data.toList
  | .pointer none => .nilp
  | .slice none 0 0 => .nsl sz
  | .map none => .nilmap
  | .nilFunc => .nilfn
  | .nilIface => .nilif
  | _ => .junk

def Env.ev (env : Env) (sz : Nat) : Operand → AV
  | .tmp t => env.get t
  | .const v => constAV sz v
  | .global _ => .junk
  | .func f => .fn (.func f) [] []

/-- two whole numbers of one kind -/
def aint (op : BinOp) (k : IntKind) (a b : Int) : Option ORes :=
  match op with
  | .add => vOk (.int k (k.wrap (a + b)))
  | .sub => vOk (.int k (k.wrap (a - b)))
  | .mul => vOk (.int k (k.wrap (a * b)))
  | .quo => vIf (b ≠ 0) (.int k (k.wrap (a.tdiv b)))
  | .rem => vIf (b ≠ 0) (.int k (a.tmod b))
  | .and => vOk (.int k (k.wrap (BitVec.ofInt k.bits a &&& BitVec.ofInt k.bits b).toNat))
  | .or => vOk (.int k (k.wrap (BitVec.ofInt k.bits a ||| BitVec.ofInt k.bits b).toNat))
  | .xor => vOk (.int k (k.wrap (BitVec.ofInt k.bits a ^^^ BitVec.ofInt k.bits b).toNat))
  | .andNot => vOk (.int k (k.wrap (BitVec.ofInt k.bits a &&& ~~~ BitVec.ofInt k.bits b).toNat))
  | .eql => vOk (.bool (a == b))
  | .neq => vOk (.bool (a != b))
  | .lss => vOk (.bool (decide (a < b)))
  | .leq => vOk (.bool (decide (a ≤ b)))
  | .gtr => vOk (.bool (decide (a > b)))
  | .geq => vOk (.bool (decide (a ≥ b)))
  | _ => none

def ashift (op : BinOp) (k : IntKind) (a b : Int) : Option ORes :=
  match op with
  | .shl => vIf (0 ≤ b) (.int k (k.wrap (a * 2 ^ (min b.toNat k.bits))))
  | .shr => vIf (0 ≤ b) (.int k (a.fdiv (2 ^ (min b.toNat k.bits))))
  | _ => none

def astr (op : BinOp) (a b : List UInt8) : Option ORes :=
  match op with
  | .add => vIf (a.length + b.length ≤ 9223372036854775807) (.str (a ++ b))
  | .eql => vOk (.bool (a == b))
  | .neq => vOk (.bool (a != b))
  | .lss => vOk (.bool (Op.bytesLess a b))
  | .leq => vOk (.bool (Op.bytesLess a b || a == b))
  | .gtr => vOk (.bool (!(Op.bytesLess a b || a == b)))
  | .geq => vOk (.bool (!Op.bytesLess a b))
  | _ => none

/-- equality of values of a type, where it is told without addresses; 'lit': one of the two is a literal -/
def aeq (k : TyK) (lit : Bool) : AV → AV → Option Bool
  | .bool a, .bool b => match k with
    | .bool => some (a == b)
    | _ => none
  | .nilp, .nilp => match k with
    | .ptr _ => some true
    | _ => none
  | .ptr _ _ _, .nilp | .fptr _, .nilp | .nilp, .ptr _ _ _ | .nilp, .fptr _ => match k with
    | .ptr _ => some false
    | _ => none
  | .nilif, .nilif => match k with
    | .iface bare => if lit || bare then some true else none
    | _ => none
  | .iface _ _, .nilif | .nilif, .iface _ _ => match k with
    | .iface _ => some false
    | _ => none
  | .nsl _, .nsl _ => match k with
    | .slice _ => some true
    | _ => none
  | .nsl _, .row _ _ _ _ _ | .row _ _ _ _ _, .nsl _ => match k with
    | .slice _ => some false
    | _ => none
  | .nilfn, .nilfn => match k with
    | .func => some true
    | _ => none
  | .nilfn, .fn _ _ _ | .fn _ _ _, .nilfn => match k with
    | .func => some false
    | _ => none
  | .nilmap, .nilmap => match k with
    | .map _ _ => some true
    | _ => none
  | .nilmap, .mapr _ | .mapr _, .nilmap | .nilmap, .fmap _ | .fmap _, .nilmap => match k with
    | .map _ _ => some false
    | _ => none
  | _, _ => none

def isConst : Operand → Bool
  | .const _ => true
  | _ => false

def abin (T : Tys) (op : BinOp) (t : TypeId) (lit : Bool) (x y : AV) : Option ORes :=
  match x, y with
  | .int k a, .int k' b => match op with
    | .shl | .shr => ashift op k a b
    | _ => if k = k' then aint op k a b else none
  | .str a, .str b => astr op a b
  | x, y => match T t with
    | none => none
    | some d => match op with
      | .eql => match aeq d.kind lit x y with
        | some r => vOk (.bool r)
        | none => none
      | .neq => match aeq d.kind lit x y with
        | some r => vOk (.bool !r)
        | none => none
      | _ => none

def aun (op : UnOp) (x : AV) : Option ORes :=
  match op, x with
  | .not, .bool b => vOk (.bool !b)
  | .neg, .int k n => vOk (.int k (k.wrap (0 - n)))
  | .xor, .int k n => vOk (.int k (k.wrap (BitVec.ofInt k.bits (if k.signed then -1 else k.max) ^^^ BitVec.ofInt k.bits n).toNat))
  | _, _ => none

/-- the parts of a struct or array put into its zero; 'place' tells where each part lies -/
def afill (place : Nat → Option (Nat × Nat)) (cs : List AV) : List (Nat × AV) → Option (List AV)
  | [] => some cs
  | (i, v) :: r => match place i with
    | none => none
    | some (off, sz) =>
      if v.solid && v.cells.length == sz then match splice cs off v.cells with
        | some cs' => afill place cs' r
        | none => none
      else none

/-- elements of a slice literal, each the zero where there is no part -/
def aelems (sz n : Nat) (es : List (List AV)) : List (Nat × AV) → Option (List (List AV))
  | [] => some es
  | (i, v) :: r => if v.solid && v.cells.length == sz && i < n then aelems sz n (es.set i v.cells) r else none

def aload (d : TyD) (H : Heap) : AV → Option ORes
  | .ptr b i j => match H.at b with
    | .row _ es => match takeN d.sz ((es.getD i []).drop j) with
      | some cs => match ofCells d cs with
        | some v => some ⟨none, v, [], [b]⟩
        | none => none
      | none => none
    | _ => none
  | .fptr cs => match takeN d.sz cs with
    | some cs => match ofCells d cs with
      | some v => some ⟨none, v, [], []⟩
      | none => none
    | none => none
  | _ => none

def astore (d : TyD) (H : Heap) (p v : AV) : Option ORes :=
  match p with
  | .ptr b i j => match H.at b with
    | .row sz es =>
      if v.solid && v.cells.length == d.sz && d.sz != 0 then match splice (es.getD i []) j v.cells with
        | some e => some ⟨none, .junk, [(b, .row sz (es.set i e))], [b]⟩
        | none => none
      else none
    | _ => none
  | _ => none

def optInt (d : Int) : Option AV → Option Int
  | none => some d
  | some (.int _ n) => some n
  | _ => none

def aslice (x : AV) (lo hi : Option AV) : Option ORes :=
  match x with
  | .str l => match optInt 0 lo, optInt l.length hi with
    | some a, some b => vIf (0 ≤ a ∧ a ≤ b ∧ b ≤ (l.length : Int)) (.str ((l.take b.toNat).drop a.toNat))
    | _, _ => none
  | .fsl sz xs => match optInt 0 lo, optInt xs.length hi with
    | some a, some b => vIf (0 ≤ a ∧ a ≤ b ∧ b ≤ (xs.length : Int)) (.fsl sz ((xs.take b.toNat).drop a.toNat))
    | _, _ => none
  | .asl t e sz xs => match hi with
    | none => match optInt 0 lo with
      | some a => vIf (0 ≤ a ∧ a < (xs.length : Int)) (.asl t e sz (xs.drop a.toNat))
      | none => none
    | _ => match optInt 0 lo, optInt xs.length hi with
      | some a, some b => vIf (0 ≤ a ∧ a ≤ b ∧ b ≤ (xs.length : Int)) (.fsl sz ((xs.take b.toNat).drop a.toNat))
      | _, _ => none
  | .nsl sz => match optInt 0 lo, optInt 0 hi with
    | some a, some b => vIf (a = 0 ∧ b = 0) (.nsl sz)
    | _, _ => none
  | .row b off len cap sz => match optInt 0 lo, optInt len hi with
    | some x, some y => vIf (0 ≤ x ∧ x ≤ y ∧ y ≤ (len : Int) ∧ (x = 0 ∨ x < (len : Int))) (.row b (off + x.toNat) (y.toNat - x.toNat) (match cap with | some c => some (c - x.toNat) | none => none) sz)
    | _, _ => none
  | _ => none

def aindexAddr (T : Tys) (d : TyD) (x : AV) (i : Int) : Option ORes :=
  match d.kind with
  | .slice e => match T e with
    | none => none
    | some de => match x with
      | .fsl sz xs => if sz = de.sz then vIf (0 ≤ i ∧ i < (xs.length : Int)) (.fptr (xs.getD i.toNat [])) else none
      | .asl _ _ sz xs => if sz = de.sz then vIf (0 ≤ i ∧ i < (xs.length : Int)) (.fptr (xs.getD i.toNat [])) else none
      | .row b off len _ sz => if sz = de.sz then vIf (0 ≤ i ∧ i < (len : Int)) (.ptr b (off + i.toNat) 0) else none
      | _ => none
  | .array n e => match T e with
    | none => none
    | some de => match x with
      | .ptr b k j => vIf (0 ≤ i ∧ i < (n : Int)) (.ptr b k (j + i.toNat * de.sz))
      | .fptr cs => if n * de.sz ≤ cs.length then vIf (0 ≤ i ∧ i < (n : Int)) (.fptr (cs.drop (i.toNat * de.sz))) else none
      | _ => none
  | _ => none

def aindex (d : TyD) (x : AV) (i : Int) : Option ORes :=
  match d.kind, x with
  | .str, .str l => vIf (0 ≤ i ∧ i < (l.length : Int)) (.int .u8 ((l.getD i.toNat 0).toNat))
  | _, _ => none

def afieldAddr (T : Tys) (d : TyD) (f : Nat) (x : AV) : Option ORes :=
  match d.kind with
  | .struct fs => match fs[f]? with
    | some (off, ft) => match T ft with
      | some df => if df.sz = 0 then none else match x with
        | .ptr b i j => vOk (.ptr b i (j + off))
        | .fptr cs => if off + df.sz ≤ cs.length then vOk (.fptr (cs.drop off)) else none
        | _ => none
      | none => none
    | none => none
  | _ => none

def afield (T : Tys) (d : TyD) (f : Nat) : AV → Option ORes
  | .agg cs => match d.kind with
    | .struct fs => match fs[f]? with
      | some (off, t) => match T t with
        | some df => match takeN df.sz (cs.drop off) with
          | some r => match ofCells df r with
            | some v => vOk v
            | none => none
          | none => none
        | none => none
      | none => none
    | _ => none
  | _ => none

def alen (k : TyK) (x : AV) : Option Int :=
  match k with
  | .array n _ => some n
  | .str => match x with
    | .str l => some l.length
    | _ => none
  | .slice _ => match x with
    | .fsl _ xs => some xs.length
    | .asl _ _ _ xs => some xs.length
    | .nsl _ => some 0
    | .row _ _ len _ _ => some len
    | _ => none
  | .map _ _ => match x with
    | .nilmap => some 0
    | .fmap es => some es.length
    | _ => none
  | _ => none

/-- the elements of what is appended, and the blocks that were looked at -/
def srcOf (H : Heap) : AV → Option (List (List AV) × List Nat)
  | .fsl _ xs => some (xs, [])
  | .asl _ _ _ xs => some (xs, [])
  | .nsl _ => some ([], [])
  | .str l => some (l.map fun b => [.int .u8 b.toNat], [])
  | .row b off len _ _ => match H.at b with
    | .row _ es => if off + len ≤ es.length then some ((es.drop off).take len, [b]) else none
    | _ => none
  | _ => none


def natsOf (xs : List (List AV)) : List UInt8 := xs.map fun
  | [.int .u8 n] => UInt8.ofNat n.toNat
  | _ => 0
def AllBytes (xs : List (List AV)) : Prop := ∀ x ∈ xs, ∃ n, x = [.int .u8 n]

def aconv (T : Tys) (H : Heap) (src dst : TypeId) (x : AV) : Option ORes :=
  match T src, T dst with
  | some ds, some dd => match dd.kind, x with
    | .int k, .int _ n => vOk (.int k (k.wrap n))
    | .str, .str l => vOk (.str l)
    | .slice e, .str l => match T e with
      | some de => match de.kind with
        | .int .u8 => some ⟨none, .asl H.length l.length 1 (l.map fun b => [.int .u8 b.toNat]), [(H.length, .tok l.length)], []⟩
        | _ => none
      | none => none
    | .str, .fsl sz xs => match ds.kind with
      | .slice e => match T e with
        | some de => match de.kind with
          | .int .u8 => if sz = 1 then vIf (AllBytes xs) (.str (natsOf xs)) else none
          | _ => none
        | none => none
      | _ => none
    | .str, .asl _ _ sz xs => match ds.kind with
      | .slice e => match T e with
        | some de => match de.kind with
          | .int .u8 => if sz = 1 then vIf (AllBytes xs) (.str (natsOf xs)) else none
          | _ => none
        | none => none
      | _ => none
    | _, _ => none
  | _, _ => none

/-- what is appended is of a kind that its type tells -/
def srcKind (T : Tys) (tx : TypeId) (de : TyD) (x : AV) : Bool :=
  match T tx with
  | some dx => match dx.kind with
    | .slice _ => match x with
      | .str _ => false
      | _ => true
    | .str => match x with
      | .str _ => de.sz == 1
      | _ => false
    | _ => false
  | none => false

def srcFrz (x : AV) (ys : List (List AV)) : Option (List (List AV)) :=
  match x with
  | .row _ _ _ _ _ => frzLL ys
  | _ => some ys

def aappend (T : Tys) (H : Heap) (ts tx : TypeId) (s x : AV) : Option ORes :=
  match T ts with
  | some d => match d.kind with
    | .slice e => match T e with
      | some de => if srcKind T tx de x then match srcOf H x with
        | some (ys0, log) => match srcFrz x ys0 with
          | some ys => match s with
            | .asl t e sz xs => match H.at t with
              | .tok e' => if sz = de.sz then some ⟨some (e' = e ∧ (∀ y ∈ ys, y.length = sz) ∧ (xs.length + ys.length) * (de.bytes + 1) ≤ 140737488355328), .asl t (e + ys.length) sz (xs ++ ys), [(t, .tok (e + ys.length))], t :: log⟩ else none
              | _ => none
            | .nsl sz => if sz = de.sz then some ⟨some ((∀ y ∈ ys, y.length = sz) ∧ ys.length * (de.bytes + 1) ≤ 140737488355328), .asl H.length ys.length sz ys, [(H.length, .tok ys.length)], log⟩ else none
            | _ => none
          | none => none
        | none => none
        else none
      | none => none
    | _ => none
  | none => none

def acopy (T : Tys) (H : Heap) (ts tx : TypeId) (s x : AV) : Option ORes :=
  match T ts with
  | some d => match d.kind with
    | .slice e => match T e with
      | some de => if srcKind T tx de x then match srcOf H x with
        | some (ys0, log) => match srcFrz x ys0 with
          | some ys => match s with
            | .row b off len _ sz => match H.at b with
              | .row sz' es => some ⟨some (sz = de.sz ∧ sz' = de.sz ∧ off + len ≤ es.length ∧ (∀ y ∈ ys, y.length = de.sz)), .int .i64 (min ys.length len : Nat), [(b, .row sz' (es.take off ++ ys.take len ++ es.drop (off + min ys.length len)))], b :: log⟩
              | _ => none
            | _ => none
          | none => none
        | none => none
        else none
      | none => none
    | _ => none
  | none => none

def abuiltin (T : Tys) (H : Heap) (env : Env) (b : Builtin) (ts : List TypeId) (xs : List Operand) : Option ORes :=
  match b, ts, xs with
  | .len, [t], [x] => match T t with
    | some d => match alen d.kind (env.ev (T.esz t) x) with
      | some n => vOk (.int .i64 n)
      | none => none
    | none => none
  | .append, [t, u], [s, x] => aappend T H t u (env.ev (T.esz t) s) (env.ev (T.esz u) x)
  | .copy, [t, u], [s, x] => acopy T H t u (env.ev (T.esz t) s) (env.ev (T.esz u) x)
  | _, _, _ => none

def aassert (T : Tys) (asserted : TypeId) (commaOk : Bool) : AV → Option ORes
  | .iface t v => match T asserted with
    | some d => match d.kind with
      | .iface _ => none
      | .other => none
      | _ => if t = asserted then vOk (if commaOk then .tup [v, .bool true] else v)
        else if commaOk then match ofCells d d.zero with
          | some z => vOk (.tup [z, .bool false])
          | none => none
        else none
    | none => none
  | .nilif => match T asserted with
    | some d => match d.kind with
      | .iface _ => none
      | .other => none
      | _ => if commaOk then match ofCells d d.zero with
          | some z => vOk (.tup [z, .bool false])
          | none => none
        else none
    | none => none
  | _ => none

/-- the types of all fields are known -/
def FieldsOK (T : Tys) (fs : List (Nat × Nat)) : Bool := fs.all fun p => (T p.2).isSome

/-- an operation that is no call of a function -/
def aop (T : Tys) (o : Oper) (env : Env) (H : Heap) : Option ORes :=
  match o.op with
  | .move x => vOk (env.ev (T.esz o.type) x)
  | .assign x => vOk (env.ev (T.esz o.type) x)
  | .alloc elem => match T elem with
    | some d => some ⟨none, .ptr H.length 0 0, [(H.length, .row d.sz [d.zero])], []⟩
    | none => none
  | .box elem x => match T elem with
    | some d => if (env.ev (T.esz elem) x).solid && (env.ev (T.esz elem) x).cells.length == d.sz then
        some ⟨none, .ptr H.length 0 0, [(H.length, .row d.sz [(env.ev (T.esz elem) x).cells])], []⟩ else none
    | none => none
  | .build t parts => match T t with
    | some d => match d.kind with
      | .struct fs => if FieldsOK T fs then match afill (fun i => match fs[i]? with
          | some (off, ft) => match T ft with
            | some df => some (off, df.sz)
            | none => none
          | none => none) d.zero (parts.toList.map fun p => (p.1, env.ev (match fs[p.1]? with | some (_, ft) => T.esz ft | none => 0) p.2)) with
        | some cs => vOk (.agg cs)
        | none => none
        else none
      | _ => none
    | none => none
  | .buildSlice t len parts => match T t with
    | some d => match d.kind with
      | .slice e => match T e with
        | some de => match aelems de.sz len (List.replicate len de.zero) (parts.toList.map fun p => (p.1, env.ev (T.esz e) p.2)) with
          | some es => match frzLL es with
            | some xs => if len * de.sz ≤ 16777216 then some ⟨none, .asl H.length len de.sz xs, [(H.length, .tok len)], []⟩ else none
            | none => none
          | none => none
        | none => none
      | _ => none
    | none => none
  | .load t x => match T t with
    | some d => aload d H (env.ev 0 x)
    | none => none
  | .store t a x => match T t with
    | some d => astore d H (env.ev 0 a) (env.ev (T.esz t) x)
    | none => none
  | .nilCheck x => match env.ev 0 x with
    | .ptr b i j => vOk (.ptr b i j)
    | .fptr cs => vOk (.fptr cs)
    | _ => none
  | .binOp op t x y _ => abin T op t (isConst x || isConst y) (env.ev (T.esz t) x) (env.ev (T.esz t) y)
  | .unOp op _ x => aun op (env.ev 0 x)
  | .convert src dst x => aconv T H src dst (env.ev 0 x)
  | .makeInterface t x => match T t with
    | some d => match d.kind with
      | .iface _ => none
      | .other => none
      | _ => vOk (.iface t (env.ev (T.esz t) x))
    | none => none
  | .makeFunc fn first caps => vOk (.fn fn (first.toList.map (env.ev 0)) (caps.toList.map (env.ev 0)))
  | .makeSlice t l c => match T t with
    | some d => match d.kind with
      | .slice e => match T e with
        | some de => match env.ev 0 l, env.ev 0 c with
          | .int _ n, .int _ m => match isConst l with
            | true => some ⟨some (n = 0 ∧ 0 ≤ m ∧ m ≤ 9223372036854775807 ∧ m * de.bytes ≤ 140737488355328), .asl H.length 0 de.sz [], [(H.length, .tok 0)], []⟩
            | false => some ⟨some (n = m ∧ 0 ≤ m ∧ m ≤ 9223372036854775807 ∧ m * de.bytes ≤ 140737488355328), .row H.length 0 m.toNat (some m.toNat) de.sz, [(H.length, .row de.sz (List.replicate m.toNat de.zero))], []⟩
          | _, _ => none
        | none => none
      | _ => none
    | none => none
  | .slice t x lo hi none => match T t with
    | some d => match d.kind with
      | .str => match env.ev 0 x with
        | .str l => aslice (.str l) (lo.map (env.ev 0)) (hi.map (env.ev 0))
        | _ => none
      | .slice e => match T e with
        | some de => match env.ev de.sz x with
          | .fsl sz xs => if sz = de.sz then aslice (.fsl sz xs) (lo.map (env.ev 0)) (hi.map (env.ev 0)) else none
          | .asl t e sz xs => if sz = de.sz then aslice (.asl t e sz xs) (lo.map (env.ev 0)) (hi.map (env.ev 0)) else none
          | .nsl sz => aslice (.nsl sz) (lo.map (env.ev 0)) (hi.map (env.ev 0))
          | .row b off len cap sz => if sz = de.sz then aslice (.row b off len cap sz) (lo.map (env.ev 0)) (hi.map (env.ev 0)) else none
          | _ => none
        | none => none
      | _ => none
    | none => none
  | .fieldAddr s x f => match T s with
    | some d => afieldAddr T d f (env.ev 0 x)
    | none => none
  | .field s x f => match T s with
    | some d => afield T d f (env.ev 0 x)
    | none => none
  | .indexAddr t x ix => match T t with
    | some d => match env.ev 0 ix with
      | .int _ i => aindexAddr T d (env.ev 0 x) i
      | _ => none
    | none => none
  | .index t x ix => match T t with
    | some d => match env.ev 0 ix with
      | .int _ i => aindex d (env.ev 0 x) i
      | _ => none
    | none => none
  | .typeAssert x _ asserted ok => aassert T asserted ok (env.ev 0 x)
  | .extract x i => match env.ev 0 x with
    | .tup vs => match vs[i]? with
      | some v => vOk v
      | none => none
    | _ => none
  | .call c => match c.callee with
    | .builtin b => abuiltin T H env b c.argTypes.toList c.args.toList
    | _ => none
  | _ => none

end Go.Av
/- What it means that an operation comes to something; the operations that leave the world alone. -/
set_option linter.unusedVariables false
namespace Go.Av
open Go

/-! ### lists -/
theorem Heap.at_put_same : ∀ (H : Heap) (b : Nat) (x : Blk), (H.put b x).at b = x
  | [], 0, _ => rfl
  | [], n + 1, x => by simpa [Heap.put, Heap.at] using Heap.at_put_same [] n x
  | _ :: _, 0, _ => rfl
  | _ :: H, n + 1, x => by simpa [Heap.put, Heap.at] using Heap.at_put_same H n x

theorem Heap.at_put_ne : ∀ (H : Heap) (b c : Nat) (x : Blk), c ≠ b → (H.put b x).at c = H.at c
  | [], 0, 0, _, h => absurd rfl h
  | [], 0, c + 1, _, _ => by simp [Heap.put, Heap.at]
  | [], n + 1, 0, x, _ => by simp [Heap.put, Heap.at]
  | [], n + 1, c + 1, x, h => by simpa [Heap.put, Heap.at] using Heap.at_put_ne [] n c x (by omega)
  | _ :: _, 0, 0, _, h => absurd rfl h
  | _ :: H, 0, c + 1, _, _ => by simp [Heap.put, Heap.at]
  | _ :: H, n + 1, 0, x, _ => by simp [Heap.put, Heap.at]
  | _ :: H, n + 1, c + 1, x, h => by simpa [Heap.put, Heap.at] using Heap.at_put_ne H n c x (by omega)

theorem takeN_spec : ∀ {n : Nat} {cs r : List AV}, takeN n cs = some r → r.length = n ∧ n ≤ cs.length ∧ ∀ j, j < n → r.getD j .junk = cs.getD j .junk
  | 0, cs, r, h => by simp [takeN] at h; subst h; exact ⟨rfl, Nat.zero_le _, fun j hj => by omega⟩
  | n + 1, [], r, h => by simp [takeN] at h
  | n + 1, c :: cs, r, h => by
    simp only [takeN] at h
    split at h
    · rename_i r' hr
      cases h
      obtain ⟨h1, h2, h3⟩ := takeN_spec hr
      refine ⟨by simp [h1], by simp; omega, fun j hj => ?_⟩
      cases j with
      | zero => rfl
      | succ j => simpa using h3 j (by omega)
    · cases h

theorem splice_spec : ∀ {cs : List AV} {n : Nat} {vs r : List AV}, splice cs n vs = some r → r.length = cs.length ∧ n + vs.length ≤ cs.length ∧
    (∀ j, j < vs.length → r.getD (n + j) .junk = vs.getD j .junk) ∧ (∀ j, j < n ∨ n + vs.length ≤ j → r.getD j .junk = cs.getD j .junk)
  | cs, 0, [], r, h => by
    have : r = cs := by cases cs <;> simp [splice] at h <;> simp [h]
    subst this; exact ⟨rfl, by simp, fun j hj => by simp at hj, fun j _ => rfl⟩
  | [], 0, v :: vs, r, h => by simp [splice] at h
  | c :: cs, 0, v :: vs, r, h => by
    simp only [splice] at h
    split at h
    · rename_i r' hr
      cases h
      obtain ⟨h1, h2, h3, h4⟩ := splice_spec hr
      refine ⟨by simp [h1], by simp at h2 ⊢; omega, fun j hj => ?_, fun j hj => ?_⟩
      · cases j with
        | zero => rfl
        | succ j => simpa using h3 j (by simpa using hj)
      · cases j with
        | zero => simp at hj
        | succ j => simpa using h4 j (by simp at hj; omega)
    · cases h
  | [], n + 1, vs, r, h => by simp [splice] at h
  | c :: cs, n + 1, vs, r, h => by
    simp only [splice] at h
    split at h
    · rename_i r' hr
      cases h
      obtain ⟨h1, h2, h3, h4⟩ := splice_spec hr
      refine ⟨by simp [h1], by simp; omega, fun j hj => ?_, fun j hj => ?_⟩
      · have := h3 j hj
        rw [show n + 1 + j = (n + j) + 1 by omega]
        simpa using this
      · cases j with
        | zero => rfl
        | succ j => simpa using h4 j (by omega)
    · cases h

/-! ### types -/
def kindOK : TyK → TypeDesc → Prop
  | .bool, .bool => True
  | .int k, .int k' => k = k'
  | .str, .string => True
  | .slice e, .slice e' => e = e'
  | .struct fs, .struct fields => fs = fields.toList.map fun f => (f.offset, f.type)
  | .array n e, .array n' e' => n = n' ∧ e = e'
  | .ptr e, .pointer e' => e = e'
  | .iface b, .interface ms => b = ms.isEmpty
  | .map k e, .map k' e' => k = k' ∧ e = e'
  | .func, .func _ _ _ => True
  | .other, _ => True
  | _, _ => False

def isAggD : TypeDesc → Bool
  | .struct _ | .array _ _ => true
  | _ => false

structure TyOK (P : Program) (T : Tys) : Prop where
  ok : ∀ t d, T t = some d → ∃ (i : TypeInfo) (z : Value) (u : TypeDesc), P.info? t = some i ∧ i.size = d.sz ∧ i.bytes = d.bytes ∧ i.zero = some z ∧ P.underlying t = some u ∧ kindOK d.kind u ∧ d.agg = isAggD u ∧
    d.zero.length = d.sz ∧ z.cells.size = d.sz ∧ (∀ j, j < d.sz → (z.cells.getD j undef).oneCell' = true ∧ ∃ s, d.zero.getD j .junk = constAV s (z.cells.getD j undef)) ∧
    (d.agg = true → ∃ cs, z = .agg cs) ∧ (d.agg = false → d.sz = 1 ∧ z.oneCell' = true)

/-! ### operands -/
theorem constAV_rel (K : Nat → Nat) (w : World) (s : Nat) (v : Value) : FRel K w (constAV s v) v := by
  unfold constAV
  split
  · exact .bool _
  · exact .int _ _
  · exact .str _ _ rfl
  · exact .nilp
  · exact .nsl _
  · exact .nilmap
  · exact .nilfn
  · exact .nilif
  · exact .junk _

def EnvOK (C : Ctx) (env : Env) (a : Act) (xs : List Operand) : Prop := ∀ t, Operand.tmp t ∈ xs → VRel C (env.get t) (a.tmps.getD t undef)

theorem ev_rel {C : Ctx} {env : Env} {a : Act} {xs : List Operand} (h : EnvOK C env a xs) (s : Nat) (x : Operand) (hx : x ∈ xs) : VRel C (env.ev s x) (a.eval x) := by
  cases x with
  | tmp t => exact h t hx
  | const v => exact .fro _ _ (constAV_rel _ _ s v)
  | global g => exact .fro _ _ (.junk _)
  | func f => exact .fro _ _ (.fn _ _ _ _ _ rfl rfl (fun i hi => by simp at hi) (fun i hi => by simp at hi))

def RunsTo (P : Program) (a : Act) (o : Oper) (w : World) (v : Value) (w' : World) : Prop :=
  (execOp a.eval o).run P w = .ok (.value v) w' ∨ ((execOp a.eval o).run P w = .ok .skip w' ∧ v = undef)

def Fresh (C : Ctx) (b : Nat) : Prop := C.φ b = none ∧ ∀ e, C.τ b e = none

def OpSem (P : Program) (o : Oper) (env : Env) (H : Heap) (r : ORes) : Prop :=
  ∀ (C : Ctx) (a : Act) (H2 : Heap), EnvOK C env a o.op.operands.toList → HRel C H2 → (∀ b ∈ r.log, H2.at b = H.at b) →
    (∀ p ∈ r.wr, p.1 ∈ r.log ∨ (H2.at p.1 = .dead ∧ Fresh C p.1)) → (∀ p, r.pre = some p → p) →
    ∃ (v' : Value) (C' : Ctx), RunsTo P a o C.w v' C'.w ∧ VRel C' r.v v' ∧ HRel C' (H2.puts r.wr) ∧ StepExt C C' ∧ Frame' C H2 C' (H2.puts r.wr) ∧
      (∀ b, (∀ p ∈ r.wr, p.1 ≠ b) → C'.φ b = C.φ b ∧ C'.τ b = C.τ b)

/-- An operation that only computes, or reads. -/
theorem OpSem.pure {P : Program} {o : Oper} {env : Env} {H : Heap} {r : ORes} (hw : r.wr = [])
    (h : ∀ (C : Ctx) (a : Act) (H2 : Heap), EnvOK C env a o.op.operands.toList → HRel C H2 → (∀ b ∈ r.log, H2.at b = H.at b) → (∀ p, r.pre = some p → p) →
      ∃ v', (execOp a.eval o).run P C.w = .ok (.value v') C.w ∧ VRel C r.v v') : OpSem P o env H r := by
  intro C a H2 henv hH hlog _ hpre
  obtain ⟨v', h1, h2⟩ := h C a H2 henv hH hlog hpre
  refine ⟨v', C, .inl h1, h2, by rw [hw]; exact hH, .refl C, by rw [hw]; exact .refl C H2, fun _ _ => ⟨rfl, rfl⟩⟩

/-! ### inversions -/
theorem VRel.int_inv {C : Ctx} {k : IntKind} {n : Int} {v : Value} (h : VRel C (.int k n) v) : v = .int k n := by
  cases h with
  | fro _ _ h => cases h; rfl
theorem VRel.bool_inv {C : Ctx} {b : Bool} {v : Value} (h : VRel C (.bool b) v) : v = .bool b := by
  cases h with
  | fro _ _ h => cases h; rfl
theorem VRel.str_inv {C : Ctx} {l : List UInt8} {v : Value} (h : VRel C (.str l) v) : ∃ s : ByteArray, v = .string s ∧ s.data.toList = l := by
  cases h with
  | fro _ _ h => cases h with | str _ s hs => exact ⟨s, rfl, hs⟩
theorem VRel.nilp_inv {C : Ctx} {v : Value} (h : VRel C .nilp v) : v = .pointer none := by
  cases h with
  | fro _ _ h => cases h; rfl
theorem VRel.ptr_inv {C : Ctx} {b i j : Nat} {v : Value} (h : VRel C (.ptr b i j) v) : ∃ cb base sz, C.φ b = some (cb, base, sz) ∧ v = .pointer (some ⟨cb, base + (i * sz + j), none⟩) := by
  cases h with
  | fro _ _ h => cases h
  | ptr _ _ _ cb base sz h => exact ⟨cb, base, sz, h, rfl⟩
theorem VRel.row_inv {C : Ctx} {b off len sz : Nat} {cap : Option Nat} {v : Value} (h : VRel C (.row b off len cap sz) v) :
    ∃ cb base ccap, C.φ b = some (cb, base, sz) ∧ v = .slice (some ⟨cb, base + off * sz, none⟩) len ccap ∧ len ≤ ccap ∧ ∀ c, cap = some c → ccap = c := by
  cases h with
  | fro _ _ h => cases h
  | row _ _ _ _ cb base ccap _ h hc hcap => exact ⟨cb, base, ccap, h, rfl, hc, hcap⟩
theorem VRel.row_inv' {C : Ctx} {b off len sz : Nat} {cap : Option Nat} {v : Value} (h : VRel C (.row b off len cap sz) v) :
    ∃ cb base ccap, C.φ b = some (cb, base, sz) ∧ v = .slice (some ⟨cb, base + off * sz, none⟩) len ccap ∧ len ≤ ccap ∧ (∀ c, cap = some c → ccap = c) ∧ cb < C.w.heap.size ∧ ∃ e m, C.w.shape? cb = some (e, m) ∧ base + off * sz + ccap * sz ≤ m := by
  cases h with
  | fro _ _ h => cases h
  | row _ _ _ _ cb base ccap _ h hc hcap hsp => exact ⟨cb, base, ccap, h, rfl, hc, hcap, hsp⟩
theorem VRel.fptr_inv {C : Ctx} {cs : List AV} {v : Value} (h : VRel C (.fptr cs) v) : FRel C.K C.w (.fptr cs) v := by
  cases h with
  | fro _ _ h => exact h
theorem VRel.fsl_inv {C : Ctx} {sz : Nat} {xs : List (List AV)} {v : Value} (h : VRel C (.fsl sz xs) v) : FRel C.K C.w (.fsl sz xs) v := by
  cases h with
  | fro _ _ h => exact h
theorem VRel.nsl_inv {C : Ctx} {sz : Nat} {v : Value} (h : VRel C (.nsl sz) v) : v = .slice none 0 0 := by
  cases h with
  | fro _ _ h => cases h; rfl

/-- the element of a frozen slice -/
theorem FRel.elem {K : Nat → Nat} {w : World} {sz : Nat} {xs : List (List AV)} {v : Value} (h : FRel K w (.fsl sz xs) v) {i : Nat} (hi : i < xs.length) :
    ∃ blk off cap, v = .slice (some ⟨blk, off, none⟩) xs.length cap ∧ FRel K w (.fptr (xs.getD i [])) (.pointer (some ⟨blk, off + i * sz, none⟩)) := by
  cases h with
  | fsl0 _ a cap => simp at hi
  | fsl _ _ blk off cap g hK hcp hp hs hc ho hr =>
    have hlen : (xs.getD i []).length = sz := by
      rw [List.getD_eq_getElem?_getD, List.getElem?_eq_getElem hi]; exact hs _ (List.getElem_mem hi)
    refine ⟨blk, off, cap, rfl, .fptr _ blk (off + i * sz) (g i) ?_ (fun h => hp (hlen ▸ h)) (fun j hj => ?_) (fun j hj => ho i j hi (by omega)) (fun j hj => hr i j hi (by omega))⟩
    · have : (i + 1) * sz ≤ xs.length * sz := Nat.mul_le_mul_right _ hi
      rw [Nat.add_mul] at this; omega
    · have := hc i j hi (by omega)
      rwa [← Nat.add_assoc] at this
end Go.Av
/- Loads, stores, new blocks. -/
set_option linter.unusedVariables false
namespace Go.Av
open Go

variable {P : Program} {T : Tys}

theorem isAggD_isRow (u : TypeDesc) : isAggD u = u.isRow := by cases u <;> rfl

/-- a variable is read out of known cells -/
theorem run_loadAt_cells (hT : TyOK P T) {t : TypeId} {d : TyD} (hd : T t = some d) (w : World) (blk off : Nat) (g : Nat → Value) (hc : ∀ k, k < d.sz → w.cell? ⟨blk, off + k, none⟩ = some (g k)) :
    (Instr.loadAt t (.pointer (some ⟨blk, off, none⟩))).run P w = .ok (if d.agg then .agg ((List.range d.sz).map g).toArray else g 0) w := by
  obtain ⟨i, z, u, hi, hs, hby, hz, hu, hk, hagg, hzl, hzs, hzc, hza, hzn⟩ := hT.ok t d hd
  cases hb : d.agg with
  | true =>
    have hrow : u.isRow = true := by rw [← isAggD_isRow, ← hagg, hb]
    have := run_loadAt_mid (P := P) w blk off t ((List.range d.sz).map g) u (fun j v hv => by
      have hj : j < d.sz := by
        have := (List.getElem?_eq_some_iff.1 hv).1; simpa using this
      have : v = g j := by
        rw [List.getElem?_map, List.getElem?_range hj] at hv; simpa using hv.symm
      rw [this]; exact hc j hj) hu hrow (by simp [hi, hs])
    simpa using this
  | false =>
    have h1 := (hzn hb).1
    have hc0 := hc 0 (by omega)
    have hagg' : (isAgg t).run P w = .ok false w := by
      unfold isAgg
      rw [Sem.run_bind, run_underlying hu w]
      rw [hb] at hagg
      cases u <;> first | rfl | (simp [isAggD] at hagg)
    simp only [Nat.add_zero] at hc0
    simp only [Instr.loadAt, Instr.sureAddr, Sem.run_bind, Sem.run_pure, Result.andThen_ok, loadVar, hagg', Bool.false_eq_true, if_false, run_load, hc0]

theorem rel_ofCells {C : Ctx} {d : TyD} {cs : List AV} {v : AV} {g : Nat → Value} (h : ofCells d cs = some v) (hl : cs.length = d.sz) (hr : ∀ k, k < d.sz → VRel C (cs.getD k .junk) (g k)) :
    VRel C v (if d.agg then .agg ((List.range d.sz).map g).toArray else g 0) := by
  unfold ofCells at h
  cases hb : d.agg with
  | true =>
    simp only [hb, if_true] at h ⊢
    split at h
    · cases h
      refine .agg _ _ (by simp [hl]) fun i hi => ?_
      have hi' : i < d.sz := by omega
      have := hr i hi'
      simpa [hi', Array.getD] using this
    · cases h
  | false =>
    simp only [hb, Bool.false_eq_true, if_false] at h ⊢
    split at h
    · rename_i c
      cases h
      have := hr 0 (by simp at hl; omega)
      simpa using this
    · cases h

theorem sem_load (hT : TyOK P T) {o : Oper} {t : TypeId} {x : Operand} {d : TyD} {env : Env} {H : Heap} {r : ORes} (ho : o.op = .load t x) (hd : T t = some d)
    (h : aload d H (env.ev 0 x) = some r) : OpSem P o env H r := by
  have hex : ∀ a : Act, execOp a.eval o = (do pure (.value (← Instr.loadAt t (a.eval x)))) := fun a => by unfold execOp; rw [ho]
  unfold aload at h
  split at h
  · rename_i b i j hx
    split at h
    · rename_i sz es hb
      split at h
      · rename_i cs hcs
        split at h
        · rename_i v hv
          cases h
          refine OpSem.pure rfl fun C a H2 henv hH hlog _ => ?_
          have hrel := ev_rel henv 0 x (by rw [ho]; simp [Op.operands])
          rw [hx] at hrel
          obtain ⟨cb, base, sz', hφ, hev⟩ := hrel.ptr_inv
          have hb2 : H2.at b = .row sz es := by rw [hlog b (by simp), hb]
          obtain ⟨cb', base', g, hφ', hlt, hK, hes, hc, hf, h1, hr⟩ := hH.row b sz es hb2
          rw [hφ] at hφ'; cases hφ'
          obtain ⟨hl, hle, hget⟩ := takeN_spec hcs
          have key : ∀ k, k < d.sz → i < es.length ∧ j + k < sz ∧ cs.getD k .junk = (es.getD i []).getD (j + k) .junk := fun k hk => by
            have hi : i < es.length := by
              rcases Nat.lt_or_ge i es.length with h' | h'
              · exact h'
              · rw [List.getD_eq_getElem?_getD, List.getElem?_eq_none h'] at hle; simp at hle; omega
            have hlen : (es.getD i []).length = sz := by rw [List.getD_eq_getElem?_getD, List.getElem?_eq_getElem hi]; exact hes _ (List.getElem_mem hi)
            have h2 := hget k hk
            rw [List.length_drop] at hle
            refine ⟨hi, by omega, ?_⟩
            rw [h2]; simp [List.getD_eq_getElem?_getD, List.getElem?_drop]
          have hrun := run_loadAt_cells hT hd C.w cb (base + (i * sz + j)) (fun k => g i (j + k)) (fun k hk => by
            obtain ⟨k1, k2, _⟩ := key k hk
            have := hc i (j + k) k1 k2
            rw [← this]; congr 2; omega)
          refine ⟨_, by rw [hex a, hev, Sem.run_bind, hrun]; rfl, rel_ofCells hv hl fun k hk => ?_⟩
          obtain ⟨k1, k2, k3⟩ := key k hk
          rw [k3]; exact hr i (j + k) k1 k2
        · cases h
      · cases h
    · cases h
  · rename_i cs0 hx
    split at h
    · rename_i cs hcs
      split at h
      · rename_i v hv
        cases h
        refine OpSem.pure rfl fun C a H2 henv hH hlog _ => ?_
        have hrel := ev_rel henv 0 x (by rw [ho]; simp [Op.operands])
        rw [hx] at hrel
        have hf := hrel.fptr_inv
        generalize hav : a.eval x = av at hf
        cases hf with
        | fptr _ blk off g hK _ hc h1 hr =>
          obtain ⟨hl, hle, hget⟩ := takeN_spec hcs
          have hrun := run_loadAt_cells hT hd C.w blk off g (fun k hk => hc k (by omega))
          refine ⟨_, by rw [hex a, hav, Sem.run_bind, hrun]; rfl, rel_ofCells hv hl fun k hk => ?_⟩
          rw [hget k hk]; exact .fro _ _ (hr k (by omega))
      · cases h
    · cases h
  · cases h
end Go.Av
/- How the reading of the abstract memory is kept. -/
set_option linter.unusedVariables false
namespace Go.Av
open Go

theorem BlkOK.ext {C C' : Ctx} {b : Nat} {x : Blk} {H : Heap} (hs : StepExt C C') (hx : H.at b = x) (h : BlkOK C b x)
    (hk : ∀ cb, Owns C H b cb → C'.w.heap[cb]? = C.w.heap[cb]? ∧ C'.K cb = C.K cb) (hsz : C.w.heap.size ≤ C'.w.heap.size) (hτ : C'.τ b = C.τ b) : BlkOK C' b x := by
  cases x with
  | dead => trivial
  | row sz es =>
    obtain ⟨cb, base, g, h1, h2, h3, h4, h5, h6, h7, h8⟩ := h
    obtain ⟨k1, k2⟩ := hk cb (.row b sz es cb base hx h1)
    exact ⟨cb, base, g, hs.φ _ _ h1, Nat.lt_of_lt_of_le h2 hsz, by rw [k2, h3], h4, fun i j hi hj => by rw [World.cell?_of_block (w := C.w) (w' := C'.w) k1]; exact h5 i j hi hj,
      fun j => by rw [World.frozen?_of_block (w := C.w) (w' := C'.w) k1]; exact h6 j, h7, fun i j hi hj => (h8 i j hi hj).mono hs⟩
  | tok e =>
    refine ⟨fun e' he' => by rw [hτ]; exact h.1 e' he', ?_⟩
    rcases h.2 with h | ⟨cb, eo, ce, h1, h2, h3, h4⟩
    · exact .inl (hs.τ _ _ _ h)
    · obtain ⟨k1, k2⟩ := hk cb (.tok b e cb eo ce hx h1)
      exact .inr ⟨cb, eo, ce, hs.τ _ _ _ h1, Nat.lt_of_lt_of_le h2 hsz, by rw [k2, h3], fun j hj hj' => by
        rw [World.cell?_of_block (w := C.w) (w' := C'.w) k1, World.frozen?_of_block (w := C.w) (w' := C'.w) k1]; exact h4 j hj hj'⟩
  | mapb es =>
    obtain ⟨r, entries, clock, h1, h2, h3, h4, h5, h6⟩ := h
    obtain ⟨k1, k2⟩ := hk r (.map b es r hx h1)
    exact ⟨r, entries, clock, hs.φ _ _ h1, by rw [k1, h2], by rw [k2, h3], h4, fun i hi => (h5 i hi).mono hs.K hs.agree, fun i hi => (h6 i hi).mono hs.K hs.agree⟩

theorem Owns.back {C C' : Ctx} {H : Heap} (h : HRel C H) (hs : StepExt C C') {b cb : Nat} (ho : Owns C' H b cb) : Owns C H b cb := by
  cases ho with
  | row sz es _ base hb hφ =>
    obtain ⟨cb', base', g, h1, _⟩ := h.row b sz es hb
    have := hs.φ _ _ h1; rw [hφ] at this; cases this
    exact .row b sz es cb base hb h1
  | tok e _ eo ce hb hτ =>
    rcases (h.tok b e hb).2 with h1 | ⟨cb', eo', ce', h1, _⟩
    · have := hs.τ _ _ _ h1; rw [hτ] at this; cases this
    · have := hs.τ _ _ _ h1; rw [hτ] at this; cases this
      exact .tok b e cb eo ce hb h1
  | map es _ hb hφ =>
    obtain ⟨r, entries, clock, h1, _⟩ := h.map b es hb
    have := hs.φ _ _ h1; rw [hφ] at this; cases this
    exact .map b es cb hb h1

theorem Owns.put_ne {C : Ctx} {H : Heap} {n : Nat} {x : Blk} {b cb : Nat} (hne : b ≠ n) (ho : Owns C (H.put n x) b cb) : Owns C H b cb := by
  cases ho with
  | row sz es _ base hb hφ => rw [Heap.at_put_ne H n b x hne] at hb; exact .row b sz es cb base hb hφ
  | tok e _ eo ce hb hτ => rw [Heap.at_put_ne H n b x hne] at hb; exact .tok b e cb eo ce hb hτ
  | map es _ hb hφ => rw [Heap.at_put_ne H n b x hne] at hb; exact .map b es cb hb hφ

/-- one block is another one; all others are as they were -/
theorem HRel.change {C C' : Ctx} {H : Heap} (h : HRel C H) (hs : StepExt C C') (n : Nat) (x : Blk)
    (hk : ∀ b cb, b ≠ n → Owns C H b cb → C'.w.heap[cb]? = C.w.heap[cb]? ∧ C'.K cb = C.K cb) (hsz : C.w.heap.size ≤ C'.w.heap.size)
    (hdom : ∀ b, C'.K b ≠ 0 → b < C'.w.heap.size) (hτ : ∀ b, b ≠ n → C'.τ b = C.τ b) (hx : BlkOK C' n x) (hown : ∀ cb, Owns C' (H.put n x) n cb → ∀ b, b ≠ n → ¬ Owns C H b cb) : HRel C' (H.put n x) where
  blk := fun b => by
    by_cases hb : b = n
    · subst hb; rw [Heap.at_put_same]; exact hx
    · rw [Heap.at_put_ne H n b x hb]
      exact BlkOK.ext (H := H) hs rfl (h.blk b) (fun cb ho => hk b cb hb ho) hsz (hτ b hb)
  own := fun b b' cb hb hb' => by
    by_cases e : b = n
    · subst e
      by_cases e' : b' = b
      · exact e'.symm
      · exact absurd ((hb'.put_ne e').back h hs) (hown cb hb b' e')
    · by_cases e' : b' = n
      · subst e'
        exact absurd ((hb.put_ne e).back h hs) (hown cb hb' b e)
      · exact h.own b b' cb ((hb.put_ne e).back h hs) ((hb'.put_ne e').back h hs)
  dom := hdom

theorem HRel.K_size {C : Ctx} {H : Heap} (h : HRel C H) (n : Nat) (hn : C.w.heap.size ≤ n) : C.K n = 0 := by
  rcases Nat.eq_zero_or_pos (C.K n) with h0 | h0
  · exact h0
  · have := h.dom n (by omega); omega

theorem Agree.of_block {K : Nat → Nat} {w w' : World} (hk : SameKind w w') (h : ∀ b, K b ≠ 0 → w'.heap[b]? = w.heap[b]?) : Agree K w w' :=
  ⟨hk, fun b j v hj hv => by rw [World.cell?_of_block (w := w) (w' := w') (a := ⟨b, j, none⟩) (h b (by omega))]; exact hv, fun r es ck hr hm => by rw [h r hr]; exact hm⟩

/-- A new block of cells, of which the first 'k' are frozen (k = 0: a row of the call's own). -/
def Ctx.newRow (C : Ctx) (n sz : Nat) (w' : World) : Ctx := { C with φ := fun b => if b = n then some (C.w.heap.size, 0, sz) else C.φ b, w := w' }

theorem heap_alloc_lt (w : World) (o : Obj) (k : Nat) (h : k < w.heap.size) : (w.alloc o).heap[k]? = w.heap[k]? := by
  show (w.heap.push o)[k]? = _
  rw [Array.getElem?_push, if_neg (by omega)]
theorem heap_alloc_size (w : World) (o : Obj) : (w.alloc o).heap.size = w.heap.size + 1 := by
  show (w.heap.push o).size = _
  simp
theorem heap_alloc_at (w : World) (o : Obj) : (w.alloc o).heap[w.heap.size]? = some o := by
  show (w.heap.push o)[w.heap.size]? = _
  simp

theorem cell_alloc_new (w : World) (c : Array Value) (ty : TypeId) (j : Nat) : (w.alloc (.cells c ty)).cell? ⟨w.heap.size, j, none⟩ = c[j]? := by
  unfold World.cell?
  simp only [heap_alloc_at]
  rfl
theorem frozen_alloc_new (w : World) (c : Array Value) (ty : TypeId) (j : Nat) : (w.alloc (.cells c ty)).frozen? ⟨w.heap.size, j, none⟩ = false := by
  unfold World.frozen?
  simp only [heap_alloc_at]
  simp

/-- the world of a step that laid one new block; it may have drawn -/
structure Allocs (w w' : World) (o : Obj) : Prop where
  os : w'.os = w.os
  output : w'.output = w.output
  size : w'.heap.size = w.heap.size + 1
  old : ∀ k, k < w.heap.size → w'.heap[k]? = w.heap[k]?
  new : w'.heap[w.heap.size]? = some o

theorem Allocs.alloc (w : World) (o : Obj) : Allocs w (w.alloc o) o := ⟨rfl, rfl, heap_alloc_size w o, fun k hk => heap_alloc_lt w o k hk, heap_alloc_at w o⟩
theorem Allocs.drew (w : World) (o : Obj) : Allocs w (w.drew.alloc o) o := ⟨rfl, rfl, heap_alloc_size w.drew o, fun k hk => heap_alloc_lt w.drew o k hk, heap_alloc_at w.drew o⟩

theorem Allocs.cell {w w' : World} {c : Array Value} {ty : TypeId} {fr : Nat × Nat} (h : Allocs w w' (.cells c ty fr)) (j : Nat) : w'.cell? ⟨w.heap.size, j, none⟩ = c[j]? := by
  unfold World.cell?
  simp only [h.new]
  rfl
theorem Allocs.frozen {w w' : World} {c : Array Value} {ty : TypeId} {fr : Nat × Nat} (h : Allocs w w' (.cells c ty fr)) (j : Nat) : w'.frozen? ⟨w.heap.size, j, none⟩ = (decide (fr.1 ≤ j) && decide (j < fr.2)) := by
  unfold World.frozen?
  simp only [h.new]

theorem SameKind.of_heap {w w' : World} (hs : w.heap.size ≤ w'.heap.size) (h : ∀ k, k < w.heap.size → w'.heap[k]? = w.heap[k]?) : SameKind w w' := fun b hb => by
  refine ⟨Nat.lt_of_lt_of_le hb hs, ?_, fun j => ?_⟩
  · unfold World.shape?; rw [h b hb]
  · exact World.frozen?_of_block (w := w) (w' := w') (h b hb)
theorem Allocs.kind {w w' : World} {o : Obj} (h : Allocs w w' o) : SameKind w w' := .of_heap (by rw [h.size]; omega) h.old
theorem Allocs.plain {w w' : World} {c : Array Value} {ty : TypeId} {fr : Nat × Nat} (h : Allocs w w' (.cells c ty fr)) (hfr : fr.2 ≤ fr.1) : Plain w' w.heap.size :=
  ⟨by rw [h.size]; omega, fun j => by rw [h.frozen]; simp; omega⟩
theorem Allocs.shape {w w' : World} {c : Array Value} {ty : TypeId} {fr : Nat × Nat} (h : Allocs w w' (.cells c ty fr)) : w'.shape? w.heap.size = some (ty, c.size) := by
  unfold World.shape?
  rw [h.new]

theorem newRow_ok {C : Ctx} {H : Heap} (h : HRel C H) {n sz : Nat} (hd : H.at n = .dead) (hf : Fresh C n) {w' : World} {c : Array Value} {ty : TypeId} {fr : Nat × Nat} (ha : Allocs C.w w' (.cells c ty fr)) (hfr : fr.2 ≤ fr.1)
    (es : List (List AV)) (hes : ∀ x ∈ es, x.length = sz) (hsz : es.length * sz ≤ c.size)
    (hc : ∀ k, k < es.length * sz → (c.getD k undef).oneCell' = true)
    (hr : ∀ i j, i < es.length → j < sz → VRel C ((es.getD i []).getD j .junk) (c.getD (i * sz + j) undef)) :
    HRel (C.newRow n sz w') (H.put n (.row sz es)) ∧ StepExt C (C.newRow n sz w') ∧ Frame' C H (C.newRow n sz w') (H.put n (.row sz es)) ∧
      (∀ b, n ≠ b → (C.newRow n sz w').φ b = C.φ b ∧ (C.newRow n sz w').τ b = C.τ b) := by
  have hs : StepExt C (C.newRow n sz w') := by
    refine ⟨fun b x hx => ?_, fun _ _ _ h => h, fun _ => Nat.le_refl _, Agree.of_block ha.kind fun b hb => ha.old b (h.dom b hb)⟩
    show (if b = n then _ else C.φ b) = some x
    rw [if_neg (fun e => by subst e; rw [hf.1] at hx; cases hx)]; exact hx
  have hlt : ∀ {i j}, i < es.length → j < sz → i * sz + j < es.length * sz := fun {i j} hi hj => by
    have : (i + 1) * sz ≤ es.length * sz := Nat.mul_le_mul_right _ hi
    rw [Nat.add_mul] at this; omega
  have hblk : BlkOK (C.newRow n sz w') n (.row sz es) := by
    refine ⟨C.w.heap.size, 0, fun i j => c.getD (i * sz + j) undef, by simp [Ctx.newRow], by show _ < w'.heap.size; rw [ha.size]; omega, h.K_size _ (Nat.le_refl _), hes, fun i j hi hj => ?_, fun j => ?_, fun i j hi hj => ?_, fun i j hi hj => ?_⟩
    · show w'.cell? _ = _
      have := hlt hi hj
      rw [Nat.zero_add, ha.cell]
      simp [Array.getD, show i * sz + j < c.size by omega]
    · show w'.frozen? _ = _
      rw [ha.frozen]
      simp; omega
    · exact hc _ (hlt hi hj)
    · exact (hr i j hi hj).mono hs
  have hsize : C.w.heap.size ≤ (C.newRow n sz w').w.heap.size := by show _ ≤ w'.heap.size; rw [ha.size]; omega
  have hown : ∀ cb, Owns (C.newRow n sz w') (H.put n (.row sz es)) n cb → cb = C.w.heap.size := fun cb ho => by
    cases ho with
    | row sz' es' _ base hb hφ => simp [Ctx.newRow] at hφ; exact hφ.1.symm
    | tok e _ eo ce hb hτ => rw [Heap.at_put_same] at hb; cases hb
    | map es _ hb hφ => rw [Heap.at_put_same] at hb; cases hb
  refine ⟨h.change hs n _ (fun b cb hb ho => ⟨ha.old cb (h.owns_lt ho), rfl⟩) hsize (fun b hb => ?_) (fun _ _ => rfl) hblk (fun cb ho b hb ho' => ?_), hs, ⟨ha.os, ha.output, hsize, fun cb hcb _ => ⟨ha.old cb hcb, rfl⟩, fun b cb ho hcb => ?_⟩, fun b hb => ⟨?_, rfl⟩⟩
  · exact Nat.lt_of_lt_of_le (h.dom b hb) hsize
  · have := hown cb ho
    have := h.owns_lt ho'
    omega
  · by_cases e : b = n
    · subst e; have := hown cb ho; omega
    · exact ⟨b, (ho.put_ne e).back h hs⟩
  · show (if b = n then _ else C.φ b) = _
    rw [if_neg (Ne.symm hb)]
end Go.Av
/- Slices that are appended to: tokens. -/
set_option linter.unusedVariables false
namespace Go.Av
open Go

theorem frzL_length : ∀ {l r : List AV}, frzL l = some r → r.length = l.length
  | [], r, h => by simp [frzL] at h; subst h; rfl
  | a :: l, r, h => by
    simp only [frzL] at h
    split at h
    · split at h
      · rename_i r' hr; cases h; simp [frzL_length hr]
      · cases h
    · cases h

theorem frzL_get : ∀ {l r : List AV}, frzL l = some r → ∀ i, i < l.length → frz (l.getD i .junk) = some (r.getD i .junk)
  | [], r, h, i, hi => by simp at hi
  | a :: l, r, h, i, hi => by
    simp only [frzL] at h
    split at h
    · rename_i b hb
      split at h
      · rename_i r' hr
        cases h
        cases i with
        | zero => simpa using hb
        | succ i => simpa using frzL_get hr i (by simpa using hi)
      · cases h
    · cases h

theorem FRel.frz {K : Nat → Nat} {w : World} {a : AV} {v : Value} (h : FRel K w a v) : ∀ {a' : AV}, Av.frz a = some a' → FRel K w a' v := by
  induction h with
  | junk v => intro a' h; simp [Av.frz] at h; subst h; exact .junk v
  | bool b => intro a' h; simp [Av.frz] at h; subst h; exact .bool b
  | int k n => intro a' h; simp [Av.frz] at h; subst h; exact .int k n
  | str l s hs => intro a' h; simp [Av.frz] at h; subst h; exact .str l s hs
  | agg cs vs hl _ ih =>
    intro a' h
    simp only [Av.frz] at h
    split at h
    · rename_i r hr
      cases h
      have hlen := frzL_length hr
      exact .agg r vs (by omega) fun i hi => ih i (by omega) (frzL_get hr i (by omega))
    · cases h
  | tup cs vs hl _ ih =>
    intro a' h
    simp only [Av.frz] at h
    split at h
    · rename_i r hr
      cases h
      have hlen := frzL_length hr
      exact .tup r vs (by omega) fun i hi => ih i (by omega) (frzL_get hr i (by omega))
    · cases h
  | fsl0 sz a cap => intro a' h; simp [Av.frz] at h; subst h; exact .fsl0 sz a cap
  | fsl sz xs blk off cap g hK hcp hp hs hc ho hr _ => intro a' h; simp [Av.frz] at h; subst h; exact .fsl sz xs blk off cap g hK hcp hp hs hc ho hr
  | nsl sz => intro a' h; simp [Av.frz] at h; subst h; exact .fsl0 sz none 0
  | fptr cs blk off g hK hp hc ho hr _ => intro a' h; simp [Av.frz] at h; subst h; exact .fptr cs blk off g hK hp hc ho hr
  | nilp => intro a' h; simp [Av.frz] at h; subst h; exact .nilp
  | fn f first caps vf vc hf hc _ _ ih1 ih2 =>
    intro a' h
    simp only [Av.frz] at h
    split at h
    · rename_i r1 hr1
      split at h
      · rename_i r2 hr2
        cases h
        have h1 := frzL_length hr1
        have h2 := frzL_length hr2
        exact .fn f r1 r2 vf vc (by omega) (by omega) (fun i hi => ih1 i (by omega) (frzL_get hr1 i (by omega))) (fun i hi => ih2 i (by omega) (frzL_get hr2 i (by omega)))
      · cases h
    · cases h
  | nilfn => intro a' h; simp [Av.frz] at h; subst h; exact .nilfn
  | iface t a v _ ih =>
    intro a' h
    simp only [Av.frz] at h
    split at h
    · rename_i r hr; cases h; exact .iface t _ v (ih hr)
    · cases h
  | nilif => intro a' h; simp [Av.frz] at h; subst h; exact .nilif
  | fmap es r clock entries hK hr hl h1 h2 _ _ => intro a' h; simp [Av.frz] at h; subst h; exact .fmap es r clock entries hK hr hl h1 h2
  | nilmap => intro a' h; simp [Av.frz] at h; subst h; exact .nilmap

theorem VRel.frz {C : Ctx} {a : AV} {v : Value} (h : VRel C a v) : ∀ {a' : AV}, Av.frz a = some a' → FRel C.K C.w a' v := by
  induction h with
  | fro a v h => exact h.frz
  | agg cs vs hl _ ih =>
    intro a' h
    simp only [Av.frz] at h
    split at h
    · rename_i r hr
      cases h
      have hlen := frzL_length hr
      exact .agg r vs (by omega) fun i hi => ih i (by omega) (frzL_get hr i (by omega))
    · cases h
  | tup cs vs hl _ ih =>
    intro a' h
    simp only [Av.frz] at h
    split at h
    · rename_i r hr
      cases h
      have hlen := frzL_length hr
      exact .tup r vs (by omega) fun i hi => ih i (by omega) (frzL_get hr i (by omega))
    · cases h
  | fn f first caps vf vc hf hc _ _ ih1 ih2 =>
    intro a' h
    simp only [Av.frz] at h
    split at h
    · rename_i r1 hr1
      split at h
      · rename_i r2 hr2
        cases h
        have h1 := frzL_length hr1
        have h2 := frzL_length hr2
        exact .fn f r1 r2 vf vc (by omega) (by omega) (fun i hi => ih1 i (by omega) (frzL_get hr1 i (by omega))) (fun i hi => ih2 i (by omega) (frzL_get hr2 i (by omega)))
      · cases h
    · cases h
  | iface t a v _ ih =>
    intro a' h
    simp only [Av.frz] at h
    split at h
    · rename_i r hr; cases h; exact .iface t _ v (ih hr)
    · cases h
  | ptr b i j cb base sz h => intro a' h; simp [Av.frz] at h
  | row b off len sz cb base ccap cap h hc hcap => intro a' h; simp [Av.frz] at h
  | asl t e sz xs cb off eo ce ccap h hx he hc hce => intro a' h; simp [Av.frz] at h; subst h; exact hx
  | asl0 t e sz h => intro a' h; simp [Av.frz] at h; subst h; exact .fsl0 sz none 0
  | mapr b r h => intro a' h; simp [Av.frz] at h

/-- a solid value is so many cells -/
theorem VRel.oneCell {C : Ctx} {a : AV} {v : Value} (h : VRel C a v) (hs : a.isCell = true) : v.oneCell' = true := by
  cases h with
  | fro _ _ h => cases h <;> first | rfl | (simp [AV.isCell] at hs)
  | agg => simp [AV.isCell] at hs
  | tup => simp [AV.isCell] at hs
  | fn => rfl
  | iface => rfl
  | ptr => rfl
  | row => rfl
  | asl => rfl
  | asl0 => rfl
  | mapr => rfl

theorem VRel.cells {C : Ctx} {a : AV} {v : Value} (h : VRel C a v) (hs : a.solid = true) :
    v.cells.size = a.cells.length ∧ ∀ i, i < a.cells.length → (v.cells.getD i undef).oneCell' = true ∧ VRel C (a.cells.getD i .junk) (v.cells.getD i undef) := by
  by_cases ha : ∃ cs, a = .agg cs
  · obtain ⟨cs, rfl⟩ := ha
    have key : ∀ (vs : Array Value), cs.length = vs.size → (∀ i, i < cs.length → VRel C (cs.getD i .junk) (vs.getD i undef)) →
        vs.size = cs.length ∧ ∀ i, i < cs.length → (vs.getD i undef).oneCell' = true ∧ VRel C (cs.getD i .junk) (vs.getD i undef) := fun vs hl hr =>
      ⟨hl.symm, fun i hi => ⟨(hr i hi).oneCell (by
        have : cs.all AV.isCell = true := hs
        rw [List.getD_eq_getElem?_getD, List.getElem?_eq_getElem hi]
        exact List.all_eq_true.1 this _ (List.getElem_mem hi)), hr i hi⟩⟩
    cases h with
    | fro _ _ h =>
      cases h with
      | agg _ vs hl hr => exact key vs hl fun i hi => .fro _ _ (hr i hi)
    | agg _ vs hl hr => exact key vs hl hr
  · have h1 : a.cells = [a] := by cases a <;> first | rfl | exact absurd ⟨_, rfl⟩ ha
    have h2 : a.isCell = true := by cases a <;> first | exact hs | exact absurd ⟨_, rfl⟩ ha
    have h3 := h.oneCell h2
    have h4 : v.cells = #[v] := by cases v <;> first | rfl | (simp [Value.oneCell'] at h3)
    rw [h1, h4]
    refine ⟨rfl, fun i hi => ?_⟩
    have : i = 0 := by simp at hi; exact hi
    subst this
    exact ⟨h3, h⟩

/-! ### a new block, of which the first cells are frozen -/
def Ctx.newTok (C : Ctx) (n e : Nat) (w' : World) (eo ce : Nat) : Ctx :=
  { C with τ := fun b e' => if b = n ∧ e' = e then some (some (C.w.heap.size, eo, ce)) else C.τ b e', K := fun b => if b = C.w.heap.size then eo else C.K b, w := w' }

theorem newTok_ext {C : Ctx} {H : Heap} (h : HRel C H) {n e eo ce : Nat} (hf : C.τ n e = none) {w' : World} {c : Array Value} {ty : TypeId} {fr : Nat × Nat} (ha : Allocs C.w w' (.cells c ty fr)) :
    StepExt C (C.newTok n e w' eo ce) := by
  refine ⟨fun _ _ h => h, fun t e' x hx => ?_, fun b => ?_, Agree.of_block ha.kind fun b hb => ha.old b (h.dom b hb)⟩
  · show (if t = n ∧ e' = e then _ else C.τ t e') = some x
    rw [if_neg (fun hh => by obtain ⟨rfl, rfl⟩ := hh; rw [hf] at hx; cases hx)]; exact hx
  · show C.K b ≤ (if b = C.w.heap.size then eo else C.K b)
    split
    · rename_i hb; subst hb; rw [h.K_size _ (Nat.le_refl _)]; exact Nat.zero_le _
    · exact Nat.le_refl _

/-- the token is at e then: all blocks of the elder versions are frozen, and left -/
theorem newTok_ok {C : Ctx} {H : Heap} (h : HRel C H) {n e eo ce : Nat} (hff : ∀ e', e ≤ e' → C.τ n e' = none) {w' : World} {c : Array Value} {ty : TypeId} {fr : Nat × Nat} (ha : Allocs C.w w' (.cells c ty fr)) (hfr : fr.2 ≤ fr.1 ∨ c.size ≤ fr.1)
    (hce : ce ≤ c.size) : HRel (C.newTok n e w' eo ce) (H.put n (.tok e)) ∧ Frame' C H (C.newTok n e w' eo ce) (H.put n (.tok e)) := by
  have hf := hff e (Nat.le_refl _)
  have hs := newTok_ext (eo := eo) (ce := ce) h hf ha
  have hτ : (C.newTok n e w' eo ce).τ n e = some (some (C.w.heap.size, eo, ce)) := by simp [Ctx.newTok]
  have hsize : C.w.heap.size ≤ (C.newTok n e w' eo ce).w.heap.size := by show _ ≤ w'.heap.size; rw [ha.size]; omega
  have hown : ∀ cb, Owns (C.newTok n e w' eo ce) (H.put n (.tok e)) n cb → cb = C.w.heap.size := fun cb ho => by
    cases ho with
    | row sz' es' _ base hb hφ => rw [Heap.at_put_same] at hb; cases hb
    | tok e' _ eo' ce' hb hτ' => rw [Heap.at_put_same] at hb; cases hb; rw [hτ] at hτ'; cases hτ'; rfl
    | map es _ hb hφ => rw [Heap.at_put_same] at hb; cases hb
  have hKne : ∀ cb, cb < C.w.heap.size → (C.newTok n e w' eo ce).K cb = C.K cb := fun cb hcb => by
    show (if cb = C.w.heap.size then eo else C.K cb) = _
    rw [if_neg (by omega)]
  have hblk : BlkOK (C.newTok n e w' eo ce) n (.tok e) := by
    refine ⟨fun e' he' => ?_, .inr ⟨C.w.heap.size, eo, ce, hτ, by show _ < w'.heap.size; rw [ha.size]; omega, by simp [Ctx.newTok], fun j hj hj' => ⟨?_, ?_⟩⟩⟩
    · show (if n = n ∧ e' = e then _ else C.τ n e') = none
      rw [if_neg (by omega)]; exact hff e' (by omega)
    · show (w'.cell? _).isSome = true
      rw [ha.cell]; simp; omega
    · show w'.frozen? _ = _
      rw [ha.frozen]
      rcases hfr with hfr | hfr
      · simp; omega
      · simp; omega
  refine ⟨h.change hs n _ (fun b cb hb ho => ⟨ha.old cb (h.owns_lt ho), hKne cb (h.owns_lt ho)⟩) hsize (fun b hb => ?_) (fun b hb => ?_) hblk (fun cb ho b hb ho' => ?_), ⟨ha.os, ha.output, hsize, fun cb hcb _ => ⟨ha.old cb hcb, hKne cb hcb⟩, fun b cb ho hcb => ?_⟩⟩
  · by_cases e : b = C.w.heap.size
    · subst e; show _ < w'.heap.size; rw [ha.size]; omega
    · have : C.K b ≠ 0 := by
        have hh : (if b = C.w.heap.size then eo else C.K b) ≠ 0 := hb
        rwa [if_neg e] at hh
      exact Nat.lt_of_lt_of_le (h.dom b this) hsize
  · funext e'
    show (if b = n ∧ e' = e then _ else C.τ b e') = _
    rw [if_neg (fun hh => hb hh.1)]
  · have := hown cb ho
    have := h.owns_lt ho'
    omega
  · by_cases e : b = n
    · subst e; have := hown cb ho; omega
    · exact ⟨b, (ho.put_ne e).back h hs⟩

/-- what the first cells of the new block hold, read as frozen -/
theorem newTok_fsl {C : Ctx} {H : Heap} (h : HRel C H) {n e ce : Nat} (hf : C.τ n e = none) {w' : World} {c : Array Value} {ty : TypeId} {fr : Nat × Nat} (ha : Allocs C.w w' (.cells c ty fr)) {sz : Nat} (xs : List (List AV))
    (hxs : ∀ x ∈ xs, x.length = sz) (hsz : xs.length * sz ≤ c.size) (hc : ∀ k, k < xs.length * sz → (c.getD k undef).oneCell' = true)
    (hr : ∀ i j, i < xs.length → j < sz → FRel C.K C.w ((xs.getD i []).getD j .junk) (c.getD (i * sz + j) undef)) (cap : Nat) (hcp : xs.length ≤ cap) (hpl : 1 < sz → fr.2 ≤ fr.1) :
    FRel (C.newTok n e w' (xs.length * sz) ce).K w' (.fsl sz xs) (.slice (some ⟨C.w.heap.size, 0, none⟩) xs.length cap) := by
  have hs := newTok_ext (eo := xs.length * sz) (ce := ce) h hf ha
  have hlt : ∀ {i j}, i < xs.length → j < sz → i * sz + j < xs.length * sz := fun {i j} hi hj => by
    have : (i + 1) * sz ≤ xs.length * sz := Nat.mul_le_mul_right _ hi
    rw [Nat.add_mul] at this; omega
  refine .fsl sz xs C.w.heap.size 0 cap (fun i j => c.getD (i * sz + j) undef) (by simp [Ctx.newTok]) hcp (fun h => ha.plain (hpl h)) hxs (fun i j hi hj => ?_) (fun i j hi hj => hc _ (hlt hi hj)) (fun i j hi hj => (hr i j hi hj).mono hs.K hs.agree)
  have := hlt hi hj
  rw [Nat.zero_add, ha.cell]
  simp [Array.getD, show i * sz + j < c.size by omega]
end Go.Av
/- The operations that only compute. -/
set_option linter.unusedVariables false
namespace Go.Av
open Go

variable {P : Program} {T : Tys}

theorem vOk_pure {o : Oper} {env : Env} {H : Heap} {v : AV} {r : ORes} (hr : vOk v = some r)
    (h : ∀ (C : Ctx) (a : Act) (H2 : Heap), EnvOK C env a o.op.operands.toList → HRel C H2 → ∃ v', (execOp a.eval o).run P C.w = .ok (.value v') C.w ∧ VRel C v v') : OpSem P o env H r := by
  unfold vOk at hr; cases hr
  exact .pure rfl fun C a H2 henv hH _ _ => h C a H2 henv hH

theorem vIf_pure {o : Oper} {env : Env} {H : Heap} {p : Prop} {v : AV} {r : ORes} (hr : vIf p v = some r)
    (h : ∀ (C : Ctx) (a : Act) (H2 : Heap), EnvOK C env a o.op.operands.toList → HRel C H2 → p → ∃ v', (execOp a.eval o).run P C.w = .ok (.value v') C.w ∧ VRel C v v') : OpSem P o env H r := by
  unfold vIf at hr; cases hr
  exact .pure rfl fun C a H2 henv hH _ hp => h C a H2 henv hH (hp p rfl)

theorem sem_move {o : Oper} {x : Operand} {env : Env} {H : Heap} {r : ORes} {s : Nat} (ho : o.op = .move x ∨ o.op = .assign x) (h : vOk (env.ev s x) = some r) : OpSem P o env H r :=
  vOk_pure h fun C a H2 henv _ => ⟨a.eval x, by rcases ho with ho | ho <;> simp [execOp, ho], ev_rel henv _ x (by rcases ho with ho | ho <;> (rw [ho]; simp [Op.operands]))⟩

theorem i64max : IntKind.i64.max = 9223372036854775807 := by decide

theorem string_ext {s t : ByteArray} (h : s.data.toList = t.data.toList) : s = t := by
  cases s; cases t
  simp at h
  subst h; rfl

theorem toList_data (s : ByteArray) : s.toList = s.data.toList := by
  have key : ∀ (n i : Nat) (r : List UInt8), s.size - i = n → ByteArray.toList.loop s i r = r.reverse ++ s.data.toList.drop i := by
    intro n
    induction n with
    | zero =>
      intro i r hn
      unfold ByteArray.toList.loop
      have hsz : s.data.toList.length = s.size := Array.length_toList
      rw [if_neg (by omega), List.drop_eq_nil_of_le (by omega)]; simp
    | succ n ih =>
      intro i r hn
      unfold ByteArray.toList.loop
      have hi : i < s.size := by omega
      have hsz : s.data.toList.length = s.size := Array.length_toList
      rw [if_pos hi, ih (i + 1) _ (by omega)]
      have : s.data.toList.drop i = s.get! i :: s.data.toList.drop (i + 1) := by
        rw [List.drop_eq_getElem_cons (by omega)]
        congr 1
        simp [ByteArray.get!, Array.getElem!_eq_getD, Array.getD]
        intro h; omega
      rw [this]; simp
  have := key s.size 0 [] (by omega)
  simpa [ByteArray.toList] using this

theorem size_data (s : ByteArray) : s.size = s.data.toList.length := Array.length_toList.symm

theorem sem_aint {op : BinOp} {k : IntKind} {a b : Int} {r : ORes} (h : aint op k a b = some r) (hp : ∀ p, r.pre = some p → p) (t : TypeId) (w : World) (hne : op ≠ .shl ∧ op ≠ .shr) :
    r.wr = [] ∧ r.log = [] ∧ ∃ v, (binOp op t (.int k a) (.int k b)).run P w = .ok v w ∧ ∀ C : Ctx, VRel C r.v v := by
  unfold aint at h
  cases op <;> simp only [vOk, vIf, Option.some.injEq] at h
  case shl => exact absurd rfl hne.1
  case shr => exact absurd rfl hne.2
  all_goals
    subst h
    refine ⟨rfl, rfl, ?_⟩
  case add => exact ⟨_, by simp [binOp, Op.intArith], fun C => .fro _ _ (.int _ _)⟩
  case sub => exact ⟨_, by simp [binOp, Op.intArith], fun C => .fro _ _ (.int _ _)⟩
  case mul => exact ⟨_, by simp [binOp, Op.intArith], fun C => .fro _ _ (.int _ _)⟩
  case quo =>
    have := hp _ rfl
    exact ⟨_, by simp [binOp, Op.intDiv, this], fun C => .fro _ _ (.int _ _)⟩
  case rem =>
    have := hp _ rfl
    exact ⟨_, by simp [binOp, Op.intDiv, this], fun C => .fro _ _ (.int _ _)⟩
  case and => exact ⟨_, by simp [binOp, Op.intBits], fun C => .fro _ _ (.int _ _)⟩
  case or => exact ⟨_, by simp [binOp, Op.intBits], fun C => .fro _ _ (.int _ _)⟩
  case xor => exact ⟨_, by simp [binOp, Op.intBits], fun C => .fro _ _ (.int _ _)⟩
  case andNot => exact ⟨_, by simp [binOp, Op.intBits], fun C => .fro _ _ (.int _ _)⟩
  case eql => exact ⟨_, by simp [binOp, Op.intCmp], fun C => .fro _ _ (.bool _)⟩
  case neq => exact ⟨_, by simp [binOp, Op.intCmp], fun C => .fro _ _ (.bool _)⟩
  case lss => exact ⟨_, by simp [binOp, Op.intCmp], fun C => .fro _ _ (.bool _)⟩
  case leq => exact ⟨_, by simp [binOp, Op.intCmp], fun C => .fro _ _ (.bool _)⟩
  case gtr => exact ⟨_, by simp [binOp, Op.intCmp], fun C => .fro _ _ (.bool _)⟩
  case geq => exact ⟨_, by simp [binOp, Op.intCmp], fun C => .fro _ _ (.bool _)⟩

theorem sem_ashift {op : BinOp} {k k' : IntKind} {a b : Int} {r : ORes} (h : ashift op k a b = some r) (hp : ∀ p, r.pre = some p → p) (t : TypeId) (w : World) :
    r.wr = [] ∧ r.log = [] ∧ ∃ v, (binOp op t (.int k a) (.int k' b)).run P w = .ok v w ∧ ∀ C : Ctx, VRel C r.v v := by
  unfold ashift at h
  cases op <;> simp only [vIf, Option.some.injEq, reduceCtorEq] at h
  case shl =>
    subst h
    have := hp _ rfl
    have h2 : ¬ b < 0 := by simpa using this
    exact ⟨rfl, rfl, _, by simp [binOp, Op.shift, h2], fun C => .fro _ _ (.int _ _)⟩
  case shr =>
    subst h
    have := hp _ rfl
    have h2 : ¬ b < 0 := by simpa using this
    exact ⟨rfl, rfl, _, by simp [binOp, Op.shift, h2], fun C => .fro _ _ (.int _ _)⟩

theorem sem_astr {op : BinOp} {s1 s2 : ByteArray} {r : ORes} (h : astr op s1.data.toList s2.data.toList = some r) (hp : ∀ p, r.pre = some p → p) (t : TypeId) (w : World) :
    r.wr = [] ∧ r.log = [] ∧ ∃ v, (binOp op t (.string s1) (.string s2)).run P w = .ok v w ∧ ∀ C : Ctx, VRel C r.v v := by
  unfold astr at h
  cases op <;> simp only [vOk, vIf, Option.some.injEq, reduceCtorEq] at h
  all_goals
    subst h
    refine ⟨rfl, rfl, ?_⟩
  case add =>
    have := hp _ rfl
    have h2 : ¬ (((s1.size + s2.size : Nat) : Int) > IntKind.i64.max) := by
      rw [i64max, size_data, size_data]; omega
    refine ⟨.string (s1 ++ s2), by simp only [binOp, Op.stringOp]; rw [if_neg h2]; rfl, fun C => .fro _ _ (.str _ _ ?_)⟩
    simp
  all_goals exact ⟨_, by simp only [binOp, Op.stringOp, toList_data]; rfl, fun C => .fro _ _ (.bool _)⟩
end Go.Av
/- The operations that only compute, more. -/
set_option linter.unusedVariables false
namespace Go.Av
open Go

variable {P : Program} {T : Tys}

theorem FRel.fptr_some {K : Nat → Nat} {w : World} {cs : List AV} {v : Value} (h : FRel K w (.fptr cs) v) : ∃ blk off, v = .pointer (some ⟨blk, off, none⟩) := by
  cases h; exact ⟨_, _, rfl⟩

theorem VRel.fn_inv {C : Ctx} {f : Fn} {a b : List AV} {v : Value} (h : VRel C (.fn f a b) v) : ∃ (vf vc : Array Value), v = .func f vf vc ∧ a.length = vf.size ∧ b.length = vc.size ∧
    (∀ i, i < a.length → VRel C (a.getD i .junk) (vf.getD i undef)) ∧ (∀ i, i < b.length → VRel C (b.getD i .junk) (vc.getD i undef)) := by
  cases h with
  | fro _ _ h => cases h with | fn _ _ _ vf vc hf hc h1 h2 => exact ⟨vf, vc, rfl, hf, hc, fun i hi => .fro _ _ (h1 i hi), fun i hi => .fro _ _ (h2 i hi)⟩
  | fn _ _ _ vf vc hf hc h1 h2 => exact ⟨vf, vc, rfl, hf, hc, h1, h2⟩
theorem VRel.iface_inv {C : Ctx} {t : TypeId} {a : AV} {v : Value} (h : VRel C (.iface t a) v) : ∃ c, v = .iface t c ∧ VRel C a c := by
  cases h with
  | fro _ _ h => cases h with | iface _ _ c h => exact ⟨c, rfl, .fro _ _ h⟩
  | iface _ _ c h => exact ⟨c, rfl, h⟩
theorem VRel.nilif_inv {C : Ctx} {v : Value} (h : VRel C .nilif v) : v = .nilIface := by
  cases h with | fro _ _ h => cases h; rfl
theorem VRel.nilfn_inv {C : Ctx} {v : Value} (h : VRel C .nilfn v) : v = .nilFunc := by
  cases h with | fro _ _ h => cases h; rfl
theorem VRel.nilmap_inv {C : Ctx} {v : Value} (h : VRel C .nilmap v) : v = .map none := by
  cases h with | fro _ _ h => cases h; rfl
theorem VRel.mapr_inv {C : Ctx} {b : Nat} {v : Value} (h : VRel C (.mapr b) v) : ∃ r, v = .map (some r) ∧ C.φ b = some (r, 0, 0) := by
  cases h with
  | fro _ _ h => cases h
  | mapr _ r h => exact ⟨r, rfl, h⟩
theorem VRel.fmap_inv {C : Ctx} {es : List (AV × AV)} {v : Value} (h : VRel C (.fmap es) v) : ∃ r, v = .map (some r) := by
  cases h with | fro _ _ h => cases h; exact ⟨_, rfl⟩
theorem VRel.agg_inv {C : Ctx} {cs : List AV} {v : Value} (h : VRel C (.agg cs) v) : ∃ vs : Array Value, v = .agg vs ∧ cs.length = vs.size ∧ ∀ i, i < cs.length → VRel C (cs.getD i .junk) (vs.getD i undef) := by
  cases h with
  | fro _ _ h => cases h with | agg _ vs hl hr => exact ⟨vs, rfl, hl, fun i hi => .fro _ _ (hr i hi)⟩
  | agg _ vs hl hr => exact ⟨vs, rfl, hl, hr⟩
theorem VRel.tup_inv {C : Ctx} {cs : List AV} {v : Value} (h : VRel C (.tup cs) v) : ∃ vs : Array Value, v = .tuple vs ∧ cs.length = vs.size ∧ ∀ i, i < cs.length → VRel C (cs.getD i .junk) (vs.getD i undef) := by
  cases h with
  | fro _ _ h => cases h with | tup _ vs hl hr => exact ⟨vs, rfl, hl, fun i hi => .fro _ _ (hr i hi)⟩
  | tup _ vs hl hr => exact ⟨vs, rfl, hl, hr⟩

theorem equal_unfold (t : TypeId) (x y : Value) : Op.equal t x y = Op.equalIn (9999 + 1) t x y := rfl

/-- '==' and '!=' where the model's answer is told -/
def EqRuns (P : Program) (op : BinOp) (t : TypeId) (xo yo : Operand) (vx vy : Value) (r : Bool) : Prop :=
  ∀ w, (do eqGuard op t xo yo vx vy; binOp op t vx vy : Sem Value).run P w = .ok (.bool (if op = .eql then r else !r)) w

theorem EqRuns.of {t : TypeId} {xo yo : Operand} {vx vy : Value} {r : Bool} (h1 : ∀ w, (Op.equal t vx vy).run P w = .ok r w)
    (hg : ∀ (op : BinOp) w, (eqGuard op t xo yo vx vy).run P w = .ok () w) (hb : binOp .eql t vx vy = (do pure (.bool (← Op.equal t vx vy)) : Sem Value)) (hb' : binOp .neq t vx vy = (do pure (.bool (!(← Op.equal t vx vy))) : Sem Value))
    (op : BinOp) (hop : op = .eql ∨ op = .neq) : EqRuns P op t xo yo vx vy r := by
  intro w
  rcases hop with rfl | rfl
  · simp only [Sem.run_bind, hg, Result.andThen_ok, hb, h1]; rfl
  · simp only [Sem.run_bind, hg, Result.andThen_ok, hb', h1]; rfl

theorem eqGuard_plain {op : BinOp} {t : TypeId} {xo yo : Operand} {vx vy : Value} (h1 : ¬ (vx = .nilIface ∧ vy = .nilIface)) (h2 : ∀ a b, ¬ (vx = .agg a ∧ vy = .agg b)) (w : World) :
    (eqGuard op t xo yo vx vy).run P w = .ok () w := by
  have key : ∀ op : BinOp, op = .eql ∨ op = .neq → (eqGuard op t xo yo vx vy).run P w = .ok () w := by
    intro op hop
    rcases hop with rfl | rfl
    all_goals
      unfold eqGuard
      rw [if_neg (by decide)]
      split
      · exact absurd ⟨rfl, rfl⟩ h1
      · exact absurd ⟨rfl, rfl⟩ (h2 _ _)
      · rfl
  cases op <;> first | exact key _ (.inl rfl) | exact key _ (.inr rfl) | rfl

theorem eqGuard_nils {op : BinOp} {t : TypeId} {xo yo : Operand} {ms : Array (String × TypeId)} (hu : P.underlying t = some (.interface ms)) (h : isConst xo = true ∨ isConst yo = true ∨ ms.isEmpty = true) (w : World) :
    (eqGuard op t xo yo .nilIface .nilIface).run P w = .ok () w := by
  have hg : ms.isEmpty = true → (Op.eqGuardIn Op.maxDepth t .nilIface .nilIface).run P w = .ok false w := fun hb => by
    show (Op.eqGuardIn (9999 + 1) t .nilIface .nilIface).run P w = _
    rw [Op.eqGuardIn]
    simp only [Sem.run_bind, run_underlying hu, Result.andThen_ok, hb]
    rfl
  have key : ∀ op : BinOp, op = .eql ∨ op = .neq → (eqGuard op t xo yo .nilIface .nilIface).run P w = .ok () w := by
    intro op hop
    rcases hop with rfl | rfl
    all_goals
      unfold eqGuard
      rw [if_neg (by decide)]
      cases xo <;> cases yo <;> first | rfl | (have hb : ms.isEmpty = true := (h.resolve_left (by simp [isConst])).resolve_left (by simp [isConst]); simp [Sem.run_bind, hg hb])
  cases op <;> first | exact key _ (.inl rfl) | exact key _ (.inr rfl) | rfl

theorem sem_aeq {t : TypeId} {u : TypeDesc} (hu : P.underlying t = some u) {k : TyK} (hk : kindOK k u) {xo yo : Operand} {x y : AV} {r : Bool} (h : aeq k (isConst xo || isConst yo) x y = some r)
    {C : Ctx} {vx vy : Value} (hx : VRel C x vx) (hy : VRel C y vy) (op : BinOp) (hop : op = .eql ∨ op = .neq) : EqRuns P op t xo yo vx vy r := by
  unfold aeq at h
  split at h
  · -- bool
    split at h
    · cases h
      have e1 := hx.bool_inv; have e2 := hy.bool_inv
      subst e1; subst e2
      cases u <;> simp only [kindOK] at hk
      exact .of (fun w => by rw [equal_unfold, Op.equalIn]; simp only [Sem.run_bind, run_underlying hu, Result.andThen_ok]; rfl) (fun op w => eqGuard_plain (by simp) (by simp) w) rfl rfl op hop
    · cases h
  · -- nilp nilp
    split at h
    · cases h
      have e1 := hx.nilp_inv; have e2 := hy.nilp_inv
      subst e1; subst e2
      cases u <;> simp only [kindOK] at hk
      exact .of (fun w => by rw [equal_unfold, Op.equalIn]; simp only [Sem.run_bind, run_underlying hu, Result.andThen_ok]; rfl) (fun op w => eqGuard_plain (by simp) (by simp) w) rfl rfl op hop
    · cases h
  · split at h
    · cases h
      obtain ⟨cb, base, sz, _, e1⟩ := hx.ptr_inv; have e2 := hy.nilp_inv
      subst e1; subst e2
      cases u <;> simp only [kindOK] at hk
      exact .of (fun w => by rw [equal_unfold, Op.equalIn]; simp only [Sem.run_bind, run_underlying hu, Result.andThen_ok]; rfl) (fun op w => eqGuard_plain (by simp) (by simp) w) rfl rfl op hop
    · cases h
  · split at h
    · cases h
      obtain ⟨blk, off, e1⟩ := hx.fptr_inv.fptr_some; have e2 := hy.nilp_inv
      subst e1; subst e2
      cases u <;> simp only [kindOK] at hk
      exact .of (fun w => by rw [equal_unfold, Op.equalIn]; simp only [Sem.run_bind, run_underlying hu, Result.andThen_ok]; rfl) (fun op w => eqGuard_plain (by simp) (by simp) w) rfl rfl op hop
    · cases h
  · split at h
    · cases h
      obtain ⟨cb, base, sz, _, e1⟩ := hy.ptr_inv; have e2 := hx.nilp_inv
      subst e1; subst e2
      cases u <;> simp only [kindOK] at hk
      exact .of (fun w => by rw [equal_unfold, Op.equalIn]; simp only [Sem.run_bind, run_underlying hu, Result.andThen_ok]; rfl) (fun op w => eqGuard_plain (by simp) (by simp) w) rfl rfl op hop
    · cases h
  · split at h
    · cases h
      obtain ⟨blk, off, e1⟩ := hy.fptr_inv.fptr_some; have e2 := hx.nilp_inv
      subst e1; subst e2
      cases u <;> simp only [kindOK] at hk
      exact .of (fun w => by rw [equal_unfold, Op.equalIn]; simp only [Sem.run_bind, run_underlying hu, Result.andThen_ok]; rfl) (fun op w => eqGuard_plain (by simp) (by simp) w) rfl rfl op hop
    · cases h
  · -- nilif nilif
    split at h
    · rename_i bare
      split at h
      · rename_i hc
        cases h
        have e1 := hx.nilif_inv; have e2 := hy.nilif_inv
        subst e1; subst e2
        cases u <;> simp only [kindOK] at hk
        rename_i ms
        refine .of (fun w => by rw [equal_unfold, Op.equalIn]; simp only [Sem.run_bind, run_underlying hu, Result.andThen_ok]; rfl) (fun op w => ?_) rfl rfl op hop
        exact eqGuard_nils hu (by
          simp only [Bool.or_eq_true] at hc
          rcases hc with (hc | hc) | hc
          · exact .inl hc
          · exact .inr (.inl hc)
          · exact .inr (.inr (by rw [← hk]; exact hc))) w
      · cases h
    · cases h
  · split at h
    · cases h
      obtain ⟨c, e1, _⟩ := hx.iface_inv; have e2 := hy.nilif_inv
      subst e1; subst e2
      cases u <;> simp only [kindOK] at hk
      exact .of (fun w => by rw [equal_unfold, Op.equalIn]; simp only [Sem.run_bind, run_underlying hu, Result.andThen_ok]; rfl) (fun op w => eqGuard_plain (by simp) (by simp) w) rfl rfl op hop
    · cases h
  · split at h
    · cases h
      obtain ⟨c, e1, _⟩ := hy.iface_inv; have e2 := hx.nilif_inv
      subst e1; subst e2
      cases u <;> simp only [kindOK] at hk
      exact .of (fun w => by rw [equal_unfold, Op.equalIn]; simp only [Sem.run_bind, run_underlying hu, Result.andThen_ok]; rfl) (fun op w => eqGuard_plain (by simp) (by simp) w) rfl rfl op hop
    · cases h
  · split at h
    · cases h
      have e1 := hx.nsl_inv; have e2 := hy.nsl_inv
      subst e1; subst e2
      cases u <;> simp only [kindOK] at hk
      exact .of (fun w => by rw [equal_unfold, Op.equalIn]; simp only [Sem.run_bind, run_underlying hu, Result.andThen_ok]; rfl) (fun op w => eqGuard_plain (by simp) (by simp) w) rfl rfl op hop
    · cases h
  · split at h
    · cases h
      have e1 := hx.nsl_inv; obtain ⟨cb, base, cc, _, e2, _⟩ := hy.row_inv
      subst e1; subst e2
      cases u <;> simp only [kindOK] at hk
      exact .of (fun w => by rw [equal_unfold, Op.equalIn]; simp only [Sem.run_bind, run_underlying hu, Result.andThen_ok]; rfl) (fun op w => eqGuard_plain (by simp) (by simp) w) rfl rfl op hop
    · cases h
  · split at h
    · cases h
      have e1 := hy.nsl_inv; obtain ⟨cb, base, cc, _, e2, _⟩ := hx.row_inv
      subst e1; subst e2
      cases u <;> simp only [kindOK] at hk
      exact .of (fun w => by rw [equal_unfold, Op.equalIn]; simp only [Sem.run_bind, run_underlying hu, Result.andThen_ok]; rfl) (fun op w => eqGuard_plain (by simp) (by simp) w) rfl rfl op hop
    · cases h
  · split at h
    · cases h
      have e1 := hx.nilfn_inv; have e2 := hy.nilfn_inv
      subst e1; subst e2
      cases u <;> simp only [kindOK] at hk
      exact .of (fun w => by rw [equal_unfold, Op.equalIn]; simp only [Sem.run_bind, run_underlying hu, Result.andThen_ok]; rfl) (fun op w => eqGuard_plain (by simp) (by simp) w) rfl rfl op hop
    · cases h
  · split at h
    · cases h
      have e1 := hx.nilfn_inv; obtain ⟨vf, vc, e2, _⟩ := hy.fn_inv
      subst e1; subst e2
      cases u <;> simp only [kindOK] at hk
      exact .of (fun w => by rw [equal_unfold, Op.equalIn]; simp only [Sem.run_bind, run_underlying hu, Result.andThen_ok]; rfl) (fun op w => eqGuard_plain (by simp) (by simp) w) rfl rfl op hop
    · cases h
  · split at h
    · cases h
      have e1 := hy.nilfn_inv; obtain ⟨vf, vc, e2, _⟩ := hx.fn_inv
      subst e1; subst e2
      cases u <;> simp only [kindOK] at hk
      exact .of (fun w => by rw [equal_unfold, Op.equalIn]; simp only [Sem.run_bind, run_underlying hu, Result.andThen_ok]; rfl) (fun op w => eqGuard_plain (by simp) (by simp) w) rfl rfl op hop
    · cases h
  · split at h
    · cases h
      have e1 := hx.nilmap_inv; have e2 := hy.nilmap_inv
      subst e1; subst e2
      cases u <;> simp only [kindOK] at hk
      exact .of (fun w => by rw [equal_unfold, Op.equalIn]; simp only [Sem.run_bind, run_underlying hu, Result.andThen_ok]; rfl) (fun op w => eqGuard_plain (by simp) (by simp) w) rfl rfl op hop
    · cases h
  · split at h
    · cases h
      have e1 := hx.nilmap_inv; obtain ⟨q, e2, _⟩ := hy.mapr_inv
      subst e1; subst e2
      cases u <;> simp only [kindOK] at hk
      exact .of (fun w => by rw [equal_unfold, Op.equalIn]; simp only [Sem.run_bind, run_underlying hu, Result.andThen_ok]; rfl) (fun op w => eqGuard_plain (by simp) (by simp) w) rfl rfl op hop
    · cases h
  · split at h
    · cases h
      have e1 := hy.nilmap_inv; obtain ⟨q, e2, _⟩ := hx.mapr_inv
      subst e1; subst e2
      cases u <;> simp only [kindOK] at hk
      exact .of (fun w => by rw [equal_unfold, Op.equalIn]; simp only [Sem.run_bind, run_underlying hu, Result.andThen_ok]; rfl) (fun op w => eqGuard_plain (by simp) (by simp) w) rfl rfl op hop
    · cases h
  · split at h
    · cases h
      have e1 := hx.nilmap_inv; obtain ⟨q, e2⟩ := hy.fmap_inv
      subst e1; subst e2
      cases u <;> simp only [kindOK] at hk
      exact .of (fun w => by rw [equal_unfold, Op.equalIn]; simp only [Sem.run_bind, run_underlying hu, Result.andThen_ok]; rfl) (fun op w => eqGuard_plain (by simp) (by simp) w) rfl rfl op hop
    · cases h
  · split at h
    · cases h
      have e1 := hy.nilmap_inv; obtain ⟨q, e2⟩ := hx.fmap_inv
      subst e1; subst e2
      cases u <;> simp only [kindOK] at hk
      exact .of (fun w => by rw [equal_unfold, Op.equalIn]; simp only [Sem.run_bind, run_underlying hu, Result.andThen_ok]; rfl) (fun op w => eqGuard_plain (by simp) (by simp) w) rfl rfl op hop
    · cases h
  · cases h

theorem eqGuard_ints {op : BinOp} {t : TypeId} {xo yo : Operand} {k k' : IntKind} {a b : Int} (w : World) : (eqGuard op t xo yo (.int k a) (.int k' b)).run P w = .ok () w := eqGuard_plain (by simp) (by simp) w
theorem eqGuard_strs {op : BinOp} {t : TypeId} {xo yo : Operand} {a b : ByteArray} (w : World) : (eqGuard op t xo yo (.string a) (.string b)).run P w = .ok () w := eqGuard_plain (by simp) (by simp) w

theorem sem_binop (hT : TyOK P T) {o : Oper} {op : BinOp} {t yt : TypeId} {x y : Operand} {env : Env} {H : Heap} {r : ORes} {s1 s2 : Nat} (ho : o.op = .binOp op t x y yt)
    (h : abin T op t (isConst x || isConst y) (env.ev s1 x) (env.ev s2 y) = some r) : OpSem P o env H r := by
  have hex : ∀ a : Act, execOp a.eval o = (do pure (.value (← (do eqGuard op t x y (a.eval x) (a.eval y); binOp op t (a.eval x) (a.eval y))))) := fun a => by unfold execOp; rw [ho]
  have hmx : x ∈ o.op.operands.toList := by rw [ho]; simp [Op.operands]
  have hmy : y ∈ o.op.operands.toList := by rw [ho]; simp [Op.operands]
  unfold abin at h
  split at h
  · rename_i k a k' b hx hy
    have key : ∀ (rr : ORes), (∀ (p : ∀ p, rr.pre = some p → p) (t : TypeId) (w : World), rr.wr = [] ∧ rr.log = [] ∧ ∃ v, (binOp op t (.int k a) (.int k' b)).run P w = .ok v w ∧ ∀ C : Ctx, VRel C rr.v v) → rr.wr = [] → OpSem P o env H rr := by
      intro rr hh hw
      refine .pure hw fun C act H2 henv hH hlog hpre => ?_
      have e1 := (hx ▸ ev_rel henv s1 x hmx).int_inv
      have e2 := (hy ▸ ev_rel henv s2 y hmy).int_inv
      obtain ⟨_, _, v, hv, hr⟩ := hh hpre t C.w
      refine ⟨v, ?_, hr C⟩
      rw [hex act, e1, e2]
      simp only [Sem.run_bind, eqGuard_ints, Result.andThen_ok, hv]
      rfl
    split at h
    · refine key r (fun hp t w => sem_ashift h hp t w) ?_
      unfold ashift vIf at h
      simp at h; subst h; rfl
    · refine key r (fun hp t w => sem_ashift h hp t w) ?_
      unfold ashift vIf at h
      simp at h; subst h; rfl
    · rename_i h1 h2
      split at h
      · rename_i hk; subst hk
        refine key r (fun hp t w => sem_aint h hp t w ⟨fun e => h1 e, fun e => h2 e⟩) ?_
        unfold aint vOk vIf at h
        cases op <;> simp at h <;> (subst h; rfl)
      · cases h
  · rename_i a b hx hy
    have hw : r.wr = [] := by
      unfold astr vOk vIf at h
      cases op <;> simp at h <;> (subst h; rfl)
    refine .pure hw fun C act H2 henv hH hlog hpre => ?_
    obtain ⟨sa, e1, ea⟩ := (hx ▸ ev_rel henv s1 x hmx).str_inv
    obtain ⟨sb, e2, eb⟩ := (hy ▸ ev_rel henv s2 y hmy).str_inv
    subst ea; subst eb
    obtain ⟨_, _, v, hv, hr⟩ := sem_astr (P := P) h hpre t C.w
    refine ⟨v, ?_, hr C⟩
    rw [hex act, e1, e2]
    simp only [Sem.run_bind, eqGuard_strs, Result.andThen_ok, hv]
    rfl
  · split at h
    · cases h
    · rename_i d hd
      obtain ⟨i, z, u, hi, hs, hby, hz, hu, hk, hagg, _⟩ := hT.ok t d hd
      split at h
      · split at h
        · rename_i rr hrr
          refine vOk_pure h fun C act H2 henv hH => ?_
          have := sem_aeq hu hk hrr (ev_rel henv s1 x hmx) (ev_rel henv s2 y hmy) .eql (.inl rfl) C.w
          refine ⟨_, ?_, .fro _ _ (.bool _)⟩
          rw [hex act, Sem.run_bind, this]; rfl
        · cases h
      · split at h
        · rename_i rr hrr
          refine vOk_pure h fun C act H2 henv hH => ?_
          have := sem_aeq hu hk hrr (ev_rel henv s1 x hmx) (ev_rel henv s2 y hmy) .neq (.inr rfl) C.w
          refine ⟨_, ?_, .fro _ _ (.bool _)⟩
          rw [hex act, Sem.run_bind, this]; rfl
        · cases h
      · cases h
end Go.Av
/- The operations that only compute, the rest. -/
set_option linter.unusedVariables false
namespace Go.Av
open Go

variable {P : Program} {T : Tys}

theorem sem_unop {o : Oper} {op : UnOp} {t : TypeId} {x : Operand} {env : Env} {H : Heap} {r : ORes} (ho : o.op = .unOp op t x) (h : aun op (env.ev 0 x) = some r) : OpSem P o env H r := by
  have hex : ∀ a : Act, execOp a.eval o = (do pure (.value (← Op.unary op (a.eval x)))) := fun a => by unfold execOp; rw [ho]
  have hm : x ∈ o.op.operands.toList := by rw [ho]; simp [Op.operands]
  unfold aun at h
  split at h
  · rename_i b hx
    refine vOk_pure h fun C a H2 henv hH => ?_
    have e := (hx ▸ ev_rel henv 0 x hm).bool_inv
    exact ⟨.bool !b, by rw [hex, e]; rfl, .fro _ _ (.bool _)⟩
  · rename_i k n hx
    refine vOk_pure h fun C a H2 henv hH => ?_
    have e := (hx ▸ ev_rel henv 0 x hm).int_inv
    exact ⟨.int k (k.wrap (0 - n)), by rw [hex, e]; rfl, .fro _ _ (.int _ _)⟩
  · rename_i k n hx
    refine vOk_pure h fun C a H2 henv hH => ?_
    have e := (hx ▸ ev_rel henv 0 x hm).int_inv
    exact ⟨_, by rw [hex, e]; rfl, .fro _ _ (.int _ _)⟩
  · cases h

theorem sem_extract {o : Oper} {x : Operand} {i : Nat} {env : Env} {H : Heap} {r : ORes} (ho : o.op = .extract x i)
    (h : (match env.ev 0 x with | .tup vs => (match vs[i]? with | some v => vOk v | none => none) | _ => none) = some r) : OpSem P o env H r := by
  have hex : ∀ a : Act, execOp a.eval o = (do pure (.value (← Instr.extract (a.eval x) i))) := fun a => by unfold execOp; rw [ho]
  have hm : x ∈ o.op.operands.toList := by rw [ho]; simp [Op.operands]
  split at h
  · rename_i vs hx
    split at h
    · rename_i v hv
      refine vOk_pure h fun C a H2 henv hH => ?_
      obtain ⟨ws, e, hl, hr⟩ := (hx ▸ ev_rel henv 0 x hm).tup_inv
      have hi : i < vs.length := (List.getElem?_eq_some_iff.1 hv).1
      have hi' : i < ws.size := by omega
      refine ⟨ws[i], by rw [hex, e]; simp [Instr.extract, hi'], ?_⟩
      have := hr i hi
      rw [List.getD_eq_getElem?_getD, hv] at this
      simpa [Array.getD, hi'] using this
    · cases h
  · cases h

theorem sem_nilCheck {o : Oper} {x : Operand} {env : Env} {H : Heap} {r : ORes} (ho : o.op = .nilCheck x)
    (h : (match env.ev 0 x with | .ptr b i j => vOk (.ptr b i j) | .fptr cs => vOk (.fptr cs) | _ => none) = some r) : OpSem P o env H r := by
  have hm : x ∈ o.op.operands.toList := by rw [ho]; simp [Op.operands]
  split at h
  · rename_i b i j hx
    refine vOk_pure h fun C a H2 henv hH => ?_
    have hr := hx ▸ ev_rel henv 0 x hm
    obtain ⟨cb, base, sz, _, e⟩ := hr.ptr_inv
    exact ⟨a.eval x, by unfold execOp; rw [ho]; simp only [e]; rfl, hr⟩
  · rename_i cs hx
    refine vOk_pure h fun C a H2 henv hH => ?_
    have hr := hx ▸ ev_rel henv 0 x hm
    obtain ⟨blk, off, e⟩ := hr.fptr_inv.fptr_some
    exact ⟨a.eval x, by unfold execOp; rw [ho]; simp only [e]; rfl, hr⟩
  · cases h

theorem sem_makeInterface (hT : TyOK P T) {o : Oper} {t : TypeId} {x : Operand} {env : Env} {H : Heap} {r : ORes} {s : Nat} (ho : o.op = .makeInterface t x)
    (h : (match T t with
      | some d => (match d.kind with | .iface _ => none | .other => none | _ => vOk (.iface t (env.ev s x)))
      | none => none) = some r) : OpSem P o env H r := by
  have hex : ∀ a : Act, execOp a.eval o = (do pure (.value (← Instr.makeInterface t (a.eval x)))) := fun a => by unfold execOp; rw [ho]
  have hm : x ∈ o.op.operands.toList := by rw [ho]; simp [Op.operands]
  split at h
  · rename_i d hd
    obtain ⟨i, z, u, hi, hs, hby, hz, hu, hk, hagg, _⟩ := hT.ok t d hd
    have hne : ∀ ms, u ≠ .interface ms := by
      intro ms e
      subst e
      split at h
      · cases h
      · cases h
      · rename_i h1 h2
        cases hdk : d.kind <;> rw [hdk] at hk <;> simp only [kindOK] at hk
        · exact h1 _ hdk
        · exact h2 hdk
    split at h
    · cases h
    · cases h
    · refine vOk_pure h fun C a H2 henv hH => ⟨.iface t (a.eval x), ?_, .iface _ _ _ (ev_rel henv s x hm)⟩
      rw [hex]
      simp only [Instr.makeInterface, Sem.run_bind, run_underlying hu, Result.andThen_ok]
      cases u <;> first | rfl | exact absurd rfl (hne _)
  · cases h

theorem getD_map_ev {C : Ctx} {env : Env} {a : Act} {xs : Array Operand} {all : List Operand} (henv : EnvOK C env a all) (hsub : ∀ x ∈ xs, x ∈ all) :
    (xs.toList.map (env.ev 0)).length = (xs.map a.eval).size ∧ ∀ i, i < (xs.toList.map (env.ev 0)).length → VRel C ((xs.toList.map (env.ev 0)).getD i .junk) ((xs.map a.eval).getD i undef) := by
  refine ⟨by simp, fun i hi => ?_⟩
  have hi' : i < xs.size := by simpa using hi
  have h := ev_rel henv 0 xs[i] (hsub _ (Array.getElem_mem hi'))
  simpa [Array.getD, hi', List.getD_eq_getElem?_getD] using h

theorem sem_makeFunc {o : Oper} {f : Fn} {first caps : Array Operand} {env : Env} {H : Heap} {r : ORes} (ho : o.op = .makeFunc f first caps)
    (h : vOk (.fn f (first.toList.map (env.ev 0)) (caps.toList.map (env.ev 0))) = some r) : OpSem P o env H r := by
  refine vOk_pure h fun C a H2 henv hH => ?_
  have h1 := getD_map_ev (xs := first) henv (fun x hx => by rw [ho]; simp [Op.operands, hx])
  have h2 := getD_map_ev (xs := caps) henv (fun x hx => by rw [ho]; simp [Op.operands, hx])
  exact ⟨.func f (first.map a.eval) (caps.map a.eval), by unfold execOp; rw [ho]; rfl, .fn _ _ _ _ _ h1.1 h2.1 h1.2 h2.2⟩

theorem sem_index (hT : TyOK P T) {o : Oper} {t : TypeId} {x ix : Operand} {d : TyD} {env : Env} {H : Heap} {r : ORes} {k : IntKind} {i : Int} (ho : o.op = .index t x ix) (hd : T t = some d)
    (hi : env.ev 0 ix = .int k i) (h : aindex d (env.ev 0 x) i = some r) : OpSem P o env H r := by
  have hex : ∀ a : Act, execOp a.eval o = (do pure (.value (← Instr.index t (a.eval x) (a.eval ix)))) := fun a => by unfold execOp; rw [ho]
  have hm : x ∈ o.op.operands.toList := by rw [ho]; simp [Op.operands]
  have hm2 : ix ∈ o.op.operands.toList := by rw [ho]; simp [Op.operands]
  unfold aindex at h
  split at h
  · rename_i l hdk hx
    obtain ⟨ti, z, u, _, _, _, _, hu, hk, _⟩ := hT.ok t d hd
    rw [hdk] at hk
    cases u <;> simp only [kindOK] at hk
    refine vIf_pure h fun C a H2 henv hH hp => ?_
    obtain ⟨s, e, hs⟩ := (hx ▸ ev_rel henv 0 x hm).str_inv
    have e2 := (hi ▸ ev_rel henv 0 ix hm2).int_inv
    subst hs
    have hlt : i.toNat < s.data.toList.length := by omega
    have hlt' : i.toNat < s.size := by rw [size_data]; exact hlt
    refine ⟨.int .u8 ((s.data.toList.getD i.toNat 0).toNat), ?_, .fro _ _ (.int _ _)⟩
    rw [hex, e, e2]
    have hget : s[i.toNat]? = some (s.data.toList.getD i.toNat 0) := by
      rw [getElem?_pos s i.toNat hlt', List.getD_eq_getElem?_getD, List.getElem?_eq_getElem hlt]
      rfl
    simp only [Instr.index, asIntOf, Sem.run_bind, Sem.run_pure, Result.andThen_ok, run_underlying hu, if_pos hp.1, hget]
  · cases h

theorem sem_fieldAddr (hT : TyOK P T) {o : Oper} {t : TypeId} {x : Operand} {f : Nat} {d : TyD} {env : Env} {H : Heap} {r : ORes} (ho : o.op = .fieldAddr t x f) (hd : T t = some d)
    (h : afieldAddr T d f (env.ev 0 x) = some r) : OpSem P o env H r := by
  have hex : ∀ a : Act, execOp a.eval o = (do pure (.value (← Instr.fieldAt t (a.eval x) f))) := fun a => by unfold execOp; rw [ho]
  have hm : x ∈ o.op.operands.toList := by rw [ho]; simp [Op.operands]
  unfold afieldAddr at h
  split at h
  · rename_i fs hdk
    obtain ⟨ti, z, u, hti, hts, htb, htz, hu, hk, hrest⟩ := hT.ok t d hd
    rw [hdk] at hk
    cases u <;> simp only [kindOK] at hk
    next fields =>
    split at h
    · rename_i off ft hf
      split at h
      · rename_i df hdf
        obtain ⟨tf, zf, uf, hif, hsf, _⟩ := hT.ok ft df hdf
        have hfield : ∃ fd : Field, fields[f]? = some fd ∧ fd.offset = off ∧ fd.type = ft := by
          rw [hk, List.getElem?_map] at hf
          cases hq : fields.toList[f]? with
          | none => rw [hq] at hf; cases hf
          | some fd => rw [hq] at hf; simp at hf; exact ⟨fd, by simpa using hq, hf.1, hf.2⟩
        obtain ⟨fd, hfd, rfl, rfl⟩ := hfield
        split at h
        · cases h
        · rename_i hne
          have hrun : ∀ (w : World) (b o' : Nat), (Instr.fieldAt t (.pointer (some ⟨b, o', none⟩)) f).run P w = .ok (.pointer (some ⟨b, o' + fd.offset, none⟩)) w := fun w b o' => by
            have hsz : (sizeOf fd.type).run P w = .ok df.sz w := by simp [sizeOf, typeInfo, hif, hsf]
            simp only [Instr.fieldAt, Sem.run_bind, run_underlying hu, Result.andThen_ok, hfd, Instr.sureAddr, Sem.run_pure, fieldPlace, hsz, if_neg hne, Addr.add_mid]
          split at h
          · rename_i b i j hx
            refine vOk_pure h fun C a H2 henv hH => ?_
            obtain ⟨cb, base, sz, hφ, e⟩ := (hx ▸ ev_rel henv 0 x hm).ptr_inv
            refine ⟨.pointer (some ⟨cb, base + (i * sz + (j + fd.offset)), none⟩), ?_, .ptr b i (j + fd.offset) cb base sz hφ⟩
            rw [hex, e, Sem.run_bind, hrun]
            simp only [Result.andThen_ok, Sem.run_pure]
            rw [show base + (i * sz + j) + fd.offset = base + (i * sz + (j + fd.offset)) by omega]
          · rename_i cs hx
            split at h
            · rename_i hle
              refine vOk_pure h fun C a H2 henv hH => ?_
              have hr := (hx ▸ ev_rel henv 0 x hm).fptr_inv
              generalize hav : a.eval x = av at hr
              cases hr with
              | fptr _ blk off' g hK hp hc h1 hr =>
                refine ⟨.pointer (some ⟨blk, off' + fd.offset, none⟩), by rw [hex, hav, Sem.run_bind, hrun]; rfl, .fro _ _ (.fptr _ blk (off' + fd.offset) (fun j => g (fd.offset + j)) (by simp; omega) (fun h => hp (by simp at h; omega)) (fun j hj => ?_) (fun j hj => ?_) (fun j hj => ?_))⟩
                · have := hc (fd.offset + j) (by simp at hj; omega)
                  rw [← this]; congr 2; omega
                · exact h1 _ (by simp at hj; omega)
                · have := hr (fd.offset + j) (by simp at hj; omega)
                  simpa [List.getD_eq_getElem?_getD, List.getElem?_drop] using this
            · cases h
          · cases h
      · cases h
    · cases h
  · cases h
end Go.Av
/- Places of elements, slices, lengths, assertions. -/
set_option linter.unusedVariables false
namespace Go.Av
open Go

variable {P : Program} {T : Tys}

theorem run_sizeOf_of {t : TypeId} {i : TypeInfo} (hi : P.info? t = some i) (w : World) : (sizeOf t).run P w = .ok i.size w := by simp [sizeOf, typeInfo, hi]

theorem run_indexAt_sl {t e : TypeId} {i : TypeInfo} (hu : P.underlying t = some (.slice e)) (hi : P.info? e = some i) (a : Addr) (len cap : Nat) (k : IntKind) (n : Int) (h0 : 0 ≤ n) (h1 : n < len) (w : World) :
    (Instr.indexAt t (.slice (some a) len cap) (.int k n)).run P w = .ok (.pointer (some (a.add (n.toNat * i.size)))) w := by
  simp only [Instr.indexAt, asIntOf, Sem.run_bind, Sem.run_pure, Result.andThen_ok, run_underlying hu, if_pos (And.intro h0 h1), run_sizeOf_of hi]

theorem run_indexAt_ar {t e : TypeId} {m : Nat} {i : TypeInfo} (hu : P.underlying t = some (.array m e)) (hi : P.info? e = some i) (a : Addr) (k : IntKind) (n : Int) (h0 : 0 ≤ n) (h1 : n < m) (w : World) :
    (Instr.indexAt t (.pointer (some a)) (.int k n)).run P w = .ok (.pointer (some (a.add (n.toNat * i.size)))) w := by
  simp only [Instr.indexAt, asIntOf, Sem.run_bind, Sem.run_pure, Result.andThen_ok, run_underlying hu, if_pos (And.intro h0 h1), run_sizeOf_of hi, Instr.sureAddr]

theorem VRel.asl_inv {C : Ctx} {t e sz : Nat} {xs : List (List AV)} {v : Value} (h : VRel C (.asl t e sz xs) v) :
    (v = .slice none 0 0 ∧ xs = [] ∧ C.τ t e = some none) ∨ ∃ cb off eo ce ccap, C.τ t e = some (some (cb, eo, ce)) ∧ v = .slice (some ⟨cb, off, none⟩) xs.length ccap ∧ FRel C.K C.w (.fsl sz xs) v ∧
      off + xs.length * sz = eo ∧ xs.length ≤ ccap ∧ off + ccap * sz ≤ ce ∧ (1 < sz → Plain C.w cb) := by
  cases h with
  | fro _ _ h => cases h
  | asl _ _ _ _ cb off eo ce ccap h hx he hc hce hp => exact .inr ⟨cb, off, eo, ce, ccap, h, rfl, hx, he, hc, hce, hp⟩
  | asl0 _ _ _ h => exact .inl ⟨rfl, rfl, h⟩

/-- what a slice of frozen elements reads as, whether it may be appended to or not -/
theorem VRel.asl_fsl {C : Ctx} {t e sz : Nat} {xs : List (List AV)} {v : Value} (h : VRel C (.asl t e sz xs) v) : FRel C.K C.w (.fsl sz xs) v := by
  rcases h.asl_inv with ⟨rfl, rfl, _⟩ | ⟨cb, off, eo, ce, ccap, _, _, hx, _⟩
  · exact .fsl0 sz none 0
  · exact hx

theorem fsl_index {C : Ctx} {t e : TypeId} {i : TypeInfo} (hu : P.underlying t = some (.slice e)) (hi : P.info? e = some i) {xs : List (List AV)} {v : Value} (h : FRel C.K C.w (.fsl i.size xs) v) {k : IntKind} {n : Int} (h0 : 0 ≤ n) (h1 : n < (xs.length : Int)) :
    ∃ v', (Instr.indexAt t v (.int k n)).run P C.w = .ok v' C.w ∧ VRel C (.fptr (xs.getD n.toNat [])) v' := by
  obtain ⟨blk, off, cap, hv, hel⟩ := h.elem (i := n.toNat) (by omega)
  subst hv
  refine ⟨_, run_indexAt_sl hu hi _ _ _ k n h0 h1 C.w, .fro _ _ ?_⟩
  rw [Addr.add_mid]; exact hel

theorem sem_indexAddr (hT : TyOK P T) {o : Oper} {t : TypeId} {x ix : Operand} {d : TyD} {env : Env} {H : Heap} {r : ORes} {k : IntKind} {i : Int} (ho : o.op = .indexAddr t x ix) (hd : T t = some d)
    (hi : env.ev 0 ix = .int k i) (h : aindexAddr T d (env.ev 0 x) i = some r) : OpSem P o env H r := by
  have hex : ∀ a : Act, execOp a.eval o = (do pure (.value (← Instr.indexAt t (a.eval x) (a.eval ix)))) := fun a => by unfold execOp; rw [ho]
  have hm : x ∈ o.op.operands.toList := by rw [ho]; simp [Op.operands]
  have hm2 : ix ∈ o.op.operands.toList := by rw [ho]; simp [Op.operands]
  obtain ⟨ti, z, u, hti, hts, htb, htz, hu, hk, hrest⟩ := hT.ok t d hd
  unfold aindexAddr at h
  split at h
  · rename_i e hdk
    rw [hdk] at hk
    cases u <;> simp only [kindOK] at hk
    subst hk
    split at h
    · cases h
    · rename_i de hde
      obtain ⟨te, ze, ue, hie, hse, _⟩ := hT.ok _ de hde
      split at h
      · rename_i sz xs hx
        split at h
        · rename_i hsz; subst hsz
          refine vIf_pure h fun C a H2 henv hH hp => ?_
          have e2 := (hi ▸ ev_rel henv 0 ix hm2).int_inv
          have hf := (hx ▸ ev_rel henv 0 x hm).fsl_inv
          rw [← hse] at hf
          obtain ⟨v', h1, h2⟩ := fsl_index (k := k) hu hie hf hp.1 hp.2
          exact ⟨v', by rw [hex, e2, Sem.run_bind, h1]; rfl, h2⟩
        · cases h
      · rename_i t' e' sz xs hx
        split at h
        · rename_i hsz; subst hsz
          refine vIf_pure h fun C a H2 henv hH hp => ?_
          have e2 := (hi ▸ ev_rel henv 0 ix hm2).int_inv
          have hf := (hx ▸ ev_rel henv 0 x hm).asl_fsl
          rw [← hse] at hf
          obtain ⟨v', h1, h2⟩ := fsl_index (k := k) hu hie hf hp.1 hp.2
          exact ⟨v', by rw [hex, e2, Sem.run_bind, h1]; rfl, h2⟩
        · cases h
      · rename_i b off len cap sz hx
        split at h
        · rename_i hsz; subst hsz
          refine vIf_pure h fun C a H2 henv hH hp => ?_
          have e2 := (hi ▸ ev_rel henv 0 ix hm2).int_inv
          obtain ⟨cb, base, ccap, hφ, e1, _, _⟩ := (hx ▸ ev_rel henv 0 x hm).row_inv
          refine ⟨_, by rw [hex, e2, e1, Sem.run_bind, run_indexAt_sl hu hie _ _ _ k i hp.1 hp.2 C.w]; rfl, ?_⟩
          have := VRel.ptr (C := C) b (off + i.toNat) 0 cb base de.sz hφ
          rw [Addr.add_mid, hse]
          rwa [show base + off * de.sz + i.toNat * de.sz = base + ((off + i.toNat) * de.sz + 0) by rw [Nat.add_mul]; omega]
        · cases h
      · cases h
  · rename_i n e hdk
    rw [hdk] at hk
    cases u <;> simp only [kindOK] at hk
    obtain ⟨rfl, rfl⟩ := hk
    split at h
    · cases h
    · rename_i de hde
      obtain ⟨te, ze, ue, hie, hse, _⟩ := hT.ok _ de hde
      split at h
      · rename_i b k' j hx
        refine vIf_pure h fun C a H2 henv hH hp => ?_
        have e2 := (hi ▸ ev_rel henv 0 ix hm2).int_inv
        obtain ⟨cb, base, sz, hφ, e1⟩ := (hx ▸ ev_rel henv 0 x hm).ptr_inv
        refine ⟨_, by rw [hex, e2, e1, Sem.run_bind, run_indexAt_ar hu hie _ k i hp.1 hp.2 C.w]; rfl, ?_⟩
        have := VRel.ptr (C := C) b k' (j + i.toNat * de.sz) cb base sz hφ
        rw [Addr.add_mid, hse]
        rwa [show base + (k' * sz + j) + i.toNat * de.sz = base + (k' * sz + (j + i.toNat * de.sz)) by omega]
      · rename_i cs hx
        split at h
        · rename_i hle
          refine vIf_pure h fun C a H2 henv hH hp => ?_
          have e2 := (hi ▸ ev_rel henv 0 ix hm2).int_inv
          have hr := (hx ▸ ev_rel henv 0 x hm).fptr_inv
          generalize hav : a.eval x = av at hr
          cases hr with
          | fptr _ blk off' g hK hpl hc h1 hr =>
            have hlt : i.toNat * de.sz ≤ cs.length := by
              refine Nat.le_trans (Nat.mul_le_mul_right _ (by omega)) hle
            refine ⟨_, by rw [hex, e2, hav, Sem.run_bind, run_indexAt_ar hu hie _ k i hp.1 hp.2 C.w]; rfl, ?_⟩
            rw [Addr.add_mid, hse]
            refine .fro _ _ (.fptr _ blk (off' + i.toNat * de.sz) (fun j => g (i.toNat * de.sz + j)) (by simp; omega) (fun h => hpl (by simp at h; omega)) (fun j hj => ?_) (fun j hj => ?_) (fun j hj => ?_))
            · have := hc (i.toNat * de.sz + j) (by simp at hj; omega)
              rw [← this]; congr 2; omega
            · exact h1 _ (by simp at hj; omega)
            · have := hr (i.toNat * de.sz + j) (by simp at hj; omega)
              simpa [List.getD_eq_getElem?_getD, List.getElem?_drop] using this
        · cases h
      · cases h
  · cases h

theorem sem_field (hT : TyOK P T) {o : Oper} {t : TypeId} {x : Operand} {f : Nat} {d : TyD} {env : Env} {H : Heap} {r : ORes} (ho : o.op = .field t x f) (hd : T t = some d)
    (h : afield T d f (env.ev 0 x) = some r) : OpSem P o env H r := by
  have hex : ∀ a : Act, execOp a.eval o = (do pure (.value (← Instr.field t (a.eval x) f))) := fun a => by unfold execOp; rw [ho]
  have hm : x ∈ o.op.operands.toList := by rw [ho]; simp [Op.operands]
  obtain ⟨ti, z, u, hti, hts, htb, htz, hu, hk, hrest⟩ := hT.ok t d hd
  unfold afield at h
  split at h
  · rename_i cs hx
    split at h
    · rename_i fs hdk
      rw [hdk] at hk
      cases u <;> simp only [kindOK] at hk
      next fields =>
      split at h
      · rename_i off ft hf
        split at h
        · rename_i df hdf
          obtain ⟨tf, zf, uf, hif, hsf, hbf, hzf, huf, hkf, haggf, hzl, hzs, hzc, hza, hzn⟩ := hT.ok ft df hdf
          have hfield : ∃ fd : Field, fields[f]? = some fd ∧ fd.offset = off ∧ fd.type = ft := by
            rw [hk, List.getElem?_map] at hf
            cases hq : fields.toList[f]? with
            | none => rw [hq] at hf; cases hf
            | some fd => rw [hq] at hf; simp at hf; exact ⟨fd, by simpa using hq, hf.1, hf.2⟩
          obtain ⟨fd, hfd, rfl, rfl⟩ := hfield
          split at h
          · rename_i rr hrr
            split at h
            · rename_i v hv
              refine vOk_pure h fun C a H2 henv hH => ?_
              obtain ⟨vs, e, hl, hr⟩ := (hx ▸ ev_rel henv 0 x hm).agg_inv
              obtain ⟨hl2, hle, hget⟩ := takeN_spec hrr
              rw [List.length_drop] at hle
              have hrel := rel_ofCells (C := C) (g := fun k => vs.getD (fd.offset + k) undef) hv hl2 (fun k hk => by
                have h1 := hr (fd.offset + k) (by omega)
                rw [hget k hk]
                simpa [List.getD_eq_getElem?_getD, List.getElem?_drop] using h1)
              have hrun : (Instr.field t (.agg vs) f).run P C.w = .ok (if df.agg then .agg ((List.range df.sz).map fun k => vs.getD (fd.offset + k) undef).toArray else vs.getD (fd.offset + 0) undef) C.w := by
                cases hb : df.agg with
                | true =>
                  have hagg : (isAgg fd.type).run P C.w = .ok true C.w := by
                    unfold isAgg
                    rw [Sem.run_bind, run_underlying huf]
                    rw [hb] at haggf
                    cases uf <;> first | rfl | (simp [isAggD] at haggf)
                  simp only [Instr.field, Sem.run_bind, run_underlying hu, Result.andThen_ok, hfd, asAgg, Sem.run_pure, part, hagg, if_true, run_sizeOf_of hif, hsf]
                  congr 2
                  apply Array.ext
                  · simp; omega
                  · intro i h1 h2
                    simp at h1 h2
                    simp [Array.getD, show fd.offset + i < vs.size by omega]
                | false =>
                  have h1 := (hzn hb).1
                  have hagg : (isAgg fd.type).run P C.w = .ok false C.w := by
                    unfold isAgg
                    rw [Sem.run_bind, run_underlying huf]
                    rw [hb] at haggf
                    cases uf <;> first | rfl | (simp [isAggD] at haggf)
                  have hlt : fd.offset < vs.size := by omega
                  simp only [Instr.field, Sem.run_bind, run_underlying hu, Result.andThen_ok, hfd, asAgg, Sem.run_pure, part, hagg, Bool.false_eq_true, if_false, Array.getElem?_eq_getElem hlt, Nat.add_zero]
                  simp [Array.getD, hlt]
              exact ⟨_, by rw [hex, e, Sem.run_bind, hrun]; rfl, hrel⟩
            · cases h
          · cases h
        · cases h
      · cases h
    · cases h
  · cases h
end Go.Av
/- Slices of slices, lengths, assertions, composite values, conversions. -/
set_option linter.unusedVariables false
namespace Go.Av
open Go

variable {P : Program} {T : Tys}

/-- a bound of a slice expression -/
theorem optInt_rel {C : Ctx} {env : Env} {a : Act} {all : List Operand} (henv : EnvOK C env a all) {d n : Int} {lo : Option Operand} (hm : ∀ x, lo = some x → x ∈ all) (h : optInt d (lo.map (env.ev 0)) = some n) :
    (lo = none ∧ n = d) ∨ ∃ x k, lo = some x ∧ a.eval x = .int k n := by
  cases lo with
  | none => simp [optInt] at h; exact .inl ⟨rfl, h.symm⟩
  | some x =>
    simp only [Option.map_some] at h
    unfold optInt at h
    split at h
    · rename_i hh; cases hh
    · rename_i k m hh
      cases h
      simp at hh
      exact .inr ⟨x, k, rfl, (hh ▸ ev_rel henv 0 x (hm x rfl)).int_inv⟩
    · cases h

theorem run_bounds {isSlice : Bool} {len cap : Nat} {l h : Int} {lo hi : Option Value} (hlo : (lo = none ∧ l = 0) ∨ ∃ k, lo = some (.int k l)) (hhi : (hi = none ∧ h = len) ∨ ∃ k, hi = some (.int k h))
    (h0 : 0 ≤ l) (h1 : l ≤ h) (h2 : h ≤ (cap : Int)) (w : World) : (Instr.sliceBounds isSlice len cap lo hi none).run P w = .ok (l.toNat, h.toNat, cap) w := by
  have eh : (h.toNat : Int) = h := Int.toNat_of_nonneg (by omega)
  rcases hlo with ⟨rfl, rfl⟩ | ⟨kl, rfl⟩ <;> rcases hhi with ⟨rfl, rfl⟩ | ⟨kh, rfl⟩
  · simp [Instr.sliceBounds]
  · simp [Instr.sliceBounds, run_sliceBound (P := P) w kh h cap _ (by omega) h2]
  · simp [Instr.sliceBounds, run_sliceBound (P := P) w kl l len _ h0 (by omega)]
  · simp [Instr.sliceBounds, run_sliceBound (P := P) w kh h cap _ (by omega) h2, run_sliceBound (P := P) w kl l h.toNat _ h0 (by omega)]

theorem opt_map {a : Act} {d n : Int} {lo : Option Operand} (h : (lo = none ∧ n = d) ∨ ∃ x k, lo = some x ∧ a.eval x = .int k n) : (lo.map a.eval = none ∧ n = d) ∨ ∃ k, lo.map a.eval = some (.int k n) := by
  rcases h with ⟨rfl, rfl⟩ | ⟨x, k, rfl, e⟩
  · exact .inl ⟨rfl, rfl⟩
  · exact .inr ⟨k, by simp [e]⟩

/-- a part of a frozen slice -/
theorem fsl_part {K : Nat → Nat} {w : World} {sz : Nat} {xs : List (List AV)} {ad : Option Addr} {cap : Nat} (h : FRel K w (.fsl sz xs) (.slice ad xs.length cap)) (l h' : Nat) (hl : l ≤ h') (hh : h' ≤ xs.length) (hc : h' ≤ cap) (cap' : Nat) (hcap' : h' - l ≤ cap') :
    FRel K w (.fsl sz ((xs.take h').drop l)) (.slice (if cap = l then ad else ad.map (·.add (l * sz))) (h' - l) cap') := by
  have hlen : ((xs.take h').drop l).length = h' - l := by simp; omega
  by_cases he : h' - l = 0
  · have : (xs.take h').drop l = [] := List.eq_nil_of_length_eq_zero (by omega)
    rw [this, he]; exact .fsl0 sz _ _
  · generalize hv : (Value.slice ad xs.length cap) = v at h
    cases h with
    | fsl0 => simp at hh; omega
    | fsl _ _ blk off cp g hK hcp hp hs hcc ho hr =>
      cases hv
      rw [if_neg (by omega)]
      simp only [Option.map_some, Addr.add_mid]
      rw [← hlen]
      have hidx : ∀ i, i < ((xs.take h').drop l).length → ((xs.take h').drop l).getD i [] = xs.getD (l + i) [] := fun i hi => by
        simp only [List.getD_eq_getElem?_getD, List.getElem?_drop]
        rw [List.getElem?_take_of_lt (by omega)]
      refine .fsl sz _ blk (off + l * sz) cap' (fun i j => g (l + i) j) ?_ (by omega) hp (fun x hx => hs x (List.mem_of_mem_take (List.mem_of_mem_drop hx))) (fun i j hi hj => ?_) (fun i j hi hj => ho _ _ (by omega) hj) (fun i j hi hj => ?_)
      · have : (l + ((xs.take h').drop l).length) * sz ≤ xs.length * sz := Nat.mul_le_mul_right _ (by omega)
        rw [Nat.add_mul] at this; omega
      · have := hcc (l + i) j (by omega) hj
        rw [← this]; congr 2; rw [Nat.add_mul]; omega
      · rw [hidx i hi]; exact hr (l + i) j (by omega) hj

theorem run_slice_of {t e : TypeId} {i : TypeInfo} (hu : P.underlying t = some (.slice e)) (hi : P.info? e = some i) {ad : Option Addr} {len cap : Nat} {l h : Int} {lo hi' : Option Value}
    (hlo : (lo = none ∧ l = 0) ∨ ∃ k, lo = some (.int k l)) (hhi : (hi' = none ∧ h = len) ∨ ∃ k, hi' = some (.int k h)) (h0 : 0 ≤ l) (h1 : l ≤ h) (h2 : h ≤ (cap : Int)) (w : World) :
    (Instr.sliceAt t (.slice ad len cap) lo hi' none).run P w = .ok (.slice (if cap = l.toNat then ad else ad.map (·.add (l.toNat * i.size))) (h.toNat - l.toNat) (cap - l.toNat)) w := by
  simp only [Instr.sliceAt, Instr.slice, Sem.run_bind, run_underlying hu, Result.andThen_ok, run_bounds hlo hhi h0 h1 h2, run_sizeOf_of hi, Sem.run_pure]

theorem sem_slice_str (hT : TyOK P T) {o : Oper} {t : TypeId} {x : Operand} {lo hi : Option Operand} {d : TyD} {env : Env} {H : Heap} {r : ORes} {l : List UInt8} (ho : o.op = .slice t x lo hi none) (hd : T t = some d)
    (hk : d.kind = .str) (hx : env.ev 0 x = .str l) (h : aslice (.str l) (lo.map (env.ev 0)) (hi.map (env.ev 0)) = some r) : OpSem P o env H r := by
  have hex : ∀ a : Act, execOp a.eval o = (do pure (.value (← Instr.sliceAt t (a.eval x) (lo.map a.eval) (hi.map a.eval) none))) := fun a => by unfold execOp; rw [ho]; rfl
  have hm : x ∈ o.op.operands.toList := by rw [ho]; simp [Op.operands]
  have hml : ∀ y, lo = some y → y ∈ o.op.operands.toList := fun y hy => by rw [ho]; simp [Op.operands, hy]
  have hmh : ∀ y, hi = some y → y ∈ o.op.operands.toList := fun y hy => by rw [ho]; simp [Op.operands, hy]
  obtain ⟨ti, z, u, hti, hts, htb, htz, hu, hkk, hrest⟩ := hT.ok t d hd
  rw [hk] at hkk
  cases u <;> simp only [kindOK] at hkk
  simp only [aslice] at h
  split at h
  · rename_i aa bb ha hb
    refine vIf_pure h fun C a H2 henv hH hp => ?_
    obtain ⟨s, e, hs⟩ := (hx ▸ ev_rel henv 0 x hm).str_inv
    subst hs
    have e1 := opt_map (optInt_rel henv hml ha)
    have e2 := opt_map (optInt_rel henv hmh hb)
    rw [← size_data] at e2 hp
    refine ⟨.string (s.extract aa.toNat bb.toNat), ?_, .fro _ _ (.str _ _ ?_)⟩
    · rw [hex, e, Sem.run_bind]
      simp only [Instr.sliceAt, Instr.slice, Sem.run_bind, run_underlying hu, Result.andThen_ok, Option.isSome_none, Bool.false_eq_true, if_false, run_bounds e1 e2 hp.1 hp.2.1 hp.2.2, Sem.run_pure]
    · simp [ByteArray.extract, ByteArray.copySlice, List.drop_take]
  · cases h

theorem run_slice_step {o : Oper} {t : TypeId} {x : Operand} {lo hi : Option Operand} {a : Act} {w : World} {v v' : Value} (ho : o.op = .slice t x lo hi none) (e : a.eval x = v)
    (h : (Instr.sliceAt t v (lo.map a.eval) (hi.map a.eval) none).run P w = .ok v' w) : (execOp a.eval o).run P w = .ok (.value v') w := by
  unfold execOp; rw [ho]
  show (do let v ← Instr.sliceAt t (a.eval x) (lo.map a.eval) (hi.map a.eval) none; pure (Next.value v) : Sem Next).run P w = _
  rw [e, Sem.run_bind, h]; rfl

theorem sem_slice_sl (hT : TyOK P T) {o : Oper} {t e : TypeId} {x : Operand} {lo hi : Option Operand} {d de : TyD} {env : Env} {H : Heap} {r : ORes} {s : Nat} (ho : o.op = .slice t x lo hi none) (hd : T t = some d)
    (hk : d.kind = .slice e) (hde : T e = some de)
    (h : (match env.ev s x with
          | .fsl sz xs => if sz = de.sz then aslice (.fsl sz xs) (lo.map (env.ev 0)) (hi.map (env.ev 0)) else none
          | .asl t e sz xs => if sz = de.sz then aslice (.asl t e sz xs) (lo.map (env.ev 0)) (hi.map (env.ev 0)) else none
          | .nsl sz => aslice (.nsl sz) (lo.map (env.ev 0)) (hi.map (env.ev 0))
          | .row b off len cap sz => if sz = de.sz then aslice (.row b off len cap sz) (lo.map (env.ev 0)) (hi.map (env.ev 0)) else none
          | _ => none) = some r) : OpSem P o env H r := by
  have hm : x ∈ o.op.operands.toList := by rw [ho]; simp [Op.operands]
  have hml : ∀ y, lo = some y → y ∈ o.op.operands.toList := fun y hy => by rw [ho]; simp [Op.operands, hy]
  have hmh : ∀ y, hi = some y → y ∈ o.op.operands.toList := fun y hy => by rw [ho]; simp [Op.operands, hy]
  obtain ⟨ti, z, u, hti, hts, htb, htz, hu, hkk, hrest⟩ := hT.ok t d hd
  obtain ⟨te, ze, ue, hie, hse, _⟩ := hT.ok _ de hde
  rw [hk] at hkk
  cases u <;> simp only [kindOK] at hkk
  subst hkk
  have frozenCase : ∀ {sz : Nat} {xs : List (List AV)} {aa bb : Int}, sz = de.sz → optInt 0 (lo.map (env.ev 0)) = some aa → optInt xs.length (hi.map (env.ev 0)) = some bb →
      vIf (0 ≤ aa ∧ aa ≤ bb ∧ bb ≤ (xs.length : Int)) (.fsl sz ((xs.take bb.toNat).drop aa.toNat)) = some r →
      (∀ (C : Ctx) (a : Act), EnvOK C env a o.op.operands.toList → FRel C.K C.w (.fsl sz xs) (a.eval x) ∧ ∃ ad cap, a.eval x = .slice ad xs.length cap ∧ (xs.length ≤ cap ∨ ∃ c, c = cap ∧ xs.length ≤ c)) → OpSem P o env H r := by
    intro sz xs aa bb hsz ha hb hr hf
    refine vIf_pure hr fun C a H2 henv hH hp => ?_
    obtain ⟨hfr, ad, cap, e, hcap⟩ := hf C a henv
    have hcap' : xs.length ≤ cap := by rcases hcap with h | ⟨c, rfl, h⟩ <;> exact h
    have e1 := opt_map (optInt_rel henv hml ha)
    have e2 := opt_map (optInt_rel henv hmh hb)
    rw [e] at hfr
    refine ⟨_, run_slice_step ho e (run_slice_of hu hie e1 e2 hp.1 hp.2.1 (by omega) C.w), .fro _ _ ?_⟩
    rw [hse, ← hsz]
    exact fsl_part hfr aa.toNat bb.toNat (by omega) (by omega) (by omega) _ (by omega)
  split at h
  · rename_i sz xs hx
    split at h
    · rename_i hsz
      simp only [aslice] at h
      split at h
      · rename_i aa bb ha hb
        refine frozenCase hsz ha hb h fun C a henv => ?_
        have hr := (hx ▸ ev_rel henv s x hm).fsl_inv
        refine ⟨hr, ?_⟩
        generalize a.eval x = v at hr
        cases hr with
        | fsl0 _ ad cap => exact ⟨ad, cap, rfl, .inl (by simp)⟩
        | fsl _ _ blk off cap g hK hcp => exact ⟨_, cap, rfl, .inl hcp⟩
      · cases h
    · cases h
  · rename_i t' e' sz xs hx
    split at h
    · rename_i hsz
      simp only [aslice] at h
      split at h
      · rename_i hhi
        split at h
        · rename_i aa ha
          have hin : hi = none := by cases hi <;> simp_all
          subst hin
          refine vIf_pure h fun C a H2 henv hH hp => ?_
          have e1 := opt_map (optInt_rel henv hml ha)
          rcases (hx ▸ ev_rel henv s x hm).asl_inv with ⟨e, hxs, hτ⟩ | ⟨cb, off, eo, ce, ccap, hτ, e, hfr, heo, hcc, hce, hpl⟩
          · subst hxs; simp at hp; omega
          · refine ⟨_, run_slice_step ho e (run_slice_of (h := xs.length) hu hie e1 (.inl ⟨rfl, rfl⟩) hp.1 (by omega) (by omega) C.w), ?_⟩
            have hfr' := fsl_part (e ▸ hfr) aa.toNat xs.length (by omega) (Nat.le_refl _) hcc (ccap - aa.toNat) (by omega)
            rw [hse, ← hsz, if_neg (by omega)]
            simp only [Option.map_some, Addr.add_mid, Int.toNat_natCast]
            rw [List.take_length, if_neg (by omega)] at hfr'
            simp only [Option.map_some, Addr.add_mid] at hfr'
            have hl : (xs.drop aa.toNat).length = xs.length - aa.toNat := by simp
            have h1 : (xs.length - aa.toNat) * sz + aa.toNat * sz = xs.length * sz := by rw [← Nat.add_mul]; congr 1; omega
            have h2 : (ccap - aa.toNat) * sz + aa.toNat * sz = ccap * sz := by rw [← Nat.add_mul]; congr 1; omega
            rw [← hl] at hfr' ⊢
            exact .asl t' e' sz _ cb _ eo ce _ hτ hfr' (by rw [hl]; omega) (by rw [hl]; omega) (by omega) hpl
        · cases h
      · split at h
        · rename_i aa bb ha hb
          refine frozenCase hsz ha hb h fun C a henv => ?_
          have hr := (hx ▸ ev_rel henv s x hm)
          refine ⟨hr.asl_fsl, ?_⟩
          rcases hr.asl_inv with ⟨e, hxs, hτ⟩ | ⟨cb, off, eo, ce, ccap, hτ, e, hfr, heo, hcc, hce, hpl⟩
          · subst hxs; exact ⟨none, 0, e, .inl (by simp)⟩
          · exact ⟨_, ccap, e, .inl hcc⟩
        · cases h
    · cases h
  · rename_i sz hx
    simp only [aslice] at h
    split at h
    · rename_i aa bb ha hb
      refine vIf_pure h fun C a H2 henv hH hp => ?_
      obtain ⟨rfl, rfl⟩ := hp
      have e := (hx ▸ ev_rel henv s x hm).nsl_inv
      have e1 := opt_map (optInt_rel henv hml ha)
      have e2 := opt_map (optInt_rel henv hmh hb)
      refine ⟨_, run_slice_step ho e (run_slice_of (h := 0) (l := 0) hu hie e1 (by simpa using e2) (Int.le_refl _) (Int.le_refl _) (by simp) C.w), ?_⟩
      simpa using VRel.fro _ _ (FRel.nsl sz)
    · cases h
  · rename_i b off len cap sz hx
    split at h
    · rename_i hsz
      simp only [aslice] at h
      split at h
      · rename_i aa bb ha hb
        refine vIf_pure h fun C a H2 henv hH hp => ?_
        obtain ⟨cb, base, ccap, hφ, e, hlc, hcap, hcbl, he9, m9, hsh, hsp⟩ := (hx ▸ ev_rel henv s x hm).row_inv'
        have e1 := opt_map (optInt_rel henv hml ha)
        have e2 := opt_map (optInt_rel henv hmh hb)
        refine ⟨_, run_slice_step ho e (run_slice_of hu hie e1 e2 hp.1 hp.2.1 (by omega) C.w), ?_⟩
        have hadd : (if ccap = aa.toNat then (some ⟨cb, base + off * sz, none⟩ : Option Addr) else (some ⟨cb, base + off * sz, none⟩ : Option Addr).map (·.add (aa.toNat * de.sz))) = some ⟨cb, base + (off + aa.toNat) * sz, none⟩ := by
          rw [← hsz, Nat.add_mul]
          rcases hp.2.2.2 with h0 | h0
          · subst h0
            simp [Addr.add_mid]
          · rw [if_neg (by omega)]
            simp only [Option.map_some, Addr.add_mid]
            rw [Nat.add_assoc]
        rw [hse, hadd]
        have haa : aa.toNat ≤ ccap := by omega
        have hmul : base + (off + aa.toNat) * sz + (ccap - aa.toNat) * sz ≤ m9 := by
          rw [Nat.add_assoc, ← Nat.add_mul, show off + aa.toNat + (ccap - aa.toNat) = off + ccap by omega, Nat.add_mul, ← Nat.add_assoc]; exact hsp
        refine .row b _ _ sz cb base _ _ hφ (by omega) (fun c hc => ?_) ⟨hcbl, he9, m9, hsh, hmul⟩
        cases cap with
        | none => cases hc
        | some c0 => cases hc; rw [hcap c0 rfl]
      · cases h
    · cases h
  · cases h
end Go.Av
/- Lengths, assertions, composite values, conversions. -/
set_option linter.unusedVariables false
namespace Go.Av
open Go

variable {P : Program} {T : Tys}

theorem exec_builtin {o : Oper} {c : Call} {b : Builtin} (ho : o.op = .call c) (hb : c.callee = .builtin b) (a : Act) {w w' : World} {v : Value} {s : Sem Value}
    (hbi : ∀ consts, builtin b c.argTypes o.type consts (c.args.map a.eval) = (do pure (.value (← s)))) (h : s.run P w = .ok v w') : (execOp a.eval o).run P w = .ok (.value v) w' := by
  unfold execOp; rw [ho]
  simp only [resolve, hb, Sem.run_bind, Sem.run_pure, Result.andThen_ok, invoke]
  rw [hbi]
  simp only [Sem.run_bind, Sem.run_pure, Result.andThen_ok, h]

theorem fsl_len {K : Nat → Nat} {w : World} {sz : Nat} {xs : List (List AV)} {v : Value} (h : FRel K w (.fsl sz xs) v) : ∃ ad cap, v = .slice ad xs.length cap := by
  cases h with
  | fsl0 _ ad cap => exact ⟨ad, cap, rfl⟩
  | fsl _ _ blk off cap g => exact ⟨_, cap, rfl⟩

theorem run_len_sl {t e ty : TypeId} (hu : P.underlying t = some (.slice e)) (ad : Option Addr) (n cap : Nat) (w : World) : (Builtin.len_ #[t] ty #[.slice ad n cap]).run P w = .ok (.int .i64 n) w := by
  simp [Builtin.len_, run_underlying hu, goInt]

theorem sem_len (hT : TyOK P T) {o : Oper} {c : Call} {t : TypeId} {x : Operand} {d : TyD} {env : Env} {H : Heap} {r : ORes} {s : Nat} (ho : o.op = .call c) (hb : c.callee = .builtin .len) (hts : c.argTypes = #[t]) (hxs : c.args = #[x]) (hd : T t = some d)
    (h : (match alen d.kind (env.ev s x) with
        | some n => vOk (.int .i64 n)
        | none => none) = some r) : OpSem P o env H r := by
  have hm : x ∈ o.op.operands.toList := by rw [ho]; simp [Op.operands, Call.operands, hb, hxs]
  obtain ⟨ti, z, u, hti, hts', htb, htz, hu, hk, hrest⟩ := hT.ok t d hd
  have run : ∀ (a : Act) (w : World) (v : Value) (n : Int), a.eval x = v → (Builtin.len_ #[t] o.type #[v]).run P w = .ok (.int .i64 n) w → (execOp a.eval o).run P w = .ok (.value (.int .i64 n)) w := fun a w v n e hr =>
    exec_builtin ho hb a (s := Builtin.len_ #[t] o.type #[v]) (fun consts => by rw [hts, hxs]; simp only [List.map_toArray, List.map_cons, List.map_nil, e]; rfl) hr
  split at h
  · rename_i n hn
    refine vOk_pure h fun C a H2 henv hH => ?_
    have hr := ev_rel henv s x hm
    suffices hh : (Builtin.len_ #[t] o.type #[a.eval x]).run P C.w = .ok (.int .i64 n) C.w from ⟨_, run a C.w _ _ rfl hh, .fro _ _ (.int _ _)⟩
    unfold alen at hn
    split at hn
    · rename_i m e hdk
      cases hn
      rw [hdk] at hk
      cases u <;> simp only [kindOK] at hk
      obtain ⟨rfl, rfl⟩ := hk
      simp [Builtin.len_, run_underlying hu, goInt]
    · rename_i hdk
      rw [hdk] at hk
      cases u <;> simp only [kindOK] at hk
      split at hn
      · rename_i l hx
        cases hn
        obtain ⟨sb, e, hs⟩ := (hx ▸ hr).str_inv
        rw [e, ← hs, ← size_data]
        simp [Builtin.len_, run_underlying hu, goInt]
      · cases hn
    · rename_i e hdk
      rw [hdk] at hk
      cases u <;> simp only [kindOK] at hk
      split at hn
      · rename_i sz xs hx
        cases hn
        obtain ⟨ad, cap, e⟩ := fsl_len (hx ▸ hr).fsl_inv
        rw [e]; exact run_len_sl hu _ _ _ _
      · rename_i t' e' sz xs hx
        cases hn
        obtain ⟨ad, cap, e⟩ := fsl_len (hx ▸ hr).asl_fsl
        rw [e]; exact run_len_sl hu _ _ _ _
      · rename_i sz hx
        cases hn
        have e := (hx ▸ hr : VRel C (.nsl sz) (a.eval x)).nsl_inv
        rw [e]; exact run_len_sl hu _ _ _ _
      · rename_i b off len cap sz hx
        cases hn
        obtain ⟨cb, base, ccap, _, e, _⟩ := (hx ▸ hr).row_inv
        rw [e]; exact run_len_sl hu _ _ _ _
      · cases hn
    · rename_i k e hdk
      rw [hdk] at hk
      cases u <;> simp only [kindOK] at hk
      split at hn
      · rename_i hx
        cases hn
        have e := (hx ▸ hr : VRel C .nilmap (a.eval x)).nilmap_inv
        rw [e]
        simp [Builtin.len_, run_underlying hu, goInt]
      · rename_i es hx
        cases hn
        have hr' := hx ▸ hr
        cases hr' with
        | fro _ _ h' =>
          generalize hv : a.eval x = v at h'
          cases h' with
          | fmap _ r clock entries hK hm hl =>
            simp [Builtin.len_, run_underlying hu, goInt, getObj, Sem.run, hm, hl]
      · cases hn
    · cases hn
  · cases h

theorem ofCells_zero (hT : TyOK P T) {t : TypeId} {d : TyD} {z : AV} (hd : T t = some d) (hz : ofCells d d.zero = some z) (C : Ctx) : ∃ v, (∀ w, (zeroValue t).run P w = .ok v w) ∧ VRel C z v := by
  obtain ⟨i, zv, u, hi, hs, hby, hzv, hu, hk, hagg, hzl, hzs, hzc, hza, hzn⟩ := hT.ok t d hd
  refine ⟨zv, fun w => by simp [zeroValue, typeInfo, hi, hzv], ?_⟩
  have := rel_ofCells (C := C) (g := fun k => zv.cells.getD k undef) hz hzl (fun k hk => by
    obtain ⟨_, s, e⟩ := hzc k hk
    rw [e]; exact .fro _ _ (constAV_rel _ _ _ _))
  cases hb : d.agg with
  | true =>
    obtain ⟨cs, rfl⟩ := hza hb
    simp only [hb, if_true] at this
    have e : ((List.range d.sz).map fun k => (Value.agg cs).cells.getD k undef).toArray = cs := by
      have hcs : cs.size = d.sz := hzs
      apply Array.ext
      · simp [hcs]
      · intro k h1 h2
        simp [Value.cells, Array.getD, h2]
    rw [e] at this
    exact this
  | false =>
    obtain ⟨h1, h2⟩ := hzn hb
    simp only [hb, Bool.false_eq_true, if_false] at this
    have e : zv.cells = #[zv] := by cases zv <;> first | rfl | (simp [Value.oneCell'] at h2)
    rw [e] at this
    exact this

theorem sem_typeAssert (hT : TyOK P T) {o : Oper} {x : Operand} {xt t : TypeId} {ok : Bool} {env : Env} {H : Heap} {r : ORes} (ho : o.op = .typeAssert x xt t ok)
    (h : aassert T t ok (env.ev 0 x) = some r) : OpSem P o env H r := by
  have hex : ∀ a : Act, execOp a.eval o = (do pure (.value (← Instr.typeAssert (a.eval x) xt t ok))) := fun a => by unfold execOp; rw [ho]
  have hm : x ∈ o.op.operands.toList := by rw [ho]; simp [Op.operands]
  unfold aassert at h
  split at h
  · rename_i t' v hx
    split at h
    · rename_i d hd
      obtain ⟨ti, z, u, hti, hts', htb, htz, hu, hk, hrest⟩ := hT.ok t d hd
      split at h
      · cases h
      · cases h
      · rename_i hni hno
        have hne : ∀ ms, u ≠ .interface ms := by
          intro ms e
          subst e
          cases hdk : d.kind <;> rw [hdk] at hk <;> simp only [kindOK] at hk
          · exact hni _ hdk
          · exact hno hdk
        split at h
        · rename_i e; subst e
          refine vOk_pure h fun C a H2 henv hH => ?_
          obtain ⟨c, e, hc⟩ := (hx ▸ ev_rel henv 0 x hm).iface_inv
          cases ok
          · refine ⟨c, ?_, hc⟩
            rw [hex, e]
            simp only [Instr.typeAssert, Sem.run_bind, run_underlying hu, Result.andThen_ok]
            cases u <;> first | (simp; done) | exact absurd rfl (hne _)
          · refine ⟨.tuple #[c, .bool true], ?_, ?_⟩
            · rw [hex, e]
              simp only [Instr.typeAssert, Sem.run_bind, run_underlying hu, Result.andThen_ok]
              cases u <;> first | (simp; done) | exact absurd rfl (hne _)
            · refine .tup _ _ rfl fun i hi => ?_
              simp at hi
              rcases Nat.lt_or_ge i 1 with h1 | h1
              · have : i = 0 := by omega
                subst this; exact hc
              · have : i = 1 := by omega
                subst this; exact .fro _ _ (.bool _)
        · rename_i hne'
          split at h
          · rename_i hok
            subst hok
            split at h
            · rename_i z' hz'
              refine vOk_pure h fun C a H2 henv hH => ?_
              obtain ⟨c, e, hc⟩ := (hx ▸ ev_rel henv 0 x hm).iface_inv
              obtain ⟨zv, hzr, hzrel⟩ := ofCells_zero hT hd hz' C
              refine ⟨.tuple #[zv, .bool false], ?_, ?_⟩
              · rw [hex, e]
                simp only [Instr.typeAssert, Sem.run_bind, run_underlying hu, Result.andThen_ok]
                cases u <;> first | (simp [hne', hzr]; done) | exact absurd rfl (hne _)
              · refine .tup _ _ rfl fun i hi => ?_
                simp at hi
                rcases Nat.lt_or_ge i 1 with h1 | h1
                · have : i = 0 := by omega
                  subst this; exact hzrel
                · have : i = 1 := by omega
                  subst this; exact .fro _ _ (.bool _)
            · cases h
          · cases h
    · cases h
  · rename_i hx
    split at h
    · rename_i d hd
      obtain ⟨ti, z, u, hti, hts', htb, htz, hu, hk, hrest⟩ := hT.ok t d hd
      split at h
      · cases h
      · cases h
      · rename_i hni hno
        have hne : ∀ ms, u ≠ .interface ms := by
          intro ms e
          subst e
          cases hdk : d.kind <;> rw [hdk] at hk <;> simp only [kindOK] at hk
          · exact hni _ hdk
          · exact hno hdk
        split at h
        · rename_i hok
          subst hok
          split at h
          · rename_i z' hz'
            refine vOk_pure h fun C a H2 henv hH => ?_
            have e := (hx ▸ ev_rel henv 0 x hm).nilif_inv
            obtain ⟨zv, hzr, hzrel⟩ := ofCells_zero hT hd hz' C
            refine ⟨.tuple #[zv, .bool false], ?_, ?_⟩
            · rw [hex, e]
              simp only [Instr.typeAssert, Sem.run_bind, run_underlying hu, Result.andThen_ok]
              cases u <;> first | (simp [hzr]; done) | exact absurd rfl (hne _)
            · refine .tup _ _ rfl fun i hi => ?_
              simp at hi
              rcases Nat.lt_or_ge i 1 with h1 | h1
              · have : i = 0 := by omega
                subst this; exact hzrel
              · have : i = 1 := by omega
                subst this; exact .fro _ _ (.bool _)
          · cases h
        · cases h
    · cases h
  · cases h
end Go.Av
/- Composite values; conversions. -/
set_option linter.unusedVariables false
namespace Go.Av
open Go

variable {P : Program} {T : Tys}

theorem foldl_set_spec : ∀ (L : List Value) (n off : Nat) (a : Array Value), off + n + L.length ≤ a.size →
    ((L.zipIdx n).foldl (fun cs (p : Value × Nat) => cs.setIfInBounds (off + p.2) p.1) a).size = a.size ∧
    ∀ k, ((L.zipIdx n).foldl (fun cs (p : Value × Nat) => cs.setIfInBounds (off + p.2) p.1) a).getD k undef = if off + n ≤ k ∧ k < off + n + L.length then L.getD (k - (off + n)) undef else a.getD k undef
  | [], n, off, a, h => ⟨rfl, fun k => by simp; intro h1 h2; omega⟩
  | c :: L, n, off, a, h => by
    simp only [List.zipIdx_cons, List.foldl_cons]
    simp only [List.length_cons] at h ⊢
    obtain ⟨h1, h2⟩ := foldl_set_spec L (n + 1) off (a.setIfInBounds (off + n) c) (by simp; omega)
    refine ⟨by rw [h1]; simp, fun k => ?_⟩
    rw [h2 k]
    by_cases hk : k = off + n
    · subst hk
      rw [if_neg (by omega), if_pos (by omega)]
      simp [Array.getD, show off + n < a.size by omega]
    · by_cases hin : off + (n + 1) ≤ k ∧ k < off + (n + 1) + L.length
      · rw [if_pos hin, if_pos (by omega), show k - (off + n) = (k - (off + (n + 1))) + 1 by omega]
        simp
      · rw [if_neg hin, if_neg (by omega)]
        have : off + n ≠ k := fun e => hk e.symm
        simp only [Array.getD_eq_getD_getElem?, Array.getElem?_setIfInBounds_ne this]

/-- cells that are related one by one -/
def CellsRel (C : Ctx) (cs : List AV) (a : Array Value) : Prop := cs.length = a.size ∧ ∀ i, i < cs.length → (a.getD i undef).oneCell' = true ∧ VRel C (cs.getD i .junk) (a.getD i undef)

theorem fill_rel {C : Ctx} {place : Nat → Option (Nat × Nat)} : ∀ (ps : List (Nat × AV)) (vs : List (Nat × Value)) (cs cs' : List AV) (a : Array Value), afill place cs ps = some cs' → CellsRel C cs a →
    ps.length = vs.length → (∀ k, k < ps.length → (ps.getD k (0, .junk)).1 = (vs.getD k (0, undef)).1 ∧ VRel C (ps.getD k (0, .junk)).2 (vs.getD k (0, undef)).2) → ∃ a', Instr.fill place a vs = some a' ∧ CellsRel C cs' a'
  | [], [], cs, cs', a, h, hr, _, _ => by simp [afill] at h; subst h; exact ⟨a, rfl, hr⟩
  | (i, x) :: ps, (i', v) :: vs, cs, cs', a, h, hr, hl, hp => by
    have h0 := hp 0 (by simp)
    simp at h0
    obtain ⟨rfl, hv⟩ := h0
    simp only [afill] at h
    split at h
    · cases h
    · rename_i off sz hpl
      split at h
      · rename_i hc
        simp only [Bool.and_eq_true, beq_iff_eq] at hc
        split at h
        · rename_i cs1 hs
          obtain ⟨s1, s2, s3, s4⟩ := splice_spec hs
          obtain ⟨c1, c2⟩ := hv.cells hc.1
          have hoff : off + v.cells.size ≤ a.size := by rw [c1, ← hr.1]; exact s2
          obtain ⟨f1, f2⟩ := foldl_set_spec v.cells.toList 0 off a (by simpa using hoff)
          have hfold : v.cells.zipIdx.foldl (fun cs (p : Value × Nat) => cs.setIfInBounds (off + p.2) p.1) a = (v.cells.toList.zipIdx 0).foldl (fun cs (p : Value × Nat) => cs.setIfInBounds (off + p.2) p.1) a := by
            rw [← Array.foldl_toList]; simp
          have hrel : CellsRel C cs1 (v.cells.zipIdx.foldl (fun cs (p : Value × Nat) => cs.setIfInBounds (off + p.2) p.1) a) := by
            rw [hfold]
            refine ⟨by rw [f1, s1]; exact hr.1, fun k hk => ?_⟩
            rw [f2 k]
            simp only [Nat.add_zero, Array.length_toList]
            split
            · rename_i hin
              have hlt : k - off < x.cells.length := by omega
              have := s3 (k - off) hlt
              rw [show off + (k - off) = k by omega] at this
              rw [this]
              have h2 := c2 (k - off) hlt
              have e : v.cells.toList.getD (k - off) undef = v.cells.getD (k - off) undef := by
                simp [List.getD_eq_getElem?_getD, Array.getD_eq_getD_getElem?]
              rw [e]; exact h2
            · rename_i hout
              rw [s4 k (by omega)]
              exact hr.2 k (by omega)
          obtain ⟨a', ha', hr'⟩ := fill_rel ps vs cs1 cs' _ h hrel (by simpa using hl) (fun k hk => by have := hp (k + 1) (by simpa using hk); simpa using this)
          refine ⟨a', ?_, hr'⟩
          simp only [Instr.fill, hpl]
          rw [if_neg (by simp; exact ⟨by omega, by omega⟩)]
          exact ha'
        · cases h
      · cases h
  | [], _ :: _, _, _, _, _, _, hl, _ => by simp at hl
  | _ :: _, [], _, _, _, _, _, hl, _ => by simp at hl

theorem zero_cells (hT : TyOK P T) {t : TypeId} {d : TyD} (hd : T t = some d) : ∃ z : Value, (∀ w, (zeroValue t).run P w = .ok z w) ∧ ∀ C, CellsRel C d.zero z.cells := by
  obtain ⟨i, zv, u, hi, hs, hby, hzv, hu, hk, hagg, hzl, hzs, hzc, hza, hzn⟩ := hT.ok t d hd
  refine ⟨zv, fun w => by simp [zeroValue, typeInfo, hi, hzv], fun C => ⟨by rw [hzl, hzs], fun k hk => ?_⟩⟩
  obtain ⟨h1, s, e⟩ := hzc k (by omega)
  exact ⟨h1, by rw [e]; exact .fro _ _ (constAV_rel _ _ _ _)⟩

theorem mapM_pure (fs : List Go.Field) (g : Go.Field → Nat) (w : World) (h : ∀ f ∈ fs, (sizeOf f.type).run P w = .ok (g f) w) :
    (fs.mapM fun f => (do pure (f.offset, ← sizeOf f.type) : Sem (Nat × Nat))).run P w = .ok (fs.map fun f => (f.offset, g f)) w := by
  induction fs with
  | nil => rfl
  | cons f fs ih =>
    simp only [List.mapM_cons, Sem.run_bind, h f (by simp), Result.andThen_ok, Sem.run_pure, ih (fun f hf => h f (by simp [hf])), List.map_cons]

theorem sem_build (hT : TyOK P T) {o : Oper} {t : TypeId} {parts : Array (Nat × Operand)} {d : TyD} {fs : List (Nat × Nat)} {env : Env} {H : Heap} {r : ORes} {hint : Nat → Nat} (ho : o.op = .build t parts) (hd : T t = some d)
    (hk : d.kind = .struct fs) (hfs : FieldsOK T fs = true)
    (h : (match afill (fun i => match fs[i]? with
          | some (off, ft) => (match T ft with
            | some df => some (off, df.sz)
            | none => none)
          | none => none) d.zero (parts.toList.map fun p => (p.1, env.ev (hint p.1) p.2)) with
        | some cs => vOk (.agg cs)
        | none => none) = some r) : OpSem P o env H r := by
  have hex : ∀ a : Act, execOp a.eval o = (do pure (.value (← Instr.build t (parts.map fun (i, x) => (i, a.eval x))))) := fun a => by unfold execOp; rw [ho]
  obtain ⟨ti, z, u, hti, hts', htb, htz, hu, hkk, hrest⟩ := hT.ok t d hd
  rw [hk] at hkk
  cases u <;> simp only [kindOK] at hkk
  next fields =>
  split at h
  · rename_i cs hcs
    refine vOk_pure h fun C a H2 henv hH => ?_
    obtain ⟨zv, hzr, hzrel⟩ := zero_cells hT hd
    have hsz : ∀ f ∈ fields.toList, (sizeOf f.type).run P C.w = .ok (match T f.type with | some df => df.sz | none => 0) C.w := fun f hf => by
      have : (f.offset, f.type) ∈ fs := by rw [hkk]; exact List.mem_map.2 ⟨f, hf, rfl⟩
      have := List.all_eq_true.1 hfs _ this
      cases hq : T f.type with
      | none => simp [hq] at this
      | some df =>
        obtain ⟨tf, zf, uf, hif, hsf, _⟩ := hT.ok _ df hq
        rw [run_sizeOf_of hif, hsf]
    have hplaces : (fields.mapM fun f => (do pure (f.offset, ← sizeOf f.type) : Sem (Nat × Nat))).run P C.w = .ok (fields.map fun f => (f.offset, match T f.type with | some df => df.sz | none => 0)) C.w := by
      have e : (fields.mapM fun f => (do pure (f.offset, ← sizeOf f.type) : Sem (Nat × Nat))) = List.toArray <$> (fields.toList.mapM fun f => (do pure (f.offset, ← sizeOf f.type) : Sem (Nat × Nat))) := by
        rw [Array.mapM_eq_mapM_toList]
      rw [e, map_eq_pure_bind, Sem.run_bind, mapM_pure fields.toList _ C.w hsz]
      simp only [Result.andThen_ok, Sem.run_pure]
      congr 1
      simp [Array.ext_iff]
    have hplace : (fun i : Nat => (fields.map fun f => (f.offset, match T f.type with | some df => df.sz | none => 0))[i]?) = (fun i : Nat => match fs[i]? with
          | some (off, ft) => (match T ft with
            | some df => some (off, df.sz)
            | none => none)
          | none => none) := by
      funext i
      rw [hkk]
      simp only [List.getElem?_map, Array.getElem?_map, Array.getElem?_toList]
      cases hq : fields[i]? with
      | none => rfl
      | some f =>
        have : (f.offset, f.type) ∈ fs := by rw [hkk]; exact List.mem_map.2 ⟨f, by simpa using Array.mem_of_getElem? hq, rfl⟩
        have := List.all_eq_true.1 hfs _ this
        cases hq2 : T f.type with
        | none => simp [hq2] at this
        | some df => simp [hq2]
    obtain ⟨a', ha', hr'⟩ := fill_rel (parts.toList.map fun p => (p.1, env.ev (hint p.1) p.2)) (parts.toList.map fun p => (p.1, a.eval p.2)) d.zero cs zv.cells hcs (hzrel C) (by simp) (fun k hk => by
      have hk' : k < parts.size := by simpa using hk
      have hmem : parts[k].2 ∈ o.op.operands.toList := by
        rw [ho]
        show parts[k].2 ∈ parts.toList.map (·.2)
        exact List.mem_map.2 ⟨parts[k], by simp, rfl⟩
      have := ev_rel henv (hint parts[k].1) parts[k].2 hmem
      simpa [List.getD_eq_getElem?_getD, hk'] using this)
    refine ⟨.agg a', ?_, .agg _ _ hr'.1 fun i hi => (hr'.2 i hi).2⟩
    rw [hex]
    have hpm : (parts.map fun (i, x) => (i, a.eval x)).toList = parts.toList.map fun p => (p.1, a.eval p.2) := by simp
    simp only [Instr.build, Sem.run_bind, hzr, Result.andThen_ok, run_underlying hu, hplaces, hplace, hpm, ha', Sem.run_pure]
  · cases h
end Go.Av
/- New variables, stores. -/
set_option linter.unusedVariables false
namespace Go.Av
open Go

variable {P : Program} {T : Tys}

theorem heap_setCells_ne (b : Nat) : ∀ (vs : List Value) (o : Nat) (w : World) (k : Nat), k ≠ b → (w.setCells b o vs).heap[k]? = w.heap[k]?
  | [], _, _, _, _ => rfl
  | v :: r, o, w, k, hk => by
    rw [World.setCells, heap_setCells_ne b r (o + 1) _ k hk]
    simp only [World.setCell, Array.getElem?_modify]
    rw [if_neg (fun e => hk e.symm)]
theorem size_setCells (b : Nat) : ∀ (vs : List Value) (o : Nat) (w : World), (w.setCells b o vs).heap.size = w.heap.size
  | [], _, _ => rfl
  | v :: r, o, w => by rw [World.setCells, size_setCells b r (o + 1)]; simp [World.setCell]
theorem shape?_setCells (b : Nat) : ∀ (vs : List Value) (o : Nat) (w : World) (k : Nat), (w.setCells b o vs).shape? k = w.shape? k
  | [], _, _, _ => rfl
  | v :: r, o, w, k => by
    rw [World.setCells, shape?_setCells b r (o + 1)]
    unfold World.shape? World.setCell
    simp only [Array.getElem?_modify]
    by_cases hbk : b = k
    · subst hbk
      rw [if_pos rfl]
      cases h : w.heap[b]? with
      | none => rfl
      | some x => cases x <;> simp
    · rw [if_neg hbk]
theorem kind_setCells (b : Nat) (vs : List Value) (o : Nat) (w : World) : SameKind w (w.setCells b o vs) := fun k hk =>
  ⟨by rw [size_setCells]; exact hk, shape?_setCells b vs o w k, fun j => World.frozen?_setCells ..⟩
theorem os_setCells (b : Nat) : ∀ (vs : List Value) (o : Nat) (w : World), (w.setCells b o vs).os = w.os ∧ (w.setCells b o vs).output = w.output
  | [], _, _ => ⟨rfl, rfl⟩
  | v :: r, o, w => by
    have := os_setCells b r (o + 1) (w.setCell ⟨b, o, none⟩ v)
    rw [World.setCells]; exact this

theorem newRow_op {o : Oper} {env : Env} {H : Heap} {n sz : Nat} {es : List (List AV)} {pre : Option Prop} {v : AV} (hes : ∀ x ∈ es, x.length = sz)
    (h : ∀ (C : Ctx) (a : Act) (H2 : Heap), EnvOK C env a o.op.operands.toList → HRel C H2 → (∀ p, pre = some p → p) → ∃ (v' : Value) (w' : World) (c : Array Value) (ty : TypeId), RunsTo P a o C.w v' w' ∧ Allocs C.w w' (.cells c ty) ∧
      es.length * sz ≤ c.size ∧ (∀ k, k < es.length * sz → (c.getD k undef).oneCell' = true) ∧ (∀ i j, i < es.length → j < sz → VRel C ((es.getD i []).getD j .junk) (c.getD (i * sz + j) undef)) ∧
      VRel (C.newRow n sz w') v v') : OpSem P o env H ⟨pre, v, [(n, .row sz es)], []⟩ := by
  intro C a H2 henv hH hlog hwr hpre
  obtain ⟨hd, hf⟩ := (hwr (n, .row sz es) (by simp)).resolve_left (by simp)
  obtain ⟨v', w', c, ty, hrun, ha, hsz, h1, hr, hv⟩ := h C a H2 henv hH hpre
  obtain ⟨k1, k2, k3, k4⟩ := newRow_ok hH hd hf ha (Nat.le_refl _) es hes hsz h1 hr
  exact ⟨v', C.newRow n sz w', hrun, hv, k1, k2, k3, fun b hb => k4 b (hb _ (by simp))⟩

theorem ptr_newRow (C : Ctx) (n sz : Nat) (w' : World) : VRel (C.newRow n sz w') (.ptr n 0 0) (.pointer (some ⟨C.w.heap.size, 0, none⟩)) := by
  have := VRel.ptr (C := C.newRow n sz w') n 0 0 C.w.heap.size 0 sz (by simp [Ctx.newRow])
  simpa using this

theorem sem_alloc (hT : TyOK P T) {o : Oper} {t : TypeId} {d : TyD} {env : Env} {H : Heap} (n : Nat) (ho : o.op = .alloc t) (hd : T t = some d) : OpSem P o env H ⟨none, .ptr n 0 0, [(n, .row d.sz [d.zero])], []⟩ := by
  obtain ⟨i, zv, u, hi, hs, hby, hzv, hu, hk, hagg, hzl, hzs, hzc, hza, hzn⟩ := hT.ok t d hd
  refine newRow_op (fun x hx => by simp at hx; subst hx; exact hzl) fun C a H2 henv hH _ => ?_
  have hz : ∀ w, (zeroValue t).run P w = .ok zv w := fun w => by simp [zeroValue, typeInfo, hi, hzv]
  refine ⟨.pointer (some ⟨C.w.heap.size, 0, none⟩), C.w.alloc (.cells zv.cells t), zv.cells, t, .inl ?_, .alloc _ _, by simp [hzs], fun k hk => (hzc k (by simpa using hk)).1, fun i j hi' hj => ?_, ptr_newRow C n _ _⟩
  · unfold execOp; rw [ho]
    simp only [Instr.alloc, Sem.run_bind, hz, Result.andThen_ok]
    rfl
  · have : i = 0 := by simp at hi'; exact hi'
    subst this
    obtain ⟨_, s, e⟩ := hzc j hj
    simp only [List.getD_cons_zero, Nat.zero_mul, Nat.zero_add]
    rw [e]; exact .fro _ _ (constAV_rel _ _ _ _)

theorem sem_box (hT : TyOK P T) {o : Oper} {t : TypeId} {x : Operand} {d : TyD} {env : Env} {H : Heap} {s : Nat} (n : Nat) (ho : o.op = .box t x) (hd : T t = some d) (hs : (env.ev s x).solid = true) (hl : (env.ev s x).cells.length = d.sz) :
    OpSem P o env H ⟨none, .ptr n 0 0, [(n, .row d.sz [(env.ev s x).cells])], []⟩ := by
  have hm : x ∈ o.op.operands.toList := by rw [ho]; simp [Op.operands]
  refine newRow_op (fun y hy => by simp at hy; subst hy; exact hl) fun C a H2 henv hH _ => ?_
  obtain ⟨c1, c2⟩ := (ev_rel henv s x hm).cells hs
  refine ⟨.pointer (some ⟨C.w.heap.size, 0, none⟩), C.w.alloc (.cells (a.eval x).cells t), (a.eval x).cells, t, .inl ?_, .alloc _ _, by simp [c1, hl], fun k hk => (c2 k (by simp at hk; omega)).1, fun i j hi' hj => ?_, ptr_newRow C n _ _⟩
  · unfold execOp; rw [ho]; rfl
  · have : i = 0 := by simp at hi'; exact hi'
    subst this
    simp only [List.getD_cons_zero, Nat.zero_mul, Nat.zero_add]
    exact (c2 j (by omega)).2

/-- cells of a row are other ones -/
theorem rowSet_ok {C : Ctx} {H : Heap} (h : HRel C H) {b sz i j cb base : Nat} {es : List (List AV)} {e : List AV} (hb : H.at b = .row sz es) (hφ : C.φ b = some (cb, base, sz)) (vs : List Value) (h1 : ∀ v ∈ vs, v.oneCell' = true)
    (hi : vs = [] ∨ i < es.length) (hj : j + vs.length ≤ sz) (he : e.length = (es.getD i []).length) (hin : ∀ k, k < vs.length → VRel C (e.getD (j + k) .junk) (vs.getD k undef))
    (hout : ∀ k, k < j ∨ j + vs.length ≤ k → e.getD k .junk = (es.getD i []).getD k .junk) :
    HRel { C with w := C.w.setCells cb (base + (i * sz + j)) vs } (H.put b (.row sz (es.set i e))) ∧ StepExt C { C with w := C.w.setCells cb (base + (i * sz + j)) vs } ∧
      Frame' C H { C with w := C.w.setCells cb (base + (i * sz + j)) vs } (H.put b (.row sz (es.set i e))) := by
  obtain ⟨cb', base', g, k1, k2, k3, k4, k5, k6, k7, k8⟩ := h.row b sz es hb
  rw [hφ] at k1; cases k1
  have hagree : Agree C.K C.w (C.w.setCells cb (base + (i * sz + j)) vs) := Agree.of_block (kind_setCells cb vs _ _) fun q hq => heap_setCells_ne cb vs _ _ q (fun e => by subst e; exact hq k3)
  have hs : StepExt C { C with w := C.w.setCells cb (base + (i * sz + j)) vs } := ⟨fun _ _ h => h, fun _ _ _ h => h, fun _ => Nat.le_refl _, hagree⟩
  have hsome : ∀ q, q < vs.length → (C.w.cell? ⟨cb, base + (i * sz + j) + q, none⟩).isSome = true := fun q hq => by
    have hi' : i < es.length := hi.resolve_left (fun e => by subst e; simp at hq)
    have := k5 i (j + q) hi' (by omega)
    rw [show base + (i * sz + j) + q = base + (i * sz + (j + q)) by omega, this]; rfl
  have hblk : BlkOK { C with w := C.w.setCells cb (base + (i * sz + j)) vs } b (.row sz (es.set i e)) := by
    refine ⟨cb, base, fun i' j' => if i' = i ∧ j ≤ j' ∧ j' < j + vs.length then vs.getD (j' - j) undef else g i' j', hφ, by rw [size_setCells]; exact k2, k3, fun x hx => ?_, fun i' j' hi' hj' => ?_, fun _ => ?_, fun i' j' hi' hj' => ?_, fun i' j' hi' hj' => ?_⟩
    · rcases List.mem_or_eq_of_mem_set hx with hx | rfl
      · exact k4 x hx
      · by_cases hil : i < es.length
        · rw [he, List.getD_eq_getElem?_getD, List.getElem?_eq_getElem hil]; exact k4 _ (List.getElem_mem hil)
        · rw [List.set_eq_of_length_le (by omega)] at hx; exact k4 _ hx
    · rw [List.length_set] at hi'
      show (C.w.setCells cb (base + (i * sz + j)) vs).cell? _ = _
      dsimp only
      split
      · rename_i hc
        obtain ⟨rfl, hc1, hc2⟩ := hc
        have := World.cell?_setCells_in cb vs (base + (i' * sz + j)) C.w hsome (j' - j) (by omega)
        rw [show base + (i' * sz + j) + (j' - j) = base + (i' * sz + j') by omega] at this
        rw [this, List.getD_eq_getElem?_getD, List.getElem?_eq_getElem (by omega)]; rfl
      · rename_i hc
        rw [World.cell?_setCells_out cb vs _ _ _ (fun _ _ => ?_)]
        · exact k5 i' j' hi' hj'
        · show base + (i' * sz + j') < base + (i * sz + j) ∨ base + (i * sz + j) + vs.length ≤ base + (i' * sz + j')
          by_cases hii : i' = i
          · subst hii; omega
          · rcases Nat.lt_or_gt_of_ne hii with hlt | hgt
            · have : (i' + 1) * sz ≤ i * sz := Nat.mul_le_mul_right _ hlt
              rw [Nat.add_mul] at this; omega
            · have : (i + 1) * sz ≤ i' * sz := Nat.mul_le_mul_right _ hgt
              rw [Nat.add_mul] at this; omega
    · show (C.w.setCells cb (base + (i * sz + j)) vs).frozen? _ = _
      rw [World.frozen?_setCells]; exact k6 _
    · rw [List.length_set] at hi'
      dsimp only
      split
      · exact h1 _ (by rw [List.getD_eq_getElem?_getD, List.getElem?_eq_getElem (by omega)]; exact List.getElem_mem _)
      · exact k7 i' j' hi' hj'
    · rw [List.length_set] at hi'
      have hrow : (es.set i e).getD i' [] = if i' = i then e else es.getD i' [] := by
        simp only [List.getD_eq_getElem?_getD, List.getElem?_set]
        by_cases hii : i' = i
        · subst hii; simp [hi']
        · rw [if_neg (fun e => hii e.symm), if_neg hii]
      rw [hrow]
      dsimp only
      by_cases hc : i' = i ∧ j ≤ j' ∧ j' < j + vs.length
      · rw [if_pos hc.1, if_pos hc]
        have := hin (j' - j) (by omega)
        rw [show j + (j' - j) = j' by omega] at this
        exact this.mono hs
      · rw [if_neg hc]
        by_cases hii : i' = i
        · rw [if_pos hii, hout j' (by omega)]; have := (k8 i' j' hi' hj').mono hs; rw [hii] at this ⊢; exact this
        · rw [if_neg hii]; exact (k8 i' j' hi' hj').mono hs
  have hownb : Owns C H b cb := .row b sz es cb base hb hφ
  have hown : ∀ q, Owns { C with w := C.w.setCells cb (base + (i * sz + j)) vs } (H.put b (.row sz (es.set i e))) b q → q = cb := fun q ho => by
    cases ho with
    | row sz' es' _ base' hb' hφ' =>
      have hφ'' : C.φ b = some (q, base', sz') := hφ'
      rw [hφ] at hφ''; cases hφ''; rfl
    | tok e _ eo ce hb' hτ => rw [Heap.at_put_same] at hb'; cases hb'
    | map es _ hb' hφ' => rw [Heap.at_put_same] at hb'; cases hb'
  refine ⟨h.change hs b _ (fun q c hq ho => ⟨heap_setCells_ne cb vs _ _ c (fun e => hq (h.own _ _ _ ho (e ▸ hownb))), rfl⟩) (by rw [size_setCells]; exact Nat.le_refl _) (fun q hq => by rw [size_setCells]; exact h.dom q hq) (fun _ _ => rfl) hblk
      (fun q ho q' hq' ho' => hq' (h.own _ _ _ ho' (hown q ho ▸ hownb))), hs, ⟨(os_setCells cb vs _ _).1, (os_setCells cb vs _ _).2, by rw [size_setCells]; exact Nat.le_refl _, fun c hc hno => ⟨heap_setCells_ne cb vs _ _ c (fun e => hno b (e ▸ hownb)), rfl⟩, fun q c ho hc => ?_⟩⟩
  by_cases hq : q = b
  · subst hq; exact ⟨q, hown c ho ▸ hownb⟩
  · exact ⟨q, (ho.put_ne hq).back h hs⟩

theorem sem_store (hT : TyOK P T) {o : Oper} {t : TypeId} {p x : Operand} {d : TyD} {env : Env} {H : Heap} {r : ORes} {s : Nat} (ho : o.op = .store t p x) (hd : T t = some d)
    (h : astore d H (env.ev 0 p) (env.ev s x) = some r) : OpSem P o env H r := by
  have hmp : p ∈ o.op.operands.toList := by rw [ho]; simp [Op.operands]
  have hmx : x ∈ o.op.operands.toList := by rw [ho]; simp [Op.operands]
  obtain ⟨ti, z, u, hti, hts', htb, htz, hu, hk, hrest⟩ := hT.ok t d hd
  unfold astore at h
  split at h
  · rename_i b i j hp
    split at h
    · rename_i sz es hb
      split at h
      · rename_i hc
        simp only [Bool.and_eq_true, beq_iff_eq, bne_iff_ne] at hc
        split at h
        · rename_i e he
          cases h
          intro C a H2 henv hH hlog hwr hpre
          have hb2 : H2.at b = .row sz es := by rw [hlog b (by simp), hb]
          obtain ⟨cb, base, sz', hφ, ep⟩ := (hp ▸ ev_rel henv 0 p hmp).ptr_inv
          obtain ⟨cb', base', g, k1, k2, k3, k4, k5, k6, k7, k8⟩ := hH.row b sz es hb2
          rw [hφ] at k1; cases k1
          obtain ⟨c1, c2⟩ := (ev_rel henv s x hmx).cells hc.1.1
          obtain ⟨s1, s2, s3, s4⟩ := splice_spec he
          have hlen : (a.eval x).cells.toList.length = d.sz := by simp [c1, hc.1.2]
          have hi : (a.eval x).cells.toList = [] ∨ i < es.length := by
            rcases Nat.lt_or_ge i es.length with h' | h'
            · exact .inr h'
            · left
              rw [List.getD_eq_getElem?_getD, List.getElem?_eq_none h', Option.getD_none, List.length_nil] at s2
              exact List.eq_nil_of_length_eq_zero (by rw [hlen, ← hc.1.2]; omega)
          have hrowlen : i < es.length → (es.getD i []).length = sz := fun hi => by
            rw [List.getD_eq_getElem?_getD, List.getElem?_eq_getElem hi]; exact k4 _ (List.getElem_mem hi)
          have hj : i < es.length → j + (a.eval x).cells.toList.length ≤ sz := fun hi => by
            have := hrowlen hi
            rw [hlen, ← hc.1.2]; omega
          have getL : ∀ k, (a.eval x).cells.toList.getD k undef = (a.eval x).cells.getD k undef := fun k => by simp [List.getD_eq_getElem?_getD, Array.getD_eq_getD_getElem?]
          have hst : (storeVar t ⟨cb, base + (i * sz + j), none⟩ (a.eval x)).run P C.w = .ok () (C.w.setCells cb (base + (i * sz + j)) (a.eval x).cells.toList) := by
            have hsc := run_storeCells_cells (P := P) cb (base + (i * sz + j)) (a.eval x).cells.toList 0 C.w (fun q hq => ?_) (fun q hq => ?_) (fun v hv => ?_)
            · simp only [Nat.add_zero] at hsc
              simp only [storeVar, Sem.run_bind, run_sizeOf_of hti, Result.andThen_ok]
              rw [if_neg (by rw [c1, hc.1.2, hts']; simp)]
              exact hsc
            · have hi' : i < es.length := hi.resolve_left (fun e => by rw [e] at hq; simp at hq)
              have := k5 i (j + q) hi' (by have := hj hi'; omega)
              rw [show base + (i * sz + j) + 0 + q = base + (i * sz + (j + q)) by omega, this]; rfl
            · have hi' : i < es.length := hi.resolve_left (fun e => by rw [e] at hq; simp at hq)
              have := k6 (base + (i * sz + (j + q)))
              rw [show base + (i * sz + j) + 0 + q = base + (i * sz + (j + q)) by omega, this]
            · obtain ⟨q, hq, rfl⟩ := List.getElem_of_mem hv
              have := (c2 q (by simp at hq; omega)).1
              simpa [Array.getD, show q < (a.eval x).cells.size by simpa using hq] using this
          have hi : i < es.length := hi.resolve_left (fun e => hc.2 (by rw [← hlen, e]; rfl))
          obtain ⟨r1, r2, r3⟩ := rowSet_ok hH hb2 hφ (a.eval x).cells.toList (fun v hv => by
                obtain ⟨q, hq, rfl⟩ := List.getElem_of_mem hv
                have := (c2 q (by simp at hq; omega)).1
                simpa [Array.getD, show q < (a.eval x).cells.size by simpa using hq] using this) (.inr hi) (hj hi) s1 (fun k hk => by
                rw [getL]
                have hk' : k < (env.ev s x).cells.length := by simp at hk; omega
                rw [s3 k hk']; exact (c2 k hk').2) (fun k hk => s4 k (by rw [hc.1.2]; rw [hlen] at hk; exact hk))
          refine ⟨undef, { C with w := C.w.setCells cb (base + (i * sz + j)) (a.eval x).cells.toList }, .inr ⟨?_, rfl⟩, .fro _ _ (.junk _), r1, r2, r3, fun _ _ => ⟨rfl, rfl⟩⟩
          unfold execOp; rw [ho]
          simp only [ep, Instr.storeAt, Instr.sureAddr, Sem.run_bind, Sem.run_pure, Result.andThen_ok, hst]
        · cases h
      · cases h
    · cases h
  · cases h
end Go.Av
