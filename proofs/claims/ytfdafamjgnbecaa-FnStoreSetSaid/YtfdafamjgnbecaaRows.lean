/-
  NARROWER THAN 'FOR EVERY INPUT', by the rows' own cells (each row's printed sentence says how): FnExactHubNew: loops · FnExactHubDrop: loops.
  DERIVED. THE GIVEN ROWS OF THIS SEAT. 3 by the template 'for every input the law returns true; each argument reads behind the call as it read before'; 0 by the template 'total and deterministic' (their statements: YtfdafamjgnbecaaTotals.lean).
  GIVEN WITH THE SEED: the statements are not yours to turn. If you find one false, say at which input.
  Laid BY PROGRAM, IN A SANDBOX (cutbox-rows.mjs): the forced cells as the released guide's own fill.sh prints them over the translation d9771b1176b45cd9… (all of the seat's roots in one cut). By AI agents, Wed Nov 11 2026. No macro, syntax, notation, axiom, sorry.
-/
import Derived.Test.YtfdafamjgnbecaaChecked
import GoSem.Claim
import GoSem.ClaimJoined
import GoSem.ClaimMapViews
import Derived.JoinedTies
import Derived.KernelRfl
namespace Go.Proofs.Ytfdafamjgnbecaa
/- THE CELL 'sum', in the pinned program and in every row, IS THE sha256 OF THE DUMP (.gsa) THAT YtfdafamjgnbecaaProg.lean LOADS. Nothing in Lean hashes anything: it is a label: what it is worth is what the hold of that sum in a sandbox is worth. -/
noncomputable def Try.pinned : Pinned := { name := "ytfdafamjgnbecaa", sum := "d9771b1176b45cd94d511b470720c7a80822e72c0327be1fdd379477cd8255c3", checked := Try.checked }
namespace Rows
def none {H : Type} : Left H := { results := [], args := [] }

/-- 'laws.FnExactHubNew': WHATEVER THE INPUT: true; the input reads as it did. -/
def fnExactHubNewSpec : ChangeSpec := { name := "fnExactHubNew", fn := fun _ => fun
  | [d] => { results := [.lit (.bool true)], args := [d] }
  | _ => none }
def fnExactHubNewRow : OpenClaim := { program := "ytfdafamjgnbecaa", sum := "d9771b1176b45cd94d511b470720c7a80822e72c0327be1fdd379477cd8255c3", func := "loop.example/pergola/laws.FnExactHubNew", spec := "fnExactHubNew", recurses := true, loops := true, plainKeys := false, apart := false }
def FnExactHubNewSaid : Prop := fnExactHubNewRow.holds Try.pinned (OpenSpec.ofChange fnExactHubNewSpec)

/-- ITS FALSE NEIGHBOUR: 'it returns false'. Refute it at one input. -/
def fnExactHubNewWrong : ChangeSpec := { name := "fnExactHubNew", fn := fun _ => fun
  | [d] => { results := [.lit (.bool false)], args := [d] }
  | _ => none }
def FnExactHubNewWrongFalsely : Prop := fnExactHubNewRow.holds Try.pinned (OpenSpec.ofChange fnExactHubNewWrong)

/-- 'laws.FnExactHubDrop': WHATEVER THE INPUT: true; the input reads as it did. -/
def fnExactHubDropSpec : ChangeSpec := { name := "fnExactHubDrop", fn := fun _ => fun
  | [d1, d2] => { results := [.lit (.bool true)], args := [d1, d2] }
  | _ => none }
def fnExactHubDropRow : OpenClaim := { program := "ytfdafamjgnbecaa", sum := "d9771b1176b45cd94d511b470720c7a80822e72c0327be1fdd379477cd8255c3", func := "loop.example/pergola/laws.FnExactHubDrop", spec := "fnExactHubDrop", recurses := true, loops := true, plainKeys := false, apart := false }
def FnExactHubDropSaid : Prop := fnExactHubDropRow.holds Try.pinned (OpenSpec.ofChange fnExactHubDropSpec)

/-- ITS FALSE NEIGHBOUR: 'it returns false'. Refute it at one input. -/
def fnExactHubDropWrong : ChangeSpec := { name := "fnExactHubDrop", fn := fun _ => fun
  | [d1, d2] => { results := [.lit (.bool false)], args := [d1, d2] }
  | _ => none }
def FnExactHubDropWrongFalsely : Prop := fnExactHubDropRow.holds Try.pinned (OpenSpec.ofChange fnExactHubDropWrong)

/-- 'laws.FnStoreSet': WHATEVER THE INPUT: true; the input reads as it did. -/
def fnStoreSetSpec : ChangeSpec := { name := "fnStoreSet", fn := fun _ => fun
  | [d] => { results := [.lit (.bool true)], args := [d] }
  | _ => none }
def fnStoreSetRow : OpenClaim := { program := "ytfdafamjgnbecaa", sum := "d9771b1176b45cd94d511b470720c7a80822e72c0327be1fdd379477cd8255c3", func := "loop.example/pergola/laws.FnStoreSet", spec := "fnStoreSet", unfollowed := true, recurses := true, plainKeys := false, apart := false }
def FnStoreSetSaid : Prop := fnStoreSetRow.holds Try.pinned (OpenSpec.ofChange fnStoreSetSpec)

/-- ITS FALSE NEIGHBOUR: 'it returns false'. Refute it at one input. -/
def fnStoreSetWrong : ChangeSpec := { name := "fnStoreSet", fn := fun _ => fun
  | [d] => { results := [.lit (.bool false)], args := [d] }
  | _ => none }
def FnStoreSetWrongFalsely : Prop := fnStoreSetRow.holds Try.pinned (OpenSpec.ofChange fnStoreSetWrong)

/- THE SECOND FORM. 'bulk': how many values and letters a reading holds, each counted each time it is reached (what is shared counts as often as it is met; a slice's spare places count too). A statement '..UptoSaid' is the law's where the arguments, and the package variables that the reading takes, are together of bulk at most 1048576: NARROWER than '..Said'. Prove '..Said' where nothing that the law and all that it calls make is longer than what came in: it says more and counts as full. Else prove '..UptoSaid'. A law counts once. -/
mutual
def uptoBulk {H : Type} : DataW H → Nat
  | .lit (.string bytes) => bytes.length + 1
  | .lit _ => 1
  | .nil => 1
  | .ptr d => uptoBulk d + 1
  | .slice elems spare => uptoBulkAll elems + uptoBulkAll spare + 1
  | .agg parts => uptoBulkAll parts + 1
  | .iface _ d => uptoBulk d + 1
  | .map entries => uptoBulkEntries entries + 1
  | .held _ => 1
def uptoBulkAll {H : Type} : List (DataW H) → Nat
  | [] => 0
  | d :: r => uptoBulk d + uptoBulkAll r
def uptoBulkEntries {H : Type} : List (Lit × DataW H) → Nat
  | [] => 0
  | x :: r => uptoBulkEntry x + uptoBulkEntries r
def uptoBulkEntry {H : Type} : Lit × DataW H → Nat
  | (.string bytes, d) => bytes.length + uptoBulk d + 1
  | (_, d) => uptoBulk d + 1
 end
def uptoSmall : (H : Type) → List (DataW H) → Bool := fun _ ds => decide (uptoBulkAll ds ≤ 1048576)
def OpenSpec.upto (s : _root_.Go.ChangeSpec) : _root_.Go.OpenSpec := { _root_.Go.OpenSpec.ofChange s with cond := some uptoSmall }

/-- 'laws.FnExactHubNew', WHERE WHAT IT READS IS OF BULK AT MOST 1048576: true; the input reads as it did. -/
def fnExactHubNewUptoRow : OpenClaim := { program := "ytfdafamjgnbecaa", sum := "d9771b1176b45cd94d511b470720c7a80822e72c0327be1fdd379477cd8255c3", func := "loop.example/pergola/laws.FnExactHubNew", spec := "fnExactHubNew", recurses := true, loops := true, plainKeys := false, apart := false, narrowed := true }
def FnExactHubNewUptoSaid : Prop := fnExactHubNewUptoRow.holds Try.pinned (OpenSpec.upto fnExactHubNewSpec)

/-- 'laws.FnExactHubDrop', WHERE WHAT IT READS IS OF BULK AT MOST 1048576: true; the input reads as it did. -/
def fnExactHubDropUptoRow : OpenClaim := { program := "ytfdafamjgnbecaa", sum := "d9771b1176b45cd94d511b470720c7a80822e72c0327be1fdd379477cd8255c3", func := "loop.example/pergola/laws.FnExactHubDrop", spec := "fnExactHubDrop", recurses := true, loops := true, plainKeys := false, apart := false, narrowed := true }
def FnExactHubDropUptoSaid : Prop := fnExactHubDropUptoRow.holds Try.pinned (OpenSpec.upto fnExactHubDropSpec)

/-- 'laws.FnStoreSet', WHERE WHAT IT READS IS OF BULK AT MOST 1048576: true; the input reads as it did. -/
def fnStoreSetUptoRow : OpenClaim := { program := "ytfdafamjgnbecaa", sum := "d9771b1176b45cd94d511b470720c7a80822e72c0327be1fdd379477cd8255c3", func := "loop.example/pergola/laws.FnStoreSet", spec := "fnStoreSet", unfollowed := true, recurses := true, plainKeys := false, apart := false, narrowed := true }
def FnStoreSetUptoSaid : Prop := fnStoreSetUptoRow.holds Try.pinned (OpenSpec.upto fnStoreSetSpec)

end Rows
end Go.Proofs.Ytfdafamjgnbecaa
