/-
  No cell of these rows narrows 'for every input' (looked for: loops, veiled, ifaces, maps, wideKeys, modest, calm, conditions, laid).
  DERIVED. THE GIVEN ROWS OF THIS SEAT. 2 by the template 'for every input the law returns true; each argument reads behind the call as it read before'; 0 by the template 'total and deterministic' (their statements: YtdjnedamphifcaaTotals.lean).
  GIVEN WITH THE SEED: the statements are not yours to turn. If you find one false, say at which input.
  Laid BY PROGRAM, IN A SANDBOX (cutbox-rows.mjs): the forced cells as the released guide's own fill.sh prints them over the translation d21afd559688ce49… (all of the seat's roots in one cut). By AI agents, Wed Nov 11 2026. No macro, syntax, notation, axiom, sorry.
-/
import Derived.Test.YtdjnedamphifcaaChecked
import GoSem.Claim
import GoSem.ClaimJoined
import GoSem.ClaimMapViews
import Derived.JoinedTies
import Derived.KernelRfl
namespace Go.Proofs.Ytdjnedamphifcaa
/- THE CELL 'sum', in the pinned program and in every row, IS THE sha256 OF THE DUMP (.gsa) THAT YtdjnedamphifcaaProg.lean LOADS. Nothing in Lean hashes anything: it is a label: what it is worth is what the hold of that sum in a sandbox is worth. -/
noncomputable def Try.pinned : Pinned := { name := "ytdjnedamphifcaa", sum := "d21afd559688ce4908fae71e22d97aa9364804f028924989d8fe25639d40031c", checked := Try.checked }
namespace Rows
def none {H : Type} : Left H := { results := [], args := [] }

/-- 'helmsmanlaw30.FairActs': WHATEVER THE INPUT: true; the input reads as it did. -/
def fairActsSpec : ChangeSpec := { name := "fairActs", fn := fun _ => fun
  | [d1, d2, d3, d4, d5] => { results := [.lit (.bool true)], args := [d1, d2, d3, d4, d5] }
  | _ => none }
def fairActsRow : OpenClaim := { program := "ytdjnedamphifcaa", sum := "d21afd559688ce4908fae71e22d97aa9364804f028924989d8fe25639d40031c", func := "helmsman/helmsmanlaw30.FairActs", spec := "fairActs", inPlace := ["math/bits.Add64"], plainKeys := false, apart := false }
def FairActsSaid : Prop := fairActsRow.holds Try.pinned (OpenSpec.ofChange fairActsSpec)

/-- ITS FALSE NEIGHBOUR: 'it returns false'. Refute it at one input. -/
def fairActsWrong : ChangeSpec := { name := "fairActs", fn := fun _ => fun
  | [d1, d2, d3, d4, d5] => { results := [.lit (.bool false)], args := [d1, d2, d3, d4, d5] }
  | _ => none }
def FairActsWrongFalsely : Prop := fairActsRow.holds Try.pinned (OpenSpec.ofChange fairActsWrong)

/-- 'helmsmanlaw30.FairWhole': WHATEVER THE INPUT: true; the input reads as it did. -/
def fairWholeSpec : ChangeSpec := { name := "fairWhole", fn := fun _ => fun
  | [d] => { results := [.lit (.bool true)], args := [d] }
  | _ => none }
def fairWholeRow : OpenClaim := { program := "ytdjnedamphifcaa", sum := "d21afd559688ce4908fae71e22d97aa9364804f028924989d8fe25639d40031c", func := "helmsman/helmsmanlaw30.FairWhole", spec := "fairWhole", unfollowed := true, recurses := true, plainKeys := false, apart := false }
def FairWholeSaid : Prop := fairWholeRow.holds Try.pinned (OpenSpec.ofChange fairWholeSpec)

/-- ITS FALSE NEIGHBOUR: 'it returns false'. Refute it at one input. -/
def fairWholeWrong : ChangeSpec := { name := "fairWhole", fn := fun _ => fun
  | [d] => { results := [.lit (.bool false)], args := [d] }
  | _ => none }
def FairWholeWrongFalsely : Prop := fairWholeRow.holds Try.pinned (OpenSpec.ofChange fairWholeWrong)

/- THE SECOND FORM. 'bulk': how many values and letters a reading holds, each counted each time it is reached (what is shared counts as often as it is met; a slice's spare places count too). A statement '..UptoSaid' is the law's where the arguments, and the package variables that the reading takes, are together of bulk at most 1048576: NARROWER than '..Said'. Prove '..Said' where nothing that the law and all that it calls make is longer than what came in: it says more and counts as full. Else prove '..UptoSaid'. A law counts once. -/
mutual
def uptoBulk {H : Type} : DataW H → Nat
  | .lit (.string bytes) => bytes.length + 1
  | .lit _ => 1
  | .nil => 1
  | .ptr d => uptoBulk d + 1
  | .slice elems spare => uptoBulkAll elems + uptoBulkAll spare + 1
  | .agg parts => uptoBulkAll parts + 1
  | .iface _ d => uptoBulk d + 1
  | .map entries => uptoBulkEntries entries + 1
  | .held _ => 1
def uptoBulkAll {H : Type} : List (DataW H) → Nat
  | [] => 0
  | d :: r => uptoBulk d + uptoBulkAll r
def uptoBulkEntries {H : Type} : List (Lit × DataW H) → Nat
  | [] => 0
  | x :: r => uptoBulkEntry x + uptoBulkEntries r
def uptoBulkEntry {H : Type} : Lit × DataW H → Nat
  | (.string bytes, d) => bytes.length + uptoBulk d + 1
  | (_, d) => uptoBulk d + 1
 end
def uptoSmall : (H : Type) → List (DataW H) → Bool := fun _ ds => decide (uptoBulkAll ds ≤ 1048576)
def OpenSpec.upto (s : _root_.Go.ChangeSpec) : _root_.Go.OpenSpec := { _root_.Go.OpenSpec.ofChange s with cond := some uptoSmall }

/-- 'helmsmanlaw30.FairActs', WHERE WHAT IT READS IS OF BULK AT MOST 1048576: true; the input reads as it did. -/
def fairActsUptoRow : OpenClaim := { program := "ytdjnedamphifcaa", sum := "d21afd559688ce4908fae71e22d97aa9364804f028924989d8fe25639d40031c", func := "helmsman/helmsmanlaw30.FairActs", spec := "fairActs", inPlace := ["math/bits.Add64"], plainKeys := false, apart := false, narrowed := true }
def FairActsUptoSaid : Prop := fairActsUptoRow.holds Try.pinned (OpenSpec.upto fairActsSpec)

/-- 'helmsmanlaw30.FairWhole', WHERE WHAT IT READS IS OF BULK AT MOST 1048576: true; the input reads as it did. -/
def fairWholeUptoRow : OpenClaim := { program := "ytdjnedamphifcaa", sum := "d21afd559688ce4908fae71e22d97aa9364804f028924989d8fe25639d40031c", func := "helmsman/helmsmanlaw30.FairWhole", spec := "fairWhole", unfollowed := true, recurses := true, plainKeys := false, apart := false, narrowed := true }
def FairWholeUptoSaid : Prop := fairWholeUptoRow.holds Try.pinned (OpenSpec.upto fairWholeSpec)

end Rows
end Go.Proofs.Ytdjnedamphifcaa
