/-
  No cell of these rows narrows 'for every input' (looked for: loops, veiled, ifaces, maps, wideKeys, modest, calm, conditions, laid).
  DERIVED. THE GIVEN ROWS OF THIS SEAT. 3 by the template 'for every input the law returns true; each argument reads behind the call as it read before'; 0 by the template 'total and deterministic' (their statements: YtbaemcmagkmjiaaTotals.lean).
  GIVEN WITH THE SEED: the statements are not yours to turn. If you find one false, say at which input.
  Laid BY PROGRAM, IN A SANDBOX (cutbox-rows.mjs): the forced cells as the released guide's own fill.sh prints them over the translation 358f9cbb8e0708a4… (all of the seat's roots in one cut). By AI agents, Wed Nov 11 2026. No macro, syntax, notation, axiom, sorry.
-/
import Derived.Test.YtbaemcmagkmjiaaChecked
import GoSem.Claim
import GoSem.ClaimJoined
import GoSem.ClaimMapViews
import Derived.JoinedTies
import Derived.KernelRfl
namespace Go.Proofs.Ytbaemcmagkmjiaa
/- THE CELL 'sum', in the pinned program and in every row, IS THE sha256 OF THE DUMP (.gsa) THAT YtbaemcmagkmjiaaProg.lean LOADS. Nothing in Lean hashes anything: it is a label: what it is worth is what the hold of that sum in a sandbox is worth. -/
noncomputable def Try.pinned : Pinned := { name := "ytbaemcmagkmjiaa", sum := "358f9cbb8e0708a49203414f910a9407201f11cc8ec4f35bd32f7b3243b4311c", checked := Try.checked }
namespace Rows
def none {H : Type} : Left H := { results := [], args := [] }

/-- 'inklinglaw04.RelationMeanwhile': WHATEVER THE INPUT: true; the input reads as it did. -/
def relationMeanwhileSpec : ChangeSpec := { name := "relationMeanwhile", fn := fun _ => fun
  | [d1, d2, d3, d4, d5] => { results := [.lit (.bool true)], args := [d1, d2, d3, d4, d5] }
  | _ => none }
def relationMeanwhileRow : OpenClaim := { program := "ytbaemcmagkmjiaa", sum := "358f9cbb8e0708a49203414f910a9407201f11cc8ec4f35bd32f7b3243b4311c", func := "inkling/inklinglaw04.RelationMeanwhile", spec := "relationMeanwhile", unfollowed := true, recurses := true, plainKeys := false, apart := false }
def RelationMeanwhileSaid : Prop := relationMeanwhileRow.holds Try.pinned (OpenSpec.ofChange relationMeanwhileSpec)

/-- ITS FALSE NEIGHBOUR: 'it returns false'. Refute it at one input. -/
def relationMeanwhileWrong : ChangeSpec := { name := "relationMeanwhile", fn := fun _ => fun
  | [d1, d2, d3, d4, d5] => { results := [.lit (.bool false)], args := [d1, d2, d3, d4, d5] }
  | _ => none }
def RelationMeanwhileWrongFalsely : Prop := relationMeanwhileRow.holds Try.pinned (OpenSpec.ofChange relationMeanwhileWrong)

/-- 'inklinglaw04.RelationCuts': WHATEVER THE INPUT: true; the input reads as it did. -/
def relationCutsSpec : ChangeSpec := { name := "relationCuts", fn := fun _ => fun
  | [d1, d2, d3, d4] => { results := [.lit (.bool true)], args := [d1, d2, d3, d4] }
  | _ => none }
def relationCutsRow : OpenClaim := { program := "ytbaemcmagkmjiaa", sum := "358f9cbb8e0708a49203414f910a9407201f11cc8ec4f35bd32f7b3243b4311c", func := "inkling/inklinglaw04.RelationCuts", spec := "relationCuts", unfollowed := true, recurses := true, plainKeys := false, apart := false }
def RelationCutsSaid : Prop := relationCutsRow.holds Try.pinned (OpenSpec.ofChange relationCutsSpec)

/-- ITS FALSE NEIGHBOUR: 'it returns false'. Refute it at one input. -/
def relationCutsWrong : ChangeSpec := { name := "relationCuts", fn := fun _ => fun
  | [d1, d2, d3, d4] => { results := [.lit (.bool false)], args := [d1, d2, d3, d4] }
  | _ => none }
def RelationCutsWrongFalsely : Prop := relationCutsRow.holds Try.pinned (OpenSpec.ofChange relationCutsWrong)

/-- 'inklinglaw04.RelationPlays': WHATEVER THE INPUT: true; the input reads as it did. -/
def relationPlaysSpec : ChangeSpec := { name := "relationPlays", fn := fun _ => fun
  | [d1, d2, d3] => { results := [.lit (.bool true)], args := [d1, d2, d3] }
  | _ => none }
def relationPlaysRow : OpenClaim := { program := "ytbaemcmagkmjiaa", sum := "358f9cbb8e0708a49203414f910a9407201f11cc8ec4f35bd32f7b3243b4311c", func := "inkling/inklinglaw04.RelationPlays", spec := "relationPlays", unfollowed := true, recurses := true, plainKeys := false, apart := false }
def RelationPlaysSaid : Prop := relationPlaysRow.holds Try.pinned (OpenSpec.ofChange relationPlaysSpec)

/-- ITS FALSE NEIGHBOUR: 'it returns false'. Refute it at one input. -/
def relationPlaysWrong : ChangeSpec := { name := "relationPlays", fn := fun _ => fun
  | [d1, d2, d3] => { results := [.lit (.bool false)], args := [d1, d2, d3] }
  | _ => none }
def RelationPlaysWrongFalsely : Prop := relationPlaysRow.holds Try.pinned (OpenSpec.ofChange relationPlaysWrong)

/- THE SECOND FORM. 'bulk': how many values and letters a reading holds, each counted each time it is reached (what is shared counts as often as it is met; a slice's spare places count too). A statement '..UptoSaid' is the law's where the arguments, and the package variables that the reading takes, are together of bulk at most 1048576: NARROWER than '..Said'. Prove '..Said' where nothing that the law and all that it calls make is longer than what came in: it says more and counts as full. Else prove '..UptoSaid'. A law counts once. -/
mutual
def uptoBulk {H : Type} : DataW H → Nat
  | .lit (.string bytes) => bytes.length + 1
  | .lit _ => 1
  | .nil => 1
  | .ptr d => uptoBulk d + 1
  | .slice elems spare => uptoBulkAll elems + uptoBulkAll spare + 1
  | .agg parts => uptoBulkAll parts + 1
  | .iface _ d => uptoBulk d + 1
  | .map entries => uptoBulkEntries entries + 1
  | .held _ => 1
def uptoBulkAll {H : Type} : List (DataW H) → Nat
  | [] => 0
  | d :: r => uptoBulk d + uptoBulkAll r
def uptoBulkEntries {H : Type} : List (Lit × DataW H) → Nat
  | [] => 0
  | x :: r => uptoBulkEntry x + uptoBulkEntries r
def uptoBulkEntry {H : Type} : Lit × DataW H → Nat
  | (.string bytes, d) => bytes.length + uptoBulk d + 1
  | (_, d) => uptoBulk d + 1
 end
def uptoSmall : (H : Type) → List (DataW H) → Bool := fun _ ds => decide (uptoBulkAll ds ≤ 1048576)
def OpenSpec.upto (s : _root_.Go.ChangeSpec) : _root_.Go.OpenSpec := { _root_.Go.OpenSpec.ofChange s with cond := some uptoSmall }

/-- 'inklinglaw04.RelationMeanwhile', WHERE WHAT IT READS IS OF BULK AT MOST 1048576: true; the input reads as it did. -/
def relationMeanwhileUptoRow : OpenClaim := { program := "ytbaemcmagkmjiaa", sum := "358f9cbb8e0708a49203414f910a9407201f11cc8ec4f35bd32f7b3243b4311c", func := "inkling/inklinglaw04.RelationMeanwhile", spec := "relationMeanwhile", unfollowed := true, recurses := true, plainKeys := false, apart := false, narrowed := true }
def RelationMeanwhileUptoSaid : Prop := relationMeanwhileUptoRow.holds Try.pinned (OpenSpec.upto relationMeanwhileSpec)

/-- 'inklinglaw04.RelationCuts', WHERE WHAT IT READS IS OF BULK AT MOST 1048576: true; the input reads as it did. -/
def relationCutsUptoRow : OpenClaim := { program := "ytbaemcmagkmjiaa", sum := "358f9cbb8e0708a49203414f910a9407201f11cc8ec4f35bd32f7b3243b4311c", func := "inkling/inklinglaw04.RelationCuts", spec := "relationCuts", unfollowed := true, recurses := true, plainKeys := false, apart := false, narrowed := true }
def RelationCutsUptoSaid : Prop := relationCutsUptoRow.holds Try.pinned (OpenSpec.upto relationCutsSpec)

/-- 'inklinglaw04.RelationPlays', WHERE WHAT IT READS IS OF BULK AT MOST 1048576: true; the input reads as it did. -/
def relationPlaysUptoRow : OpenClaim := { program := "ytbaemcmagkmjiaa", sum := "358f9cbb8e0708a49203414f910a9407201f11cc8ec4f35bd32f7b3243b4311c", func := "inkling/inklinglaw04.RelationPlays", spec := "relationPlays", unfollowed := true, recurses := true, plainKeys := false, apart := false, narrowed := true }
def RelationPlaysUptoSaid : Prop := relationPlaysUptoRow.holds Try.pinned (OpenSpec.upto relationPlaysSpec)

end Rows
end Go.Proofs.Ytbaemcmagkmjiaa
