/-
  No cell of these rows narrows 'for every input' (looked for: loops, veiled, ifaces, maps, wideKeys, modest, calm, conditions, laid).
  DERIVED. THE GIVEN ROWS OF THIS SEAT. 7 by the template 'for every input the law returns true; each argument reads behind the call as it read before'; 0 by the template 'total and deterministic' (their statements: YtmhlebnomagekaaTotals.lean).
  GIVEN WITH THE SEED: the statements are not yours to turn. If you find one false, say at which input.
  Laid BY PROGRAM, IN A SANDBOX (cutbox-rows.mjs): the forced cells as the released guide's own fill.sh prints them over the translation a553eaca54577d02… (all of the seat's roots in one cut). By AI agents, Wed Nov 11 2026. No macro, syntax, notation, axiom, sorry.
-/
import Derived.Test.YtmhlebnomagekaaChecked
import GoSem.Claim
import GoSem.ClaimJoined
import GoSem.ClaimMapViews
import Derived.JoinedTies
import Derived.KernelRfl
namespace Go.Proofs.Ytmhlebnomagekaa
/- THE CELL 'sum', in the pinned program and in every row, IS THE sha256 OF THE DUMP (.gsa) THAT YtmhlebnomagekaaProg.lean LOADS. Nothing in Lean hashes anything: it is a label: what it is worth is what the hold of that sum in a sandbox is worth. -/
noncomputable def Try.pinned : Pinned := { name := "ytmhlebnomagekaa", sum := "a553eaca54577d0216aa1002829a50735b7efe2df08b541e07de083a8aa946a9", checked := Try.checked }
namespace Rows
def none {H : Type} : Left H := { results := [], args := [] }

/-- 'halyardlaw28.RecordBytes': WHATEVER THE INPUT: true; the input reads as it did. -/
def recordBytesSpec : ChangeSpec := { name := "recordBytes", fn := fun _ => fun
  | [d1, d2, d3] => { results := [.lit (.bool true)], args := [d1, d2, d3] }
  | _ => none }
def recordBytesRow : OpenClaim := { program := "ytmhlebnomagekaa", sum := "a553eaca54577d0216aa1002829a50735b7efe2df08b541e07de083a8aa946a9", func := "halyard/halyardlaw28.RecordBytes", spec := "recordBytes", inPlace := ["internal/abi.NoEscape"], plainKeys := false, apart := false }
def RecordBytesSaid : Prop := recordBytesRow.holds Try.pinned (OpenSpec.ofChange recordBytesSpec)

/-- ITS FALSE NEIGHBOUR: 'it returns false'. Refute it at one input. -/
def recordBytesWrong : ChangeSpec := { name := "recordBytes", fn := fun _ => fun
  | [d1, d2, d3] => { results := [.lit (.bool false)], args := [d1, d2, d3] }
  | _ => none }
def RecordBytesWrongFalsely : Prop := recordBytesRow.holds Try.pinned (OpenSpec.ofChange recordBytesWrong)

/-- 'halyardlaw29.StoreTwo': WHATEVER THE INPUT: true; the input reads as it did. -/
def storeTwoSpec : ChangeSpec := { name := "storeTwo", fn := fun _ => fun
  | [d1, d2, d3, d4] => { results := [.lit (.bool true)], args := [d1, d2, d3, d4] }
  | _ => none }
def storeTwoRow : OpenClaim := { program := "ytmhlebnomagekaa", sum := "a553eaca54577d0216aa1002829a50735b7efe2df08b541e07de083a8aa946a9", func := "halyard/halyardlaw29.StoreTwo", spec := "storeTwo", inPlace := ["maps.clone"], unfollowed := true, recurses := true, plainKeys := false, apart := false }
def StoreTwoSaid : Prop := storeTwoRow.holds Try.pinned (OpenSpec.ofChange storeTwoSpec)

/-- ITS FALSE NEIGHBOUR: 'it returns false'. Refute it at one input. -/
def storeTwoWrong : ChangeSpec := { name := "storeTwo", fn := fun _ => fun
  | [d1, d2, d3, d4] => { results := [.lit (.bool false)], args := [d1, d2, d3, d4] }
  | _ => none }
def StoreTwoWrongFalsely : Prop := storeTwoRow.holds Try.pinned (OpenSpec.ofChange storeTwoWrong)

/-- 'halyardlaw27.PlansOrder': WHATEVER THE INPUT: true; the input reads as it did. -/
def plansOrderSpec : ChangeSpec := { name := "plansOrder", fn := fun _ => fun
  | [d1, d2] => { results := [.lit (.bool true)], args := [d1, d2] }
  | _ => none }
def plansOrderRow : OpenClaim := { program := "ytmhlebnomagekaa", sum := "a553eaca54577d0216aa1002829a50735b7efe2df08b541e07de083a8aa946a9", func := "halyard/halyardlaw27.PlansOrder", spec := "plansOrder", inPlace := ["internal/bytealg.abigen_runtime_cmpstring"], unfollowed := true, recurses := true, plainKeys := false, apart := false }
def PlansOrderSaid : Prop := plansOrderRow.holds Try.pinned (OpenSpec.ofChange plansOrderSpec)

/-- ITS FALSE NEIGHBOUR: 'it returns false'. Refute it at one input. -/
def plansOrderWrong : ChangeSpec := { name := "plansOrder", fn := fun _ => fun
  | [d1, d2] => { results := [.lit (.bool false)], args := [d1, d2] }
  | _ => none }
def PlansOrderWrongFalsely : Prop := plansOrderRow.holds Try.pinned (OpenSpec.ofChange plansOrderWrong)

/-- 'halyardlaw27.PlansPlay': WHATEVER THE INPUT: true; the input reads as it did. -/
def plansPlaySpec : ChangeSpec := { name := "plansPlay", fn := fun _ => fun
  | [d1, d2, d3, d4] => { results := [.lit (.bool true)], args := [d1, d2, d3, d4] }
  | _ => none }
def plansPlayRow : OpenClaim := { program := "ytmhlebnomagekaa", sum := "a553eaca54577d0216aa1002829a50735b7efe2df08b541e07de083a8aa946a9", func := "halyard/halyardlaw27.PlansPlay", spec := "plansPlay", inPlace := ["internal/bytealg.abigen_runtime_cmpstring", "maps.clone"], unfollowed := true, recurses := true, plainKeys := false, apart := false }
def PlansPlaySaid : Prop := plansPlayRow.holds Try.pinned (OpenSpec.ofChange plansPlaySpec)

/-- ITS FALSE NEIGHBOUR: 'it returns false'. Refute it at one input. -/
def plansPlayWrong : ChangeSpec := { name := "plansPlay", fn := fun _ => fun
  | [d1, d2, d3, d4] => { results := [.lit (.bool false)], args := [d1, d2, d3, d4] }
  | _ => none }
def PlansPlayWrongFalsely : Prop := plansPlayRow.holds Try.pinned (OpenSpec.ofChange plansPlayWrong)

/-- 'halyardlaw33.HistoryBytes': WHATEVER THE INPUT: true; the input reads as it did. -/
def historyBytesSpec : ChangeSpec := { name := "historyBytes", fn := fun _ => fun
  | [d1, d2] => { results := [.lit (.bool true)], args := [d1, d2] }
  | _ => none }
def historyBytesRow : OpenClaim := { program := "ytmhlebnomagekaa", sum := "a553eaca54577d0216aa1002829a50735b7efe2df08b541e07de083a8aa946a9", func := "halyard/halyardlaw33.HistoryBytes", spec := "historyBytes", inPlace := ["internal/abi.NoEscape", "internal/bytealg.MakeNoZero"], unfollowed := true, recurses := true, plainKeys := false, apart := false }
def HistoryBytesSaid : Prop := historyBytesRow.holds Try.pinned (OpenSpec.ofChange historyBytesSpec)

/-- ITS FALSE NEIGHBOUR: 'it returns false'. Refute it at one input. -/
def historyBytesWrong : ChangeSpec := { name := "historyBytes", fn := fun _ => fun
  | [d1, d2] => { results := [.lit (.bool false)], args := [d1, d2] }
  | _ => none }
def HistoryBytesWrongFalsely : Prop := historyBytesRow.holds Try.pinned (OpenSpec.ofChange historyBytesWrong)

/-- 'halyardlaw33.HistoryFront': WHATEVER THE INPUT: true; the input reads as it did. -/
def historyFrontSpec : ChangeSpec := { name := "historyFront", fn := fun _ => fun
  | [d1, d2] => { results := [.lit (.bool true)], args := [d1, d2] }
  | _ => none }
def historyFrontRow : OpenClaim := { program := "ytmhlebnomagekaa", sum := "a553eaca54577d0216aa1002829a50735b7efe2df08b541e07de083a8aa946a9", func := "halyard/halyardlaw33.HistoryFront", spec := "historyFront", inPlace := ["internal/abi.NoEscape", "internal/bytealg.MakeNoZero"], unfollowed := true, recurses := true, plainKeys := false, apart := false }
def HistoryFrontSaid : Prop := historyFrontRow.holds Try.pinned (OpenSpec.ofChange historyFrontSpec)

/-- ITS FALSE NEIGHBOUR: 'it returns false'. Refute it at one input. -/
def historyFrontWrong : ChangeSpec := { name := "historyFront", fn := fun _ => fun
  | [d1, d2] => { results := [.lit (.bool false)], args := [d1, d2] }
  | _ => none }
def HistoryFrontWrongFalsely : Prop := historyFrontRow.holds Try.pinned (OpenSpec.ofChange historyFrontWrong)

/-- 'halyardlaw33.HistoryLoses': WHATEVER THE INPUT: true; the input reads as it did. -/
def historyLosesSpec : ChangeSpec := { name := "historyLoses", fn := fun _ => fun
  | [d1, d2] => { results := [.lit (.bool true)], args := [d1, d2] }
  | _ => none }
def historyLosesRow : OpenClaim := { program := "ytmhlebnomagekaa", sum := "a553eaca54577d0216aa1002829a50735b7efe2df08b541e07de083a8aa946a9", func := "halyard/halyardlaw33.HistoryLoses", spec := "historyLoses", inPlace := ["internal/abi.NoEscape", "internal/bytealg.MakeNoZero"], unfollowed := true, recurses := true, plainKeys := false, apart := false }
def HistoryLosesSaid : Prop := historyLosesRow.holds Try.pinned (OpenSpec.ofChange historyLosesSpec)

/-- ITS FALSE NEIGHBOUR: 'it returns false'. Refute it at one input. -/
def historyLosesWrong : ChangeSpec := { name := "historyLoses", fn := fun _ => fun
  | [d1, d2] => { results := [.lit (.bool false)], args := [d1, d2] }
  | _ => none }
def HistoryLosesWrongFalsely : Prop := historyLosesRow.holds Try.pinned (OpenSpec.ofChange historyLosesWrong)

/- THE SECOND FORM. 'bulk': how many values and letters a reading holds, each counted each time it is reached (what is shared counts as often as it is met; a slice's spare places count too). A statement '..UptoSaid' is the law's where the arguments, and the package variables that the reading takes, are together of bulk at most 1048576: NARROWER than '..Said'. Prove '..Said' where nothing that the law and all that it calls make is longer than what came in: it says more and counts as full. Else prove '..UptoSaid'. A law counts once. -/
mutual
def uptoBulk {H : Type} : DataW H → Nat
  | .lit (.string bytes) => bytes.length + 1
  | .lit _ => 1
  | .nil => 1
  | .ptr d => uptoBulk d + 1
  | .slice elems spare => uptoBulkAll elems + uptoBulkAll spare + 1
  | .agg parts => uptoBulkAll parts + 1
  | .iface _ d => uptoBulk d + 1
  | .map entries => uptoBulkEntries entries + 1
  | .held _ => 1
def uptoBulkAll {H : Type} : List (DataW H) → Nat
  | [] => 0
  | d :: r => uptoBulk d + uptoBulkAll r
def uptoBulkEntries {H : Type} : List (Lit × DataW H) → Nat
  | [] => 0
  | x :: r => uptoBulkEntry x + uptoBulkEntries r
def uptoBulkEntry {H : Type} : Lit × DataW H → Nat
  | (.string bytes, d) => bytes.length + uptoBulk d + 1
  | (_, d) => uptoBulk d + 1
 end
def uptoSmall : (H : Type) → List (DataW H) → Bool := fun _ ds => decide (uptoBulkAll ds ≤ 1048576)
def OpenSpec.upto (s : _root_.Go.ChangeSpec) : _root_.Go.OpenSpec := { _root_.Go.OpenSpec.ofChange s with cond := some uptoSmall }

/-- 'halyardlaw28.RecordBytes', WHERE WHAT IT READS IS OF BULK AT MOST 1048576: true; the input reads as it did. -/
def recordBytesUptoRow : OpenClaim := { program := "ytmhlebnomagekaa", sum := "a553eaca54577d0216aa1002829a50735b7efe2df08b541e07de083a8aa946a9", func := "halyard/halyardlaw28.RecordBytes", spec := "recordBytes", inPlace := ["internal/abi.NoEscape"], plainKeys := false, apart := false, narrowed := true }
def RecordBytesUptoSaid : Prop := recordBytesUptoRow.holds Try.pinned (OpenSpec.upto recordBytesSpec)

/-- 'halyardlaw29.StoreTwo', WHERE WHAT IT READS IS OF BULK AT MOST 1048576: true; the input reads as it did. -/
def storeTwoUptoRow : OpenClaim := { program := "ytmhlebnomagekaa", sum := "a553eaca54577d0216aa1002829a50735b7efe2df08b541e07de083a8aa946a9", func := "halyard/halyardlaw29.StoreTwo", spec := "storeTwo", inPlace := ["maps.clone"], unfollowed := true, recurses := true, plainKeys := false, apart := false, narrowed := true }
def StoreTwoUptoSaid : Prop := storeTwoUptoRow.holds Try.pinned (OpenSpec.upto storeTwoSpec)

/-- 'halyardlaw27.PlansOrder', WHERE WHAT IT READS IS OF BULK AT MOST 1048576: true; the input reads as it did. -/
def plansOrderUptoRow : OpenClaim := { program := "ytmhlebnomagekaa", sum := "a553eaca54577d0216aa1002829a50735b7efe2df08b541e07de083a8aa946a9", func := "halyard/halyardlaw27.PlansOrder", spec := "plansOrder", inPlace := ["internal/bytealg.abigen_runtime_cmpstring"], unfollowed := true, recurses := true, plainKeys := false, apart := false, narrowed := true }
def PlansOrderUptoSaid : Prop := plansOrderUptoRow.holds Try.pinned (OpenSpec.upto plansOrderSpec)

/-- 'halyardlaw27.PlansPlay', WHERE WHAT IT READS IS OF BULK AT MOST 1048576: true; the input reads as it did. -/
def plansPlayUptoRow : OpenClaim := { program := "ytmhlebnomagekaa", sum := "a553eaca54577d0216aa1002829a50735b7efe2df08b541e07de083a8aa946a9", func := "halyard/halyardlaw27.PlansPlay", spec := "plansPlay", inPlace := ["internal/bytealg.abigen_runtime_cmpstring", "maps.clone"], unfollowed := true, recurses := true, plainKeys := false, apart := false, narrowed := true }
def PlansPlayUptoSaid : Prop := plansPlayUptoRow.holds Try.pinned (OpenSpec.upto plansPlaySpec)

/-- 'halyardlaw33.HistoryBytes', WHERE WHAT IT READS IS OF BULK AT MOST 1048576: true; the input reads as it did. -/
def historyBytesUptoRow : OpenClaim := { program := "ytmhlebnomagekaa", sum := "a553eaca54577d0216aa1002829a50735b7efe2df08b541e07de083a8aa946a9", func := "halyard/halyardlaw33.HistoryBytes", spec := "historyBytes", inPlace := ["internal/abi.NoEscape", "internal/bytealg.MakeNoZero"], unfollowed := true, recurses := true, plainKeys := false, apart := false, narrowed := true }
def HistoryBytesUptoSaid : Prop := historyBytesUptoRow.holds Try.pinned (OpenSpec.upto historyBytesSpec)

/-- 'halyardlaw33.HistoryFront', WHERE WHAT IT READS IS OF BULK AT MOST 1048576: true; the input reads as it did. -/
def historyFrontUptoRow : OpenClaim := { program := "ytmhlebnomagekaa", sum := "a553eaca54577d0216aa1002829a50735b7efe2df08b541e07de083a8aa946a9", func := "halyard/halyardlaw33.HistoryFront", spec := "historyFront", inPlace := ["internal/abi.NoEscape", "internal/bytealg.MakeNoZero"], unfollowed := true, recurses := true, plainKeys := false, apart := false, narrowed := true }
def HistoryFrontUptoSaid : Prop := historyFrontUptoRow.holds Try.pinned (OpenSpec.upto historyFrontSpec)

/-- 'halyardlaw33.HistoryLoses', WHERE WHAT IT READS IS OF BULK AT MOST 1048576: true; the input reads as it did. -/
def historyLosesUptoRow : OpenClaim := { program := "ytmhlebnomagekaa", sum := "a553eaca54577d0216aa1002829a50735b7efe2df08b541e07de083a8aa946a9", func := "halyard/halyardlaw33.HistoryLoses", spec := "historyLoses", inPlace := ["internal/abi.NoEscape", "internal/bytealg.MakeNoZero"], unfollowed := true, recurses := true, plainKeys := false, apart := false, narrowed := true }
def HistoryLosesUptoSaid : Prop := historyLosesUptoRow.holds Try.pinned (OpenSpec.upto historyLosesSpec)

end Rows
end Go.Proofs.Ytmhlebnomagekaa
