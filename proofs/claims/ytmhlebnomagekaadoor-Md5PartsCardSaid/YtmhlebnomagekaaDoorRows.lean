/-
  NARROWER THAN 'FOR EVERY INPUT', by the rows' own cells (each row's printed sentence says how): Md5Tells: laid · Md5Joins: laid · Md5Parts: laid · CountSums: laid · ChapChecks: laid · ChapTells: laid · ChapBack: laid.
  DERIVED. THE GIVEN ROWS OF THIS SEAT. 7 by the template 'for every input the law returns true; each argument reads behind the call as it read before'; 0 by the template 'total and deterministic' (their statements: YtmhlebnomagekaaDoorTotals.lean).
  GIVEN WITH THE SEED: the statements are not yours to turn. If you find one false, say at which input.
  Laid BY PROGRAM, IN A SANDBOX (cutbox-rows.mjs): the forced cells as the released guide's own fill.sh prints them over the translation 5a9ba779720155b2… (all of the seat's roots in one cut). By AI agents, Wed Nov 11 2026. No macro, syntax, notation, axiom, sorry.
-/
import Derived.Test.YtmhlebnomagekaaDoorChecked
import GoSem.Claim
import GoSem.ClaimJoined
import GoSem.ClaimMapViews
import Derived.JoinedTies
import Derived.KernelRfl
namespace Go.Proofs.YtmhlebnomagekaaDoor
/- THE CELL 'sum', in the pinned program and in every row, IS THE sha256 OF THE DUMP (.gsa) THAT YtmhlebnomagekaaDoorProg.lean LOADS. Nothing in Lean hashes anything: it is a label: what it is worth is what the hold of that sum in a sandbox is worth. -/
noncomputable def Tryd.pinned : Pinned := { name := "ytmhlebnomagekaadoor", sum := "5a9ba779720155b27ddc3286fd06e33320e173500e6b528711071691891a60b9", checked := Tryd.checked }
namespace Rows
def none {H : Type} : Left H := { results := [], args := [] }

/- WHAT THE LISTED PACKAGE-LEVEL VARIABLES READ AS WHEN THE CALL BEGINS. Each datum BY PROGRAM (the guide's laid-datum.mjs) off the statement by which the dump's own 'gosem.cut.vars' lays the variable. In a bare row this is a premise. The card (YtmhlebnomagekaaDoorCards.lean) ties it to the program's text. -/
def laid_math_sin {H : Type} : DataW H := .agg [.lit (.float .f64 4460209587652500685), .lit (.float .f64 13716528389658582877), .lit (.float .f64 4523617212962785441), .lit (.float .f64 13774824197404483331), .lit (.float .f64 4575957461383575504), .lit (.float .f64 13818544856648471880)]
def laid_math_cos {H : Type} : DataW H := .agg [.lit (.float .f64 13666448263388469915), .lit (.float .f64 4477121864728985349), .lit (.float .f64 13732177093698800582), .lit (.float .f64 4537941361668146421), .lit (.float .f64 13787419979223748497), .lit (.float .f64 4586165620538955083)]
def laid_math_mPi4 {H : Type} : DataW H := .agg [.lit (.int .u64 1), .lit (.int .u64 5040379952546458195), .lit (.int .u64 17892431488136887169), .lit (.int .u64 13169980181085364355), .lit (.int .u64 18204331823439776451), .lit (.int .u64 7946843935494350272), .lit (.int .u64 905889640498799673), .lit (.int .u64 18175356263134875261), .lit (.int .u64 15061281708168349961), .lit (.int .u64 15220161563773041794), .lit (.int .u64 8296664548579374057), .lit (.int .u64 4109744767560208502), .lit (.int .u64 4607516669194743839), .lit (.int .u64 16023283104648321598), .lit (.int .u64 15739233654134936430), .lit (.int .u64 11424645774684705882), .lit (.int .u64 16883842788696515318), .lit (.int .u64 8795094592981902804), .lit (.int .u64 15561835991111744016), .lit (.int .u64 12395701187267450711)]
def laid_math_bits_deBruijn32tab {H : Type} : DataW H := .agg [.lit (.int .u8 0), .lit (.int .u8 1), .lit (.int .u8 28), .lit (.int .u8 2), .lit (.int .u8 29), .lit (.int .u8 14), .lit (.int .u8 24), .lit (.int .u8 3), .lit (.int .u8 30), .lit (.int .u8 22), .lit (.int .u8 20), .lit (.int .u8 15), .lit (.int .u8 25), .lit (.int .u8 17), .lit (.int .u8 4), .lit (.int .u8 8), .lit (.int .u8 31), .lit (.int .u8 27), .lit (.int .u8 13), .lit (.int .u8 23), .lit (.int .u8 21), .lit (.int .u8 19), .lit (.int .u8 16), .lit (.int .u8 7), .lit (.int .u8 26), .lit (.int .u8 12), .lit (.int .u8 18), .lit (.int .u8 6), .lit (.int .u8 11), .lit (.int .u8 5), .lit (.int .u8 10), .lit (.int .u8 9)]
def laid_math_bits_deBruijn64tab {H : Type} : DataW H := .agg [.lit (.int .u8 0), .lit (.int .u8 1), .lit (.int .u8 56), .lit (.int .u8 2), .lit (.int .u8 57), .lit (.int .u8 49), .lit (.int .u8 28), .lit (.int .u8 3), .lit (.int .u8 61), .lit (.int .u8 58), .lit (.int .u8 42), .lit (.int .u8 50), .lit (.int .u8 38), .lit (.int .u8 29), .lit (.int .u8 17), .lit (.int .u8 4), .lit (.int .u8 62), .lit (.int .u8 47), .lit (.int .u8 59), .lit (.int .u8 36), .lit (.int .u8 45), .lit (.int .u8 43), .lit (.int .u8 51), .lit (.int .u8 22), .lit (.int .u8 53), .lit (.int .u8 39), .lit (.int .u8 33), .lit (.int .u8 30), .lit (.int .u8 24), .lit (.int .u8 18), .lit (.int .u8 12), .lit (.int .u8 5), .lit (.int .u8 63), .lit (.int .u8 55), .lit (.int .u8 48), .lit (.int .u8 27), .lit (.int .u8 60), .lit (.int .u8 41), .lit (.int .u8 37), .lit (.int .u8 16), .lit (.int .u8 46), .lit (.int .u8 35), .lit (.int .u8 44), .lit (.int .u8 21), .lit (.int .u8 52), .lit (.int .u8 32), .lit (.int .u8 23), .lit (.int .u8 11), .lit (.int .u8 54), .lit (.int .u8 26), .lit (.int .u8 40), .lit (.int .u8 15), .lit (.int .u8 34), .lit (.int .u8 20), .lit (.int .u8 31), .lit (.int .u8 10), .lit (.int .u8 25), .lit (.int .u8 14), .lit (.int .u8 19), .lit (.int .u8 9), .lit (.int .u8 13), .lit (.int .u8 8), .lit (.int .u8 7), .lit (.int .u8 6)]
def laid_internal_strconv_uint64pow10 {H : Type} : DataW H := .agg [.lit (.int .u64 1), .lit (.int .u64 10), .lit (.int .u64 100), .lit (.int .u64 1000), .lit (.int .u64 10000), .lit (.int .u64 100000), .lit (.int .u64 1000000), .lit (.int .u64 10000000), .lit (.int .u64 100000000), .lit (.int .u64 1000000000), .lit (.int .u64 10000000000), .lit (.int .u64 100000000000), .lit (.int .u64 1000000000000), .lit (.int .u64 10000000000000), .lit (.int .u64 100000000000000), .lit (.int .u64 1000000000000000), .lit (.int .u64 10000000000000000), .lit (.int .u64 100000000000000000), .lit (.int .u64 1000000000000000000), .lit (.int .u64 10000000000000000000)]

/-- 'halyardlaw05.Md5Tells': WHATEVER THE INPUT: true; the input reads as it did. -/
def md5TellsSpec : ChangeSpec := { name := "md5Tells", fn := fun _ => fun
  | [d] => { results := [.lit (.bool true)], args := [d] }
  | _ => none }
def md5TellsRow : OpenClaim := { program := "ytmhlebnomagekaadoor", sum := "5a9ba779720155b27ddc3286fd06e33320e173500e6b528711071691891a60b9", func := "halyard/halyardlaw05.Md5Tells", spec := "md5Tells", inPlace := ["math.Float64bits", "math.Float64frombits", "math/bits.Add64", "math.archFloor", "math.archTrunc", "internal/abi.NoEscape"], unfollowed := true, recurses := true, named := ["math._cos", "math._sin", "math.mPi4"], apart := false, laid := [("math._sin", laid_math_sin), ("math._cos", laid_math_cos), ("math.mPi4", laid_math_mPi4)] }
def Md5TellsSaid : Prop := md5TellsRow.holds Tryd.pinned (OpenSpec.ofChange md5TellsSpec)

/-- ITS FALSE NEIGHBOUR: 'it returns false'. Refute it at one input. -/
def md5TellsWrong : ChangeSpec := { name := "md5Tells", fn := fun _ => fun
  | [d] => { results := [.lit (.bool false)], args := [d] }
  | _ => none }
def Md5TellsWrongFalsely : Prop := md5TellsRow.holds Tryd.pinned (OpenSpec.ofChange md5TellsWrong)

/-- 'halyardlaw05.Md5Joins': WHATEVER THE INPUT: true; the input reads as it did. -/
def md5JoinsSpec : ChangeSpec := { name := "md5Joins", fn := fun _ => fun
  | [d1, d2, d3] => { results := [.lit (.bool true)], args := [d1, d2, d3] }
  | _ => none }
def md5JoinsRow : OpenClaim := { program := "ytmhlebnomagekaadoor", sum := "5a9ba779720155b27ddc3286fd06e33320e173500e6b528711071691891a60b9", func := "halyard/halyardlaw05.Md5Joins", spec := "md5Joins", inPlace := ["math.Float64bits", "math.Float64frombits", "math/bits.Add64", "math.archFloor", "math.archTrunc", "internal/abi.NoEscape"], unfollowed := true, recurses := true, named := ["math._cos", "math._sin", "math.mPi4"], apart := false, laid := [("math._sin", laid_math_sin), ("math._cos", laid_math_cos), ("math.mPi4", laid_math_mPi4)] }
def Md5JoinsSaid : Prop := md5JoinsRow.holds Tryd.pinned (OpenSpec.ofChange md5JoinsSpec)

/-- ITS FALSE NEIGHBOUR: 'it returns false'. Refute it at one input. -/
def md5JoinsWrong : ChangeSpec := { name := "md5Joins", fn := fun _ => fun
  | [d1, d2, d3] => { results := [.lit (.bool false)], args := [d1, d2, d3] }
  | _ => none }
def Md5JoinsWrongFalsely : Prop := md5JoinsRow.holds Tryd.pinned (OpenSpec.ofChange md5JoinsWrong)

/-- 'halyardlaw05.Md5Parts': WHATEVER THE INPUT: true; the input reads as it did. -/
def md5PartsSpec : ChangeSpec := { name := "md5Parts", fn := fun _ => fun
  | [d1, d2] => { results := [.lit (.bool true)], args := [d1, d2] }
  | _ => none }
def md5PartsRow : OpenClaim := { program := "ytmhlebnomagekaadoor", sum := "5a9ba779720155b27ddc3286fd06e33320e173500e6b528711071691891a60b9", func := "halyard/halyardlaw05.Md5Parts", spec := "md5Parts", inPlace := ["math.Float64bits", "math.Float64frombits", "math/bits.Add64", "math.archFloor", "math.archTrunc", "internal/abi.NoEscape"], unfollowed := true, recurses := true, named := ["math._cos", "math._sin", "math.mPi4"], apart := false, laid := [("math._sin", laid_math_sin), ("math._cos", laid_math_cos), ("math.mPi4", laid_math_mPi4)] }
def Md5PartsSaid : Prop := md5PartsRow.holds Tryd.pinned (OpenSpec.ofChange md5PartsSpec)

/-- ITS FALSE NEIGHBOUR: 'it returns false'. Refute it at one input. -/
def md5PartsWrong : ChangeSpec := { name := "md5Parts", fn := fun _ => fun
  | [d1, d2] => { results := [.lit (.bool false)], args := [d1, d2] }
  | _ => none }
def Md5PartsWrongFalsely : Prop := md5PartsRow.holds Tryd.pinned (OpenSpec.ofChange md5PartsWrong)

/-- 'halyardlaw40.CountSums': WHATEVER THE INPUT: true; the input reads as it did. -/
def countSumsSpec : ChangeSpec := { name := "countSums", fn := fun _ => fun
  | [d1, d2] => { results := [.lit (.bool true)], args := [d1, d2] }
  | _ => none }
def countSumsRow : OpenClaim := { program := "ytmhlebnomagekaadoor", sum := "5a9ba779720155b27ddc3286fd06e33320e173500e6b528711071691891a60b9", func := "halyard/halyardlaw40.CountSums", spec := "countSums", inPlace := ["internal/abi.NoEscape", "internal/bytealg.MakeNoZero"], unfollowed := true, recurses := true, named := ["internal/strconv.uint64pow10", "math/bits.deBruijn32tab", "math/bits.deBruijn64tab"], apart := false, laid := [("math/bits.deBruijn32tab", laid_math_bits_deBruijn32tab), ("math/bits.deBruijn64tab", laid_math_bits_deBruijn64tab), ("internal/strconv.uint64pow10", laid_internal_strconv_uint64pow10)] }
def CountSumsSaid : Prop := countSumsRow.holds Tryd.pinned (OpenSpec.ofChange countSumsSpec)

/-- ITS FALSE NEIGHBOUR: 'it returns false'. Refute it at one input. -/
def countSumsWrong : ChangeSpec := { name := "countSums", fn := fun _ => fun
  | [d1, d2] => { results := [.lit (.bool false)], args := [d1, d2] }
  | _ => none }
def CountSumsWrongFalsely : Prop := countSumsRow.holds Tryd.pinned (OpenSpec.ofChange countSumsWrong)

/-- 'halyardlaw19.ChapChecks': WHATEVER THE INPUT: true; the input reads as it did. -/
def chapChecksSpec : ChangeSpec := { name := "chapChecks", fn := fun _ => fun
  | [d1, d2] => { results := [.lit (.bool true)], args := [d1, d2] }
  | _ => none }
def chapChecksRow : OpenClaim := { program := "ytmhlebnomagekaadoor", sum := "5a9ba779720155b27ddc3286fd06e33320e173500e6b528711071691891a60b9", func := "halyard/halyardlaw19.ChapChecks", spec := "chapChecks", inPlace := ["internal/abi.NoEscape", "internal/bytealg.MakeNoZero", "math.Float64bits", "math.Float64frombits", "math/bits.Add64", "math.archFloor", "math.archTrunc"], unfollowed := true, recurses := true, named := ["math._cos", "math._sin", "math.mPi4"], apart := false, laid := [("math._sin", laid_math_sin), ("math._cos", laid_math_cos), ("math.mPi4", laid_math_mPi4)] }
def ChapChecksSaid : Prop := chapChecksRow.holds Tryd.pinned (OpenSpec.ofChange chapChecksSpec)

/-- ITS FALSE NEIGHBOUR: 'it returns false'. Refute it at one input. -/
def chapChecksWrong : ChangeSpec := { name := "chapChecks", fn := fun _ => fun
  | [d1, d2] => { results := [.lit (.bool false)], args := [d1, d2] }
  | _ => none }
def ChapChecksWrongFalsely : Prop := chapChecksRow.holds Tryd.pinned (OpenSpec.ofChange chapChecksWrong)

/-- 'halyardlaw19.ChapTells': WHATEVER THE INPUT: true; the input reads as it did. -/
def chapTellsSpec : ChangeSpec := { name := "chapTells", fn := fun _ => fun
  | [d] => { results := [.lit (.bool true)], args := [d] }
  | _ => none }
def chapTellsRow : OpenClaim := { program := "ytmhlebnomagekaadoor", sum := "5a9ba779720155b27ddc3286fd06e33320e173500e6b528711071691891a60b9", func := "halyard/halyardlaw19.ChapTells", spec := "chapTells", inPlace := ["internal/abi.NoEscape", "internal/bytealg.MakeNoZero", "math.Float64bits", "math.Float64frombits", "math/bits.Add64", "math.archFloor", "math.archTrunc"], unfollowed := true, recurses := true, named := ["math._cos", "math._sin", "math.mPi4"], apart := false, laid := [("math._sin", laid_math_sin), ("math._cos", laid_math_cos), ("math.mPi4", laid_math_mPi4)] }
def ChapTellsSaid : Prop := chapTellsRow.holds Tryd.pinned (OpenSpec.ofChange chapTellsSpec)

/-- ITS FALSE NEIGHBOUR: 'it returns false'. Refute it at one input. -/
def chapTellsWrong : ChangeSpec := { name := "chapTells", fn := fun _ => fun
  | [d] => { results := [.lit (.bool false)], args := [d] }
  | _ => none }
def ChapTellsWrongFalsely : Prop := chapTellsRow.holds Tryd.pinned (OpenSpec.ofChange chapTellsWrong)

/-- 'halyardlaw19.ChapBack': WHATEVER THE INPUT: true; the input reads as it did. -/
def chapBackSpec : ChangeSpec := { name := "chapBack", fn := fun _ => fun
  | [d] => { results := [.lit (.bool true)], args := [d] }
  | _ => none }
def chapBackRow : OpenClaim := { program := "ytmhlebnomagekaadoor", sum := "5a9ba779720155b27ddc3286fd06e33320e173500e6b528711071691891a60b9", func := "halyard/halyardlaw19.ChapBack", spec := "chapBack", inPlace := ["internal/abi.NoEscape", "internal/bytealg.MakeNoZero", "math.Float64bits", "math.Float64frombits", "math/bits.Add64", "math.archFloor", "math.archTrunc"], unfollowed := true, recurses := true, named := ["math._cos", "math._sin", "math.mPi4"], apart := false, laid := [("math._sin", laid_math_sin), ("math._cos", laid_math_cos), ("math.mPi4", laid_math_mPi4)] }
def ChapBackSaid : Prop := chapBackRow.holds Tryd.pinned (OpenSpec.ofChange chapBackSpec)

/-- ITS FALSE NEIGHBOUR: 'it returns false'. Refute it at one input. -/
def chapBackWrong : ChangeSpec := { name := "chapBack", fn := fun _ => fun
  | [d] => { results := [.lit (.bool false)], args := [d] }
  | _ => none }
def ChapBackWrongFalsely : Prop := chapBackRow.holds Tryd.pinned (OpenSpec.ofChange chapBackWrong)

/- THE SECOND FORM. 'bulk': how many values and letters a reading holds, each counted each time it is reached (what is shared counts as often as it is met; a slice's spare places count too). A statement '..UptoSaid' is the law's where the arguments, and the package variables that the reading takes, are together of bulk at most 1048576: NARROWER than '..Said'. Prove '..Said' where nothing that the law and all that it calls make is longer than what came in: it says more and counts as full. Else prove '..UptoSaid'. A law counts once. -/
mutual
def uptoBulk {H : Type} : DataW H → Nat
  | .lit (.string bytes) => bytes.length + 1
  | .lit _ => 1
  | .nil => 1
  | .ptr d => uptoBulk d + 1
  | .slice elems spare => uptoBulkAll elems + uptoBulkAll spare + 1
  | .agg parts => uptoBulkAll parts + 1
  | .iface _ d => uptoBulk d + 1
  | .map entries => uptoBulkEntries entries + 1
  | .held _ => 1
def uptoBulkAll {H : Type} : List (DataW H) → Nat
  | [] => 0
  | d :: r => uptoBulk d + uptoBulkAll r
def uptoBulkEntries {H : Type} : List (Lit × DataW H) → Nat
  | [] => 0
  | x :: r => uptoBulkEntry x + uptoBulkEntries r
def uptoBulkEntry {H : Type} : Lit × DataW H → Nat
  | (.string bytes, d) => bytes.length + uptoBulk d + 1
  | (_, d) => uptoBulk d + 1
 end
def uptoSmall : (H : Type) → List (DataW H) → Bool := fun _ ds => decide (uptoBulkAll ds ≤ 1048576)
def OpenSpec.upto (s : _root_.Go.ChangeSpec) : _root_.Go.OpenSpec := { _root_.Go.OpenSpec.ofChange s with cond := some uptoSmall }

/-- 'halyardlaw05.Md5Tells', WHERE WHAT IT READS IS OF BULK AT MOST 1048576: true; the input reads as it did. -/
def md5TellsUptoRow : OpenClaim := { program := "ytmhlebnomagekaadoor", sum := "5a9ba779720155b27ddc3286fd06e33320e173500e6b528711071691891a60b9", func := "halyard/halyardlaw05.Md5Tells", spec := "md5Tells", inPlace := ["math.Float64bits", "math.Float64frombits", "math/bits.Add64", "math.archFloor", "math.archTrunc", "internal/abi.NoEscape"], unfollowed := true, recurses := true, named := ["math._cos", "math._sin", "math.mPi4"], apart := false, laid := [("math._sin", laid_math_sin), ("math._cos", laid_math_cos), ("math.mPi4", laid_math_mPi4)], narrowed := true }
def Md5TellsUptoSaid : Prop := md5TellsUptoRow.holds Tryd.pinned (OpenSpec.upto md5TellsSpec)

/-- 'halyardlaw05.Md5Joins', WHERE WHAT IT READS IS OF BULK AT MOST 1048576: true; the input reads as it did. -/
def md5JoinsUptoRow : OpenClaim := { program := "ytmhlebnomagekaadoor", sum := "5a9ba779720155b27ddc3286fd06e33320e173500e6b528711071691891a60b9", func := "halyard/halyardlaw05.Md5Joins", spec := "md5Joins", inPlace := ["math.Float64bits", "math.Float64frombits", "math/bits.Add64", "math.archFloor", "math.archTrunc", "internal/abi.NoEscape"], unfollowed := true, recurses := true, named := ["math._cos", "math._sin", "math.mPi4"], apart := false, laid := [("math._sin", laid_math_sin), ("math._cos", laid_math_cos), ("math.mPi4", laid_math_mPi4)], narrowed := true }
def Md5JoinsUptoSaid : Prop := md5JoinsUptoRow.holds Tryd.pinned (OpenSpec.upto md5JoinsSpec)

/-- 'halyardlaw05.Md5Parts', WHERE WHAT IT READS IS OF BULK AT MOST 1048576: true; the input reads as it did. -/
def md5PartsUptoRow : OpenClaim := { program := "ytmhlebnomagekaadoor", sum := "5a9ba779720155b27ddc3286fd06e33320e173500e6b528711071691891a60b9", func := "halyard/halyardlaw05.Md5Parts", spec := "md5Parts", inPlace := ["math.Float64bits", "math.Float64frombits", "math/bits.Add64", "math.archFloor", "math.archTrunc", "internal/abi.NoEscape"], unfollowed := true, recurses := true, named := ["math._cos", "math._sin", "math.mPi4"], apart := false, laid := [("math._sin", laid_math_sin), ("math._cos", laid_math_cos), ("math.mPi4", laid_math_mPi4)], narrowed := true }
def Md5PartsUptoSaid : Prop := md5PartsUptoRow.holds Tryd.pinned (OpenSpec.upto md5PartsSpec)

/-- 'halyardlaw40.CountSums', WHERE WHAT IT READS IS OF BULK AT MOST 1048576: true; the input reads as it did. -/
def countSumsUptoRow : OpenClaim := { program := "ytmhlebnomagekaadoor", sum := "5a9ba779720155b27ddc3286fd06e33320e173500e6b528711071691891a60b9", func := "halyard/halyardlaw40.CountSums", spec := "countSums", inPlace := ["internal/abi.NoEscape", "internal/bytealg.MakeNoZero"], unfollowed := true, recurses := true, named := ["internal/strconv.uint64pow10", "math/bits.deBruijn32tab", "math/bits.deBruijn64tab"], apart := false, laid := [("math/bits.deBruijn32tab", laid_math_bits_deBruijn32tab), ("math/bits.deBruijn64tab", laid_math_bits_deBruijn64tab), ("internal/strconv.uint64pow10", laid_internal_strconv_uint64pow10)], narrowed := true }
def CountSumsUptoSaid : Prop := countSumsUptoRow.holds Tryd.pinned (OpenSpec.upto countSumsSpec)

/-- 'halyardlaw19.ChapChecks', WHERE WHAT IT READS IS OF BULK AT MOST 1048576: true; the input reads as it did. -/
def chapChecksUptoRow : OpenClaim := { program := "ytmhlebnomagekaadoor", sum := "5a9ba779720155b27ddc3286fd06e33320e173500e6b528711071691891a60b9", func := "halyard/halyardlaw19.ChapChecks", spec := "chapChecks", inPlace := ["internal/abi.NoEscape", "internal/bytealg.MakeNoZero", "math.Float64bits", "math.Float64frombits", "math/bits.Add64", "math.archFloor", "math.archTrunc"], unfollowed := true, recurses := true, named := ["math._cos", "math._sin", "math.mPi4"], apart := false, laid := [("math._sin", laid_math_sin), ("math._cos", laid_math_cos), ("math.mPi4", laid_math_mPi4)], narrowed := true }
def ChapChecksUptoSaid : Prop := chapChecksUptoRow.holds Tryd.pinned (OpenSpec.upto chapChecksSpec)

/-- 'halyardlaw19.ChapTells', WHERE WHAT IT READS IS OF BULK AT MOST 1048576: true; the input reads as it did. -/
def chapTellsUptoRow : OpenClaim := { program := "ytmhlebnomagekaadoor", sum := "5a9ba779720155b27ddc3286fd06e33320e173500e6b528711071691891a60b9", func := "halyard/halyardlaw19.ChapTells", spec := "chapTells", inPlace := ["internal/abi.NoEscape", "internal/bytealg.MakeNoZero", "math.Float64bits", "math.Float64frombits", "math/bits.Add64", "math.archFloor", "math.archTrunc"], unfollowed := true, recurses := true, named := ["math._cos", "math._sin", "math.mPi4"], apart := false, laid := [("math._sin", laid_math_sin), ("math._cos", laid_math_cos), ("math.mPi4", laid_math_mPi4)], narrowed := true }
def ChapTellsUptoSaid : Prop := chapTellsUptoRow.holds Tryd.pinned (OpenSpec.upto chapTellsSpec)

/-- 'halyardlaw19.ChapBack', WHERE WHAT IT READS IS OF BULK AT MOST 1048576: true; the input reads as it did. -/
def chapBackUptoRow : OpenClaim := { program := "ytmhlebnomagekaadoor", sum := "5a9ba779720155b27ddc3286fd06e33320e173500e6b528711071691891a60b9", func := "halyard/halyardlaw19.ChapBack", spec := "chapBack", inPlace := ["internal/abi.NoEscape", "internal/bytealg.MakeNoZero", "math.Float64bits", "math.Float64frombits", "math/bits.Add64", "math.archFloor", "math.archTrunc"], unfollowed := true, recurses := true, named := ["math._cos", "math._sin", "math.mPi4"], apart := false, laid := [("math._sin", laid_math_sin), ("math._cos", laid_math_cos), ("math.mPi4", laid_math_mPi4)], narrowed := true }
def ChapBackUptoSaid : Prop := chapBackUptoRow.holds Tryd.pinned (OpenSpec.upto chapBackSpec)

end Rows
end Go.Proofs.YtmhlebnomagekaaDoor
