/-
  NARROWER THAN 'FOR EVERY INPUT', by the rows' own cells (each row's printed sentence says how): ResolveSafe: laid.
  DERIVED. THE GIVEN ROWS OF THIS SEAT. 1 by the template 'for every input the law returns true; each argument reads behind the call as it read before'; 0 by the template 'total and deterministic' (their statements: YtmhnnmfcjdnlhaaGreatDoorTotals.lean).
  GIVEN WITH THE SEED: the statements are not yours to turn. If you find one false, say at which input.
  Laid BY PROGRAM, IN A SANDBOX (cutbox-rows.mjs): the forced cells as the released guide's own fill.sh prints them over the translation 52cf07aad0df69fc… (all of the seat's roots in one cut). By AI agents, Wed Nov 11 2026. No macro, syntax, notation, axiom, sorry.
-/
import Derived.Test.YtmhnnmfcjdnlhaaGreatDoorChecked
import GoSem.Claim
import GoSem.ClaimJoined
import GoSem.ClaimMapViews
import Derived.JoinedTies
import Derived.KernelRfl
namespace Go.Proofs.YtmhnnmfcjdnlhaaGreatDoor
/- THE CELL 'sum', in the pinned program and in every row, IS THE sha256 OF THE DUMP (.gsa) THAT YtmhnnmfcjdnlhaaGreatDoorProg.lean LOADS. Nothing in Lean hashes anything: it is a label: what it is worth is what the hold of that sum in a sandbox is worth. -/
noncomputable def Tryz.pinned : Pinned := { name := "ytmhnnmfcjdnlhaagreatdoor", sum := "52cf07aad0df69fcebc7d83ff2cad9f8ea1cfddbd5dfdff8336a6b9fed5fe8c9", checked := Tryz.checked }
namespace Rows
def none {H : Type} : Left H := { results := [], args := [] }

/- WHAT THE LISTED PACKAGE-LEVEL VARIABLES READ AS WHEN THE CALL BEGINS. Each datum BY PROGRAM (the guide's laid-datum.mjs) off the statement by which the dump's own 'gosem.cut.vars' lays the variable. In a bare row this is a premise. The card (YtmhnnmfcjdnlhaaGreatDoorCards.lean) ties it to the program's text. -/
def laid_math_sin {H : Type} : DataW H := .agg [.lit (.float .f64 4460209587652500685), .lit (.float .f64 13716528389658582877), .lit (.float .f64 4523617212962785441), .lit (.float .f64 13774824197404483331), .lit (.float .f64 4575957461383575504), .lit (.float .f64 13818544856648471880)]
def laid_math_cos {H : Type} : DataW H := .agg [.lit (.float .f64 13666448263388469915), .lit (.float .f64 4477121864728985349), .lit (.float .f64 13732177093698800582), .lit (.float .f64 4537941361668146421), .lit (.float .f64 13787419979223748497), .lit (.float .f64 4586165620538955083)]
def laid_math_mPi4 {H : Type} : DataW H := .agg [.lit (.int .u64 1), .lit (.int .u64 5040379952546458195), .lit (.int .u64 17892431488136887169), .lit (.int .u64 13169980181085364355), .lit (.int .u64 18204331823439776451), .lit (.int .u64 7946843935494350272), .lit (.int .u64 905889640498799673), .lit (.int .u64 18175356263134875261), .lit (.int .u64 15061281708168349961), .lit (.int .u64 15220161563773041794), .lit (.int .u64 8296664548579374057), .lit (.int .u64 4109744767560208502), .lit (.int .u64 4607516669194743839), .lit (.int .u64 16023283104648321598), .lit (.int .u64 15739233654134936430), .lit (.int .u64 11424645774684705882), .lit (.int .u64 16883842788696515318), .lit (.int .u64 8795094592981902804), .lit (.int .u64 15561835991111744016), .lit (.int .u64 12395701187267450711)]
def laid_skyway_phrase_words {H : Type} : DataW H := .agg [.lit (.string [72, 69, 73, 71, 72, 84]), .lit (.string [72, 69, 65, 68, 73, 78, 71]), .lit (.string [83, 80, 69, 69, 68]), .lit (.string [68, 73, 82, 69, 67, 84]), .lit (.string [72, 79, 76, 68]), .lit (.string [67, 79, 78, 84, 65, 67, 84]), .lit (.string [76, 65, 78, 68])]
def laid_skyway_phrase_most {H : Type} : DataW H := .agg [.lit (.int .i64 60000), .lit (.int .i64 4095), .lit (.int .i64 400)]

/-- 'skywaykeep3.ResolveSafe': WHATEVER THE INPUT: true; the input reads as it did. -/
def resolveSafeSpec : ChangeSpec := { name := "resolveSafe", fn := fun _ => fun
  | [d1, d2, d3, d4, d5] => { results := [.lit (.bool true)], args := [d1, d2, d3, d4, d5] }
  | _ => none }
def resolveSafeRow : OpenClaim := { program := "ytmhnnmfcjdnlhaagreatdoor", sum := "52cf07aad0df69fcebc7d83ff2cad9f8ea1cfddbd5dfdff8336a6b9fed5fe8c9", func := "skyway/skywaykeep3.ResolveSafe", spec := "resolveSafe", inPlace := ["math.Float64frombits", "math.Float64bits", "math.archFloor", "math.archTrunc", "math/bits.Add64", "slices.overlaps[skyway/api.TubeNode]"], unfollowed := true, recurses := true, named := ["skyway/phrase.most", "skyway/phrase.words", "math._cos", "math._sin", "math.mPi4"], apart := false, laid := [("math._sin", laid_math_sin), ("math._cos", laid_math_cos), ("math.mPi4", laid_math_mPi4), ("skyway/phrase.words", laid_skyway_phrase_words), ("skyway/phrase.most", laid_skyway_phrase_most)] }
def ResolveSafeSaid : Prop := resolveSafeRow.holds Tryz.pinned (OpenSpec.ofChange resolveSafeSpec)

/-- ITS FALSE NEIGHBOUR: 'it returns false'. Refute it at one input. -/
def resolveSafeWrong : ChangeSpec := { name := "resolveSafe", fn := fun _ => fun
  | [d1, d2, d3, d4, d5] => { results := [.lit (.bool false)], args := [d1, d2, d3, d4, d5] }
  | _ => none }
def ResolveSafeWrongFalsely : Prop := resolveSafeRow.holds Tryz.pinned (OpenSpec.ofChange resolveSafeWrong)

/- THE SECOND FORM. 'bulk': how many values and letters a reading holds, each counted each time it is reached (what is shared counts as often as it is met; a slice's spare places count too). A statement '..UptoSaid' is the law's where the arguments, and the package variables that the reading takes, are together of bulk at most 1048576: NARROWER than '..Said'. Prove '..Said' where nothing that the law and all that it calls make is longer than what came in: it says more and counts as full. Else prove '..UptoSaid'. A law counts once. -/
mutual
def uptoBulk {H : Type} : DataW H → Nat
  | .lit (.string bytes) => bytes.length + 1
  | .lit _ => 1
  | .nil => 1
  | .ptr d => uptoBulk d + 1
  | .slice elems spare => uptoBulkAll elems + uptoBulkAll spare + 1
  | .agg parts => uptoBulkAll parts + 1
  | .iface _ d => uptoBulk d + 1
  | .map entries => uptoBulkEntries entries + 1
  | .held _ => 1
def uptoBulkAll {H : Type} : List (DataW H) → Nat
  | [] => 0
  | d :: r => uptoBulk d + uptoBulkAll r
def uptoBulkEntries {H : Type} : List (Lit × DataW H) → Nat
  | [] => 0
  | x :: r => uptoBulkEntry x + uptoBulkEntries r
def uptoBulkEntry {H : Type} : Lit × DataW H → Nat
  | (.string bytes, d) => bytes.length + uptoBulk d + 1
  | (_, d) => uptoBulk d + 1
 end
def uptoSmall : (H : Type) → List (DataW H) → Bool := fun _ ds => decide (uptoBulkAll ds ≤ 1048576)
def OpenSpec.upto (s : _root_.Go.ChangeSpec) : _root_.Go.OpenSpec := { _root_.Go.OpenSpec.ofChange s with cond := some uptoSmall }

/-- 'skywaykeep3.ResolveSafe', WHERE WHAT IT READS IS OF BULK AT MOST 1048576: true; the input reads as it did. -/
def resolveSafeUptoRow : OpenClaim := { program := "ytmhnnmfcjdnlhaagreatdoor", sum := "52cf07aad0df69fcebc7d83ff2cad9f8ea1cfddbd5dfdff8336a6b9fed5fe8c9", func := "skyway/skywaykeep3.ResolveSafe", spec := "resolveSafe", inPlace := ["math.Float64frombits", "math.Float64bits", "math.archFloor", "math.archTrunc", "math/bits.Add64", "slices.overlaps[skyway/api.TubeNode]"], unfollowed := true, recurses := true, named := ["skyway/phrase.most", "skyway/phrase.words", "math._cos", "math._sin", "math.mPi4"], apart := false, laid := [("math._sin", laid_math_sin), ("math._cos", laid_math_cos), ("math.mPi4", laid_math_mPi4), ("skyway/phrase.words", laid_skyway_phrase_words), ("skyway/phrase.most", laid_skyway_phrase_most)], narrowed := true }
def ResolveSafeUptoSaid : Prop := resolveSafeUptoRow.holds Tryz.pinned (OpenSpec.upto resolveSafeSpec)

end Rows
end Go.Proofs.YtmhnnmfcjdnlhaaGreatDoor
