/-
  NARROWER THAN 'FOR EVERY INPUT', by the rows' own cells (each row's printed sentence says how): Refuses: laid.
  DERIVED. THE GIVEN ROWS OF THIS SEAT. 1 by the template 'for every input the law returns true; each argument reads behind the call as it read before'; 0 by the template 'total and deterministic' (their statements: YtemppijblfflgaaDoorTotals.lean).
  GIVEN WITH THE SEED: the statements are not yours to turn. If you find one false, say at which input.
  Laid BY PROGRAM, IN A SANDBOX (cutbox-rows.mjs): the forced cells as the released guide's own fill.sh prints them over the translation 0134ddf701586779… (all of the seat's roots in one cut). By AI agents, Wed Nov 11 2026. No macro, syntax, notation, axiom, sorry.
-/
import Derived.Test.YtemppijblfflgaaDoorChecked
import GoSem.Claim
import GoSem.ClaimJoined
import GoSem.ClaimMapViews
import Derived.JoinedTies
import Derived.KernelRfl
namespace Go.Proofs.YtemppijblfflgaaDoor
/- THE CELL 'sum', in the pinned program and in every row, IS THE sha256 OF THE DUMP (.gsa) THAT YtemppijblfflgaaDoorProg.lean LOADS. Nothing in Lean hashes anything: it is a label: what it is worth is what the hold of that sum in a sandbox is worth. -/
noncomputable def Tryd.pinned : Pinned := { name := "ytemppijblfflgaadoor", sum := "0134ddf701586779cacee3ea9c170f37c843c48ed9cb1576122829976c2242b9", checked := Tryd.checked }
namespace Rows
def none {H : Type} : Left H := { results := [], args := [] }

/- WHAT THE LISTED PACKAGE-LEVEL VARIABLES READ AS WHEN THE CALL BEGINS. Each datum BY PROGRAM (the guide's laid-datum.mjs) off the statement by which the dump's own 'gosem.cut.vars' lays the variable. In a bare row this is a premise. The card (YtemppijblfflgaaDoorCards.lean) ties it to the program's text. -/
def laid_math_bits_deBruijn32tab {H : Type} : DataW H := .agg [.lit (.int .u8 0), .lit (.int .u8 1), .lit (.int .u8 28), .lit (.int .u8 2), .lit (.int .u8 29), .lit (.int .u8 14), .lit (.int .u8 24), .lit (.int .u8 3), .lit (.int .u8 30), .lit (.int .u8 22), .lit (.int .u8 20), .lit (.int .u8 15), .lit (.int .u8 25), .lit (.int .u8 17), .lit (.int .u8 4), .lit (.int .u8 8), .lit (.int .u8 31), .lit (.int .u8 27), .lit (.int .u8 13), .lit (.int .u8 23), .lit (.int .u8 21), .lit (.int .u8 19), .lit (.int .u8 16), .lit (.int .u8 7), .lit (.int .u8 26), .lit (.int .u8 12), .lit (.int .u8 18), .lit (.int .u8 6), .lit (.int .u8 11), .lit (.int .u8 5), .lit (.int .u8 10), .lit (.int .u8 9)]
def laid_math_bits_deBruijn64tab {H : Type} : DataW H := .agg [.lit (.int .u8 0), .lit (.int .u8 1), .lit (.int .u8 56), .lit (.int .u8 2), .lit (.int .u8 57), .lit (.int .u8 49), .lit (.int .u8 28), .lit (.int .u8 3), .lit (.int .u8 61), .lit (.int .u8 58), .lit (.int .u8 42), .lit (.int .u8 50), .lit (.int .u8 38), .lit (.int .u8 29), .lit (.int .u8 17), .lit (.int .u8 4), .lit (.int .u8 62), .lit (.int .u8 47), .lit (.int .u8 59), .lit (.int .u8 36), .lit (.int .u8 45), .lit (.int .u8 43), .lit (.int .u8 51), .lit (.int .u8 22), .lit (.int .u8 53), .lit (.int .u8 39), .lit (.int .u8 33), .lit (.int .u8 30), .lit (.int .u8 24), .lit (.int .u8 18), .lit (.int .u8 12), .lit (.int .u8 5), .lit (.int .u8 63), .lit (.int .u8 55), .lit (.int .u8 48), .lit (.int .u8 27), .lit (.int .u8 60), .lit (.int .u8 41), .lit (.int .u8 37), .lit (.int .u8 16), .lit (.int .u8 46), .lit (.int .u8 35), .lit (.int .u8 44), .lit (.int .u8 21), .lit (.int .u8 52), .lit (.int .u8 32), .lit (.int .u8 23), .lit (.int .u8 11), .lit (.int .u8 54), .lit (.int .u8 26), .lit (.int .u8 40), .lit (.int .u8 15), .lit (.int .u8 34), .lit (.int .u8 20), .lit (.int .u8 31), .lit (.int .u8 10), .lit (.int .u8 25), .lit (.int .u8 14), .lit (.int .u8 19), .lit (.int .u8 9), .lit (.int .u8 13), .lit (.int .u8 8), .lit (.int .u8 7), .lit (.int .u8 6)]
def laid_internal_strconv_uint64pow10 {H : Type} : DataW H := .agg [.lit (.int .u64 1), .lit (.int .u64 10), .lit (.int .u64 100), .lit (.int .u64 1000), .lit (.int .u64 10000), .lit (.int .u64 100000), .lit (.int .u64 1000000), .lit (.int .u64 10000000), .lit (.int .u64 100000000), .lit (.int .u64 1000000000), .lit (.int .u64 10000000000), .lit (.int .u64 100000000000), .lit (.int .u64 1000000000000), .lit (.int .u64 10000000000000), .lit (.int .u64 100000000000000), .lit (.int .u64 1000000000000000), .lit (.int .u64 10000000000000000), .lit (.int .u64 100000000000000000), .lit (.int .u64 1000000000000000000), .lit (.int .u64 10000000000000000000)]
def laid_errors_errorType {H : Type} : DataW H := .iface "internal/reflectlite.rtype" (.agg [.ptr (.lit (.string [101, 114, 114, 111, 114]))])
def laid_strconv_ErrRange {H : Type} : DataW H := .iface "*errors.errorString" (.ptr (.agg [.lit (.string [118, 97, 108, 117, 101, 32, 111, 117, 116, 32, 111, 102, 32, 114, 97, 110, 103, 101])]))
def laid_strconv_ErrSyntax {H : Type} : DataW H := .iface "*errors.errorString" (.ptr (.agg [.lit (.string [105, 110, 118, 97, 108, 105, 100, 32, 115, 121, 110, 116, 97, 120])]))
def laid_evictor_policy_ErrLong {H : Type} : DataW H := .iface "*errors.errorString" (.ptr (.agg [.lit (.string [116, 111, 111, 32, 108, 111, 110, 103])]))
def laid_evictor_policy_ErrSyntax {H : Type} : DataW H := .iface "*errors.errorString" (.ptr (.agg [.lit (.string [115, 121, 110, 116, 97, 120, 32, 101, 114, 114, 111, 114])]))
def laid_evictor_policy_ErrDeep {H : Type} : DataW H := .iface "*errors.errorString" (.ptr (.agg [.lit (.string [116, 111, 111, 32, 100, 101, 101, 112])]))
def laid_evictor_policy_ErrTwice {H : Type} : DataW H := .iface "*errors.errorString" (.ptr (.agg [.lit (.string [100, 101, 99, 108, 97, 114, 101, 100, 32, 116, 119, 105, 99, 101])]))
def laid_evictor_policy_ErrNone {H : Type} : DataW H := .iface "*errors.errorString" (.ptr (.agg [.lit (.string [110, 111, 116, 32, 100, 101, 99, 108, 97, 114, 101, 100])]))
def laid_evictor_policy_ErrKind {H : Type} : DataW H := .iface "*errors.errorString" (.ptr (.agg [.lit (.string [111, 102, 32, 97, 110, 111, 116, 104, 101, 114, 32, 107, 105, 110, 100])]))
def laid_evictor_policy_ErrNumber {H : Type} : DataW H := .iface "*errors.errorString" (.ptr (.agg [.lit (.string [97, 32, 110, 117, 109, 98, 101, 114, 32, 98, 101, 121, 111, 110, 100, 32, 105, 116, 115, 32, 98, 111, 117, 110, 100, 115])]))
def laid_evictor_policy_ErrRule {H : Type} : DataW H := .iface "*errors.errorString" (.ptr (.agg [.lit (.string [97, 32, 115, 101, 99, 111, 110, 100, 32, 114, 117, 108, 101])]))
def laid_evictor_policy_ErrMany {H : Type} : DataW H := .iface "*errors.errorString" (.ptr (.agg [.lit (.string [116, 111, 111, 32, 109, 97, 110, 121, 32, 110, 97, 109, 101, 115])]))
def laid_evictor_policy_ErrMiss {H : Type} : DataW H := .iface "*errors.errorString" (.ptr (.agg [.lit (.string [110, 111, 32, 114, 117, 108, 101, 32, 102, 111, 114, 32, 97, 32, 109, 105, 115, 115])]))
def laid_evictor_policy_keywords {H : Type} : DataW H := .agg [.lit (.string [113, 117, 101, 117, 101]), .lit (.string [103, 104, 111, 115, 116]), .lit (.string [118, 97, 114]), .lit (.string [102, 114, 101, 113]), .lit (.string [111, 110]), .lit (.string [109, 105, 115, 115]), .lit (.string [112, 117, 116]), .lit (.string [116, 97, 105, 108]), .lit (.string [101, 118, 105, 99, 116]), .lit (.string [115, 104, 105, 102, 116]), .lit (.string [100, 114, 111, 112]), .lit (.string [105, 110, 99]), .lit (.string [100, 101, 99]), .lit (.string [98, 117, 109, 112]), .lit (.string [99, 111, 111, 108]), .lit (.string [105, 102]), .lit (.string [101, 108, 115, 101]), .lit (.string [114, 101, 112, 101, 97, 116]), .lit (.string [119, 104, 105, 108, 101]), .lit (.string [110, 111, 116]), .lit (.string [102, 117, 108, 108]), .lit (.string [101, 109, 112, 116, 121]), .lit (.string [119, 97, 114, 109]), .lit (.string [108, 101, 110])]
def laid_evictor_code_ErrFull {H : Type} : DataW H := .iface "*errors.errorString" (.ptr (.agg [.lit (.string [97, 32, 113, 117, 101, 117, 101, 32, 105, 115, 32, 102, 117, 108, 108])]))
def laid_evictor_code_ErrEmpty {H : Type} : DataW H := .iface "*errors.errorString" (.ptr (.agg [.lit (.string [97, 32, 113, 117, 101, 117, 101, 32, 105, 115, 32, 101, 109, 112, 116, 121])]))

/-- 'evictorkeep.Refuses': WHATEVER THE INPUT: true; the input reads as it did. -/
def refusesSpec : ChangeSpec := { name := "refuses", fn := fun _ => fun
  | [d] => { results := [.lit (.bool true)], args := [d] }
  | _ => none }
def refusesRow : OpenClaim := { program := "ytemppijblfflgaadoor", sum := "0134ddf701586779cacee3ea9c170f37c843c48ed9cb1576122829976c2242b9", func := "evictor/evictorkeep.Refuses", spec := "refuses", inPlace := ["internal/bytealg.IndexByteString", "internal/reflectlite.ValueOf", "(internal/reflectlite.Value).Type", "(internal/reflectlite.Value).IsNil", "internal/reflectlite.TypeOf", "(internal/reflectlite.Value).Elem", "(internal/reflectlite.Value).Set"], unfollowed := true, recurses := true, named := ["evictor/policy.ErrLong", "evictor/policy.ErrMiss", "evictor/policy.keywords", "evictor/policy.ErrTwice", "evictor/policy.ErrMany", "evictor/policy.ErrNumber", "evictor/policy.ErrSyntax", "strconv.ErrSyntax", "strconv.ErrRange", "internal/strconv.uint64pow10", "math/bits.deBruijn32tab", "math/bits.deBruijn64tab", "evictor/policy.ErrRule", "evictor/policy.ErrNone", "evictor/policy.ErrKind", "evictor/policy.ErrDeep", "errors.errorType", "evictor/code.ErrFull", "evictor/code.ErrEmpty"], apart := false, laid := [("math/bits.deBruijn32tab", laid_math_bits_deBruijn32tab), ("math/bits.deBruijn64tab", laid_math_bits_deBruijn64tab), ("internal/strconv.uint64pow10", laid_internal_strconv_uint64pow10), ("errors.errorType", laid_errors_errorType), ("strconv.ErrRange", laid_strconv_ErrRange), ("strconv.ErrSyntax", laid_strconv_ErrSyntax), ("evictor/policy.ErrLong", laid_evictor_policy_ErrLong), ("evictor/policy.ErrSyntax", laid_evictor_policy_ErrSyntax), ("evictor/policy.ErrDeep", laid_evictor_policy_ErrDeep), ("evictor/policy.ErrTwice", laid_evictor_policy_ErrTwice), ("evictor/policy.ErrNone", laid_evictor_policy_ErrNone), ("evictor/policy.ErrKind", laid_evictor_policy_ErrKind), ("evictor/policy.ErrNumber", laid_evictor_policy_ErrNumber), ("evictor/policy.ErrRule", laid_evictor_policy_ErrRule), ("evictor/policy.ErrMany", laid_evictor_policy_ErrMany), ("evictor/policy.ErrMiss", laid_evictor_policy_ErrMiss), ("evictor/policy.keywords", laid_evictor_policy_keywords), ("evictor/code.ErrFull", laid_evictor_code_ErrFull), ("evictor/code.ErrEmpty", laid_evictor_code_ErrEmpty)] }
def RefusesSaid : Prop := refusesRow.holds Tryd.pinned (OpenSpec.ofChange refusesSpec)

/-- ITS FALSE NEIGHBOUR: 'it returns false'. Refute it at one input. -/
def refusesWrong : ChangeSpec := { name := "refuses", fn := fun _ => fun
  | [d] => { results := [.lit (.bool false)], args := [d] }
  | _ => none }
def RefusesWrongFalsely : Prop := refusesRow.holds Tryd.pinned (OpenSpec.ofChange refusesWrong)

/- THE SECOND FORM. 'bulk': how many values and letters a reading holds, each counted each time it is reached (what is shared counts as often as it is met; a slice's spare places count too). A statement '..UptoSaid' is the law's where the arguments, and the package variables that the reading takes, are together of bulk at most 1048576: NARROWER than '..Said'. Prove '..Said' where nothing that the law and all that it calls make is longer than what came in: it says more and counts as full. Else prove '..UptoSaid'. A law counts once. -/
mutual
def uptoBulk {H : Type} : DataW H → Nat
  | .lit (.string bytes) => bytes.length + 1
  | .lit _ => 1
  | .nil => 1
  | .ptr d => uptoBulk d + 1
  | .slice elems spare => uptoBulkAll elems + uptoBulkAll spare + 1
  | .agg parts => uptoBulkAll parts + 1
  | .iface _ d => uptoBulk d + 1
  | .map entries => uptoBulkEntries entries + 1
  | .held _ => 1
def uptoBulkAll {H : Type} : List (DataW H) → Nat
  | [] => 0
  | d :: r => uptoBulk d + uptoBulkAll r
def uptoBulkEntries {H : Type} : List (Lit × DataW H) → Nat
  | [] => 0
  | x :: r => uptoBulkEntry x + uptoBulkEntries r
def uptoBulkEntry {H : Type} : Lit × DataW H → Nat
  | (.string bytes, d) => bytes.length + uptoBulk d + 1
  | (_, d) => uptoBulk d + 1
 end
def uptoSmall : (H : Type) → List (DataW H) → Bool := fun _ ds => decide (uptoBulkAll ds ≤ 1048576)
def OpenSpec.upto (s : _root_.Go.ChangeSpec) : _root_.Go.OpenSpec := { _root_.Go.OpenSpec.ofChange s with cond := some uptoSmall }

/-- 'evictorkeep.Refuses', WHERE WHAT IT READS IS OF BULK AT MOST 1048576: true; the input reads as it did. -/
def refusesUptoRow : OpenClaim := { program := "ytemppijblfflgaadoor", sum := "0134ddf701586779cacee3ea9c170f37c843c48ed9cb1576122829976c2242b9", func := "evictor/evictorkeep.Refuses", spec := "refuses", inPlace := ["internal/bytealg.IndexByteString", "internal/reflectlite.ValueOf", "(internal/reflectlite.Value).Type", "(internal/reflectlite.Value).IsNil", "internal/reflectlite.TypeOf", "(internal/reflectlite.Value).Elem", "(internal/reflectlite.Value).Set"], unfollowed := true, recurses := true, named := ["evictor/policy.ErrLong", "evictor/policy.ErrMiss", "evictor/policy.keywords", "evictor/policy.ErrTwice", "evictor/policy.ErrMany", "evictor/policy.ErrNumber", "evictor/policy.ErrSyntax", "strconv.ErrSyntax", "strconv.ErrRange", "internal/strconv.uint64pow10", "math/bits.deBruijn32tab", "math/bits.deBruijn64tab", "evictor/policy.ErrRule", "evictor/policy.ErrNone", "evictor/policy.ErrKind", "evictor/policy.ErrDeep", "errors.errorType", "evictor/code.ErrFull", "evictor/code.ErrEmpty"], apart := false, laid := [("math/bits.deBruijn32tab", laid_math_bits_deBruijn32tab), ("math/bits.deBruijn64tab", laid_math_bits_deBruijn64tab), ("internal/strconv.uint64pow10", laid_internal_strconv_uint64pow10), ("errors.errorType", laid_errors_errorType), ("strconv.ErrRange", laid_strconv_ErrRange), ("strconv.ErrSyntax", laid_strconv_ErrSyntax), ("evictor/policy.ErrLong", laid_evictor_policy_ErrLong), ("evictor/policy.ErrSyntax", laid_evictor_policy_ErrSyntax), ("evictor/policy.ErrDeep", laid_evictor_policy_ErrDeep), ("evictor/policy.ErrTwice", laid_evictor_policy_ErrTwice), ("evictor/policy.ErrNone", laid_evictor_policy_ErrNone), ("evictor/policy.ErrKind", laid_evictor_policy_ErrKind), ("evictor/policy.ErrNumber", laid_evictor_policy_ErrNumber), ("evictor/policy.ErrRule", laid_evictor_policy_ErrRule), ("evictor/policy.ErrMany", laid_evictor_policy_ErrMany), ("evictor/policy.ErrMiss", laid_evictor_policy_ErrMiss), ("evictor/policy.keywords", laid_evictor_policy_keywords), ("evictor/code.ErrFull", laid_evictor_code_ErrFull), ("evictor/code.ErrEmpty", laid_evictor_code_ErrEmpty)], narrowed := true }
def RefusesUptoSaid : Prop := refusesUptoRow.holds Tryd.pinned (OpenSpec.upto refusesSpec)

end Rows
end Go.Proofs.YtemppijblfflgaaDoor
