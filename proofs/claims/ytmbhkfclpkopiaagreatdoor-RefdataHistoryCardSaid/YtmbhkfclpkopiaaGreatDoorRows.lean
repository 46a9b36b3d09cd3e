/-
  NARROWER THAN 'FOR EVERY INPUT', by the rows' own cells (each row's printed sentence says how): RefdataLookup: laid · RefdataHistory: laid · RefdataOpenEnded: laid · RefdataAtomic: laid · ValidationRequests: laid · RefdataReplace: laid · ValidationEnv: laid · RefdataCommute: laid · RefdataLists: laid · RefdataNilClone: laid · ValidationNames: laid · ValidationCheck: laid · ValidationMirror: laid · ValidationFailures: laid · ValidationFuture: laid · ValidationNextDay: laid · ValidationAmend: laid.
  DERIVED. THE GIVEN ROWS OF THIS SEAT. 17 by the template 'for every input the law returns true; each argument reads behind the call as it read before'; 0 by the template 'total and deterministic' (their statements: YtmbhkfclpkopiaaGreatDoorTotals.lean).
  GIVEN WITH THE SEED: the statements are not yours to turn. If you find one false, say at which input.
  Laid BY PROGRAM, IN A SANDBOX (cutbox-rows.mjs): the forced cells as the released guide's own fill.sh prints them over the translation 2795c2dbe27e7e2f… (all of the seat's roots in one cut). By AI agents, Wed Nov 11 2026. No macro, syntax, notation, axiom, sorry.
-/
import Derived.Test.YtmbhkfclpkopiaaGreatDoorChecked
import GoSem.Claim
import GoSem.ClaimJoined
import GoSem.ClaimMapViews
import Derived.JoinedTies
import Derived.KernelRfl
namespace Go.Proofs.YtmbhkfclpkopiaaGreatDoor
/- THE CELL 'sum', in the pinned program and in every row, IS THE sha256 OF THE DUMP (.gsa) THAT YtmbhkfclpkopiaaGreatDoorProg.lean LOADS. Nothing in Lean hashes anything: it is a label: what it is worth is what the hold of that sum in a sandbox is worth. -/
noncomputable def Tryz.pinned : Pinned := { name := "ytmbhkfclpkopiaagreatdoor", sum := "2795c2dbe27e7e2f1cc990e58127f2d2138b6584d40e5b9abf819f95cf24bb8c", checked := Tryz.checked }
namespace Rows
def none {H : Type} : Left H := { results := [], args := [] }

/- WHAT THE LISTED PACKAGE-LEVEL VARIABLES READ AS WHEN THE CALL BEGINS. Each datum BY PROGRAM (the guide's laid-datum.mjs) off the statement by which the dump's own 'gosem.cut.vars' lays the variable. In a bare row this is a premise. The card (YtmbhkfclpkopiaaGreatDoorCards.lean) ties it to the program's text. -/
def laid_math_bits_deBruijn32tab {H : Type} : DataW H := .agg [.lit (.int .u8 0), .lit (.int .u8 1), .lit (.int .u8 28), .lit (.int .u8 2), .lit (.int .u8 29), .lit (.int .u8 14), .lit (.int .u8 24), .lit (.int .u8 3), .lit (.int .u8 30), .lit (.int .u8 22), .lit (.int .u8 20), .lit (.int .u8 15), .lit (.int .u8 25), .lit (.int .u8 17), .lit (.int .u8 4), .lit (.int .u8 8), .lit (.int .u8 31), .lit (.int .u8 27), .lit (.int .u8 13), .lit (.int .u8 23), .lit (.int .u8 21), .lit (.int .u8 19), .lit (.int .u8 16), .lit (.int .u8 7), .lit (.int .u8 26), .lit (.int .u8 12), .lit (.int .u8 18), .lit (.int .u8 6), .lit (.int .u8 11), .lit (.int .u8 5), .lit (.int .u8 10), .lit (.int .u8 9)]
def laid_math_bits_deBruijn64tab {H : Type} : DataW H := .agg [.lit (.int .u8 0), .lit (.int .u8 1), .lit (.int .u8 56), .lit (.int .u8 2), .lit (.int .u8 57), .lit (.int .u8 49), .lit (.int .u8 28), .lit (.int .u8 3), .lit (.int .u8 61), .lit (.int .u8 58), .lit (.int .u8 42), .lit (.int .u8 50), .lit (.int .u8 38), .lit (.int .u8 29), .lit (.int .u8 17), .lit (.int .u8 4), .lit (.int .u8 62), .lit (.int .u8 47), .lit (.int .u8 59), .lit (.int .u8 36), .lit (.int .u8 45), .lit (.int .u8 43), .lit (.int .u8 51), .lit (.int .u8 22), .lit (.int .u8 53), .lit (.int .u8 39), .lit (.int .u8 33), .lit (.int .u8 30), .lit (.int .u8 24), .lit (.int .u8 18), .lit (.int .u8 12), .lit (.int .u8 5), .lit (.int .u8 63), .lit (.int .u8 55), .lit (.int .u8 48), .lit (.int .u8 27), .lit (.int .u8 60), .lit (.int .u8 41), .lit (.int .u8 37), .lit (.int .u8 16), .lit (.int .u8 46), .lit (.int .u8 35), .lit (.int .u8 44), .lit (.int .u8 21), .lit (.int .u8 52), .lit (.int .u8 32), .lit (.int .u8 23), .lit (.int .u8 11), .lit (.int .u8 54), .lit (.int .u8 26), .lit (.int .u8 40), .lit (.int .u8 15), .lit (.int .u8 34), .lit (.int .u8 20), .lit (.int .u8 31), .lit (.int .u8 10), .lit (.int .u8 25), .lit (.int .u8 14), .lit (.int .u8 19), .lit (.int .u8 9), .lit (.int .u8 13), .lit (.int .u8 8), .lit (.int .u8 7), .lit (.int .u8 6)]
def laid_internal_strconv_uint64pow10 {H : Type} : DataW H := .agg [.lit (.int .u64 1), .lit (.int .u64 10), .lit (.int .u64 100), .lit (.int .u64 1000), .lit (.int .u64 10000), .lit (.int .u64 100000), .lit (.int .u64 1000000), .lit (.int .u64 10000000), .lit (.int .u64 100000000), .lit (.int .u64 1000000000), .lit (.int .u64 10000000000), .lit (.int .u64 100000000000), .lit (.int .u64 1000000000000), .lit (.int .u64 10000000000000), .lit (.int .u64 100000000000000), .lit (.int .u64 1000000000000000), .lit (.int .u64 10000000000000000), .lit (.int .u64 100000000000000000), .lit (.int .u64 1000000000000000000), .lit (.int .u64 10000000000000000000)]
def laid_giro_validation_rules {H : Type} : DataW H := .iface "func table" (.agg [.agg [.lit (.string [102, 111, 114, 109]), .lit (.int .i64 0), .iface "func" (.lit (.string [103, 105, 114, 111, 47, 118, 97, 108, 105, 100, 97, 116, 105, 111, 110, 46, 114, 117, 108, 101, 115, 36, 49]))], .agg [.lit (.string [115, 101, 110, 100, 101, 114]), .lit (.int .i64 9), .iface "func" (.lit (.string [103, 105, 114, 111, 47, 118, 97, 108, 105, 100, 97, 116, 105, 111, 110, 46, 114, 117, 108, 101, 115, 36, 50]))], .agg [.lit (.string [99, 111, 117, 110, 116, 101, 114, 112, 97, 114, 116, 121]), .lit (.int .i64 9), .iface "func" (.lit (.string [103, 105, 114, 111, 47, 118, 97, 108, 105, 100, 97, 116, 105, 111, 110, 46, 114, 117, 108, 101, 115, 36, 51]))], .agg [.lit (.string [115, 101, 99, 117, 114, 105, 116, 121]), .lit (.int .i64 9), .iface "func" (.lit (.string [103, 105, 114, 111, 47, 118, 97, 108, 105, 100, 97, 116, 105, 111, 110, 46, 114, 117, 108, 101, 115, 36, 52]))], .agg [.lit (.string [115, 116, 97, 116, 117, 115]), .lit (.int .i64 10), .iface "func" (.lit (.string [103, 105, 114, 111, 47, 118, 97, 108, 105, 100, 97, 116, 105, 111, 110, 46, 114, 117, 108, 101, 115, 36, 53]))], .agg [.lit (.string [108, 111, 116]), .lit (.int .i64 2), .iface "func" (.lit (.string [103, 105, 114, 111, 47, 118, 97, 108, 105, 100, 97, 116, 105, 111, 110, 46, 114, 117, 108, 101, 115, 36, 54]))], .agg [.lit (.string [105, 115, 115, 117, 101, 114]), .lit (.int .i64 24), .iface "func" (.lit (.string [103, 105, 114, 111, 47, 118, 97, 108, 105, 100, 97, 116, 105, 111, 110, 46, 114, 117, 108, 101, 115, 36, 55]))], .agg [.lit (.string [112, 97, 115, 116]), .lit (.int .i64 20), .iface "func" (.lit (.string [103, 105, 114, 111, 47, 118, 97, 108, 105, 100, 97, 116, 105, 111, 110, 46, 114, 117, 108, 101, 115, 36, 56]))], .agg [.lit (.string [97, 104, 101, 97, 100]), .lit (.int .i64 2), .iface "func" (.lit (.string [103, 105, 114, 111, 47, 118, 97, 108, 105, 100, 97, 116, 105, 111, 110, 46, 114, 117, 108, 101, 115, 36, 57]))], .agg [.lit (.string [98, 117, 115, 105, 110, 101, 115, 115]), .lit (.int .i64 28), .iface "func" (.lit (.string [103, 105, 114, 111, 47, 118, 97, 108, 105, 100, 97, 116, 105, 111, 110, 46, 114, 117, 108, 101, 115, 36, 49, 48]))], .agg [.lit (.string [116, 114, 97, 100, 101]), .lit (.int .i64 28), .iface "func" (.lit (.string [103, 105, 114, 111, 47, 118, 97, 108, 105, 100, 97, 116, 105, 111, 110, 46, 114, 117, 108, 101, 115, 36, 49, 49]))]])

/-- 'girolaw21.RefdataLookup': WHATEVER THE INPUT: true; the input reads as it did. -/
def refdataLookupSpec : ChangeSpec := { name := "refdataLookup", fn := fun _ => fun
  | [d1, d2, d3] => { results := [.lit (.bool true)], args := [d1, d2, d3] }
  | _ => none }
def refdataLookupRow : OpenClaim := { program := "ytmbhkfclpkopiaagreatdoor", sum := "2795c2dbe27e7e2f1cc990e58127f2d2138b6584d40e5b9abf819f95cf24bb8c", func := "giro/girolaw21.RefdataLookup", spec := "refdataLookup", inPlace := ["internal/abi.NoEscape"], unfollowed := true, recurses := true, named := ["internal/strconv.uint64pow10", "math/bits.deBruijn32tab", "math/bits.deBruijn64tab"], apart := false, laid := [("math/bits.deBruijn32tab", laid_math_bits_deBruijn32tab), ("math/bits.deBruijn64tab", laid_math_bits_deBruijn64tab), ("internal/strconv.uint64pow10", laid_internal_strconv_uint64pow10)] }
def RefdataLookupSaid : Prop := refdataLookupRow.holds Tryz.pinned (OpenSpec.ofChange refdataLookupSpec)

/-- ITS FALSE NEIGHBOUR: 'it returns false'. Refute it at one input. -/
def refdataLookupWrong : ChangeSpec := { name := "refdataLookup", fn := fun _ => fun
  | [d1, d2, d3] => { results := [.lit (.bool false)], args := [d1, d2, d3] }
  | _ => none }
def RefdataLookupWrongFalsely : Prop := refdataLookupRow.holds Tryz.pinned (OpenSpec.ofChange refdataLookupWrong)

/-- 'girolaw21.RefdataHistory': WHATEVER THE INPUT: true; the input reads as it did. -/
def refdataHistorySpec : ChangeSpec := { name := "refdataHistory", fn := fun _ => fun
  | [d1, d2, d3] => { results := [.lit (.bool true)], args := [d1, d2, d3] }
  | _ => none }
def refdataHistoryRow : OpenClaim := { program := "ytmbhkfclpkopiaagreatdoor", sum := "2795c2dbe27e7e2f1cc990e58127f2d2138b6584d40e5b9abf819f95cf24bb8c", func := "giro/girolaw21.RefdataHistory", spec := "refdataHistory", inPlace := ["internal/abi.NoEscape", "maps.clone"], unfollowed := true, recurses := true, named := ["internal/strconv.uint64pow10", "math/bits.deBruijn32tab", "math/bits.deBruijn64tab"], apart := false, laid := [("math/bits.deBruijn32tab", laid_math_bits_deBruijn32tab), ("math/bits.deBruijn64tab", laid_math_bits_deBruijn64tab), ("internal/strconv.uint64pow10", laid_internal_strconv_uint64pow10)] }
def RefdataHistorySaid : Prop := refdataHistoryRow.holds Tryz.pinned (OpenSpec.ofChange refdataHistorySpec)

/-- ITS FALSE NEIGHBOUR: 'it returns false'. Refute it at one input. -/
def refdataHistoryWrong : ChangeSpec := { name := "refdataHistory", fn := fun _ => fun
  | [d1, d2, d3] => { results := [.lit (.bool false)], args := [d1, d2, d3] }
  | _ => none }
def RefdataHistoryWrongFalsely : Prop := refdataHistoryRow.holds Tryz.pinned (OpenSpec.ofChange refdataHistoryWrong)

/-- 'girolaw21.RefdataOpenEnded': WHATEVER THE INPUT: true; the input reads as it did. -/
def refdataOpenEndedSpec : ChangeSpec := { name := "refdataOpenEnded", fn := fun _ => fun
  | [d1, d2, d3] => { results := [.lit (.bool true)], args := [d1, d2, d3] }
  | _ => none }
def refdataOpenEndedRow : OpenClaim := { program := "ytmbhkfclpkopiaagreatdoor", sum := "2795c2dbe27e7e2f1cc990e58127f2d2138b6584d40e5b9abf819f95cf24bb8c", func := "giro/girolaw21.RefdataOpenEnded", spec := "refdataOpenEnded", inPlace := ["internal/abi.NoEscape"], unfollowed := true, recurses := true, named := ["internal/strconv.uint64pow10", "math/bits.deBruijn32tab", "math/bits.deBruijn64tab"], apart := false, laid := [("math/bits.deBruijn32tab", laid_math_bits_deBruijn32tab), ("math/bits.deBruijn64tab", laid_math_bits_deBruijn64tab), ("internal/strconv.uint64pow10", laid_internal_strconv_uint64pow10)] }
def RefdataOpenEndedSaid : Prop := refdataOpenEndedRow.holds Tryz.pinned (OpenSpec.ofChange refdataOpenEndedSpec)

/-- ITS FALSE NEIGHBOUR: 'it returns false'. Refute it at one input. -/
def refdataOpenEndedWrong : ChangeSpec := { name := "refdataOpenEnded", fn := fun _ => fun
  | [d1, d2, d3] => { results := [.lit (.bool false)], args := [d1, d2, d3] }
  | _ => none }
def RefdataOpenEndedWrongFalsely : Prop := refdataOpenEndedRow.holds Tryz.pinned (OpenSpec.ofChange refdataOpenEndedWrong)

/-- 'girolaw21.RefdataAtomic': WHATEVER THE INPUT: true; the input reads as it did. -/
def refdataAtomicSpec : ChangeSpec := { name := "refdataAtomic", fn := fun _ => fun
  | [d1, d2] => { results := [.lit (.bool true)], args := [d1, d2] }
  | _ => none }
def refdataAtomicRow : OpenClaim := { program := "ytmbhkfclpkopiaagreatdoor", sum := "2795c2dbe27e7e2f1cc990e58127f2d2138b6584d40e5b9abf819f95cf24bb8c", func := "giro/girolaw21.RefdataAtomic", spec := "refdataAtomic", inPlace := ["internal/abi.NoEscape", "maps.clone"], unfollowed := true, recurses := true, named := ["internal/strconv.uint64pow10", "math/bits.deBruijn32tab", "math/bits.deBruijn64tab"], apart := false, laid := [("math/bits.deBruijn32tab", laid_math_bits_deBruijn32tab), ("math/bits.deBruijn64tab", laid_math_bits_deBruijn64tab), ("internal/strconv.uint64pow10", laid_internal_strconv_uint64pow10)] }
def RefdataAtomicSaid : Prop := refdataAtomicRow.holds Tryz.pinned (OpenSpec.ofChange refdataAtomicSpec)

/-- ITS FALSE NEIGHBOUR: 'it returns false'. Refute it at one input. -/
def refdataAtomicWrong : ChangeSpec := { name := "refdataAtomic", fn := fun _ => fun
  | [d1, d2] => { results := [.lit (.bool false)], args := [d1, d2] }
  | _ => none }
def RefdataAtomicWrongFalsely : Prop := refdataAtomicRow.holds Tryz.pinned (OpenSpec.ofChange refdataAtomicWrong)

/-- 'girolaw22.ValidationRequests': WHATEVER THE INPUT: true; the input reads as it did. -/
def validationRequestsSpec : ChangeSpec := { name := "validationRequests", fn := fun _ => fun
  | [d1, d2] => { results := [.lit (.bool true)], args := [d1, d2] }
  | _ => none }
def validationRequestsRow : OpenClaim := { program := "ytmbhkfclpkopiaagreatdoor", sum := "2795c2dbe27e7e2f1cc990e58127f2d2138b6584d40e5b9abf819f95cf24bb8c", func := "giro/girolaw22.ValidationRequests", spec := "validationRequests", inPlace := ["internal/abi.NoEscape"], unfollowed := true, recurses := true, named := ["internal/strconv.uint64pow10", "math/bits.deBruijn32tab", "math/bits.deBruijn64tab", "giro/validation.rules"], apart := false, laid := [("math/bits.deBruijn32tab", laid_math_bits_deBruijn32tab), ("math/bits.deBruijn64tab", laid_math_bits_deBruijn64tab), ("internal/strconv.uint64pow10", laid_internal_strconv_uint64pow10), ("giro/validation.rules", laid_giro_validation_rules)] }
def ValidationRequestsSaid : Prop := validationRequestsRow.holds Tryz.pinned (OpenSpec.ofChange validationRequestsSpec)

/-- ITS FALSE NEIGHBOUR: 'it returns false'. Refute it at one input. -/
def validationRequestsWrong : ChangeSpec := { name := "validationRequests", fn := fun _ => fun
  | [d1, d2] => { results := [.lit (.bool false)], args := [d1, d2] }
  | _ => none }
def ValidationRequestsWrongFalsely : Prop := validationRequestsRow.holds Tryz.pinned (OpenSpec.ofChange validationRequestsWrong)

/-- 'girolaw21.RefdataReplace': WHATEVER THE INPUT: true; the input reads as it did. -/
def refdataReplaceSpec : ChangeSpec := { name := "refdataReplace", fn := fun _ => fun
  | [d1, d2, d3, d4, d5] => { results := [.lit (.bool true)], args := [d1, d2, d3, d4, d5] }
  | _ => none }
def refdataReplaceRow : OpenClaim := { program := "ytmbhkfclpkopiaagreatdoor", sum := "2795c2dbe27e7e2f1cc990e58127f2d2138b6584d40e5b9abf819f95cf24bb8c", func := "giro/girolaw21.RefdataReplace", spec := "refdataReplace", inPlace := ["internal/abi.NoEscape", "maps.clone"], unfollowed := true, recurses := true, named := ["internal/strconv.uint64pow10", "math/bits.deBruijn32tab", "math/bits.deBruijn64tab"], apart := false, laid := [("math/bits.deBruijn32tab", laid_math_bits_deBruijn32tab), ("math/bits.deBruijn64tab", laid_math_bits_deBruijn64tab), ("internal/strconv.uint64pow10", laid_internal_strconv_uint64pow10)] }
def RefdataReplaceSaid : Prop := refdataReplaceRow.holds Tryz.pinned (OpenSpec.ofChange refdataReplaceSpec)

/-- ITS FALSE NEIGHBOUR: 'it returns false'. Refute it at one input. -/
def refdataReplaceWrong : ChangeSpec := { name := "refdataReplace", fn := fun _ => fun
  | [d1, d2, d3, d4, d5] => { results := [.lit (.bool false)], args := [d1, d2, d3, d4, d5] }
  | _ => none }
def RefdataReplaceWrongFalsely : Prop := refdataReplaceRow.holds Tryz.pinned (OpenSpec.ofChange refdataReplaceWrong)

/-- 'girolaw22.ValidationEnv': WHATEVER THE INPUT: true; the input reads as it did. -/
def validationEnvSpec : ChangeSpec := { name := "validationEnv", fn := fun _ => fun
  | [d1, d2, d3] => { results := [.lit (.bool true)], args := [d1, d2, d3] }
  | _ => none }
def validationEnvRow : OpenClaim := { program := "ytmbhkfclpkopiaagreatdoor", sum := "2795c2dbe27e7e2f1cc990e58127f2d2138b6584d40e5b9abf819f95cf24bb8c", func := "giro/girolaw22.ValidationEnv", spec := "validationEnv", inPlace := ["internal/abi.NoEscape"], unfollowed := true, recurses := true, named := ["internal/strconv.uint64pow10", "math/bits.deBruijn32tab", "math/bits.deBruijn64tab", "giro/validation.rules"], apart := false, laid := [("math/bits.deBruijn32tab", laid_math_bits_deBruijn32tab), ("math/bits.deBruijn64tab", laid_math_bits_deBruijn64tab), ("internal/strconv.uint64pow10", laid_internal_strconv_uint64pow10), ("giro/validation.rules", laid_giro_validation_rules)] }
def ValidationEnvSaid : Prop := validationEnvRow.holds Tryz.pinned (OpenSpec.ofChange validationEnvSpec)

/-- ITS FALSE NEIGHBOUR: 'it returns false'. Refute it at one input. -/
def validationEnvWrong : ChangeSpec := { name := "validationEnv", fn := fun _ => fun
  | [d1, d2, d3] => { results := [.lit (.bool false)], args := [d1, d2, d3] }
  | _ => none }
def ValidationEnvWrongFalsely : Prop := validationEnvRow.holds Tryz.pinned (OpenSpec.ofChange validationEnvWrong)

/-- 'girolaw21.RefdataCommute': WHATEVER THE INPUT: true; the input reads as it did. -/
def refdataCommuteSpec : ChangeSpec := { name := "refdataCommute", fn := fun _ => fun
  | [d1, d2, d3] => { results := [.lit (.bool true)], args := [d1, d2, d3] }
  | _ => none }
def refdataCommuteRow : OpenClaim := { program := "ytmbhkfclpkopiaagreatdoor", sum := "2795c2dbe27e7e2f1cc990e58127f2d2138b6584d40e5b9abf819f95cf24bb8c", func := "giro/girolaw21.RefdataCommute", spec := "refdataCommute", inPlace := ["internal/abi.NoEscape", "maps.clone"], unfollowed := true, recurses := true, named := ["internal/strconv.uint64pow10", "math/bits.deBruijn32tab", "math/bits.deBruijn64tab"], apart := false, laid := [("math/bits.deBruijn32tab", laid_math_bits_deBruijn32tab), ("math/bits.deBruijn64tab", laid_math_bits_deBruijn64tab), ("internal/strconv.uint64pow10", laid_internal_strconv_uint64pow10)] }
def RefdataCommuteSaid : Prop := refdataCommuteRow.holds Tryz.pinned (OpenSpec.ofChange refdataCommuteSpec)

/-- ITS FALSE NEIGHBOUR: 'it returns false'. Refute it at one input. -/
def refdataCommuteWrong : ChangeSpec := { name := "refdataCommute", fn := fun _ => fun
  | [d1, d2, d3] => { results := [.lit (.bool false)], args := [d1, d2, d3] }
  | _ => none }
def RefdataCommuteWrongFalsely : Prop := refdataCommuteRow.holds Tryz.pinned (OpenSpec.ofChange refdataCommuteWrong)

/-- 'girolaw21.RefdataLists': WHATEVER THE INPUT: true; the input reads as it did. -/
def refdataListsSpec : ChangeSpec := { name := "refdataLists", fn := fun _ => fun
  | [d1, d2, d3] => { results := [.lit (.bool true)], args := [d1, d2, d3] }
  | _ => none }
def refdataListsRow : OpenClaim := { program := "ytmbhkfclpkopiaagreatdoor", sum := "2795c2dbe27e7e2f1cc990e58127f2d2138b6584d40e5b9abf819f95cf24bb8c", func := "giro/girolaw21.RefdataLists", spec := "refdataLists", inPlace := ["internal/abi.NoEscape"], unfollowed := true, recurses := true, named := ["internal/strconv.uint64pow10", "math/bits.deBruijn32tab", "math/bits.deBruijn64tab"], apart := false, laid := [("math/bits.deBruijn32tab", laid_math_bits_deBruijn32tab), ("math/bits.deBruijn64tab", laid_math_bits_deBruijn64tab), ("internal/strconv.uint64pow10", laid_internal_strconv_uint64pow10)] }
def RefdataListsSaid : Prop := refdataListsRow.holds Tryz.pinned (OpenSpec.ofChange refdataListsSpec)

/-- ITS FALSE NEIGHBOUR: 'it returns false'. Refute it at one input. -/
def refdataListsWrong : ChangeSpec := { name := "refdataLists", fn := fun _ => fun
  | [d1, d2, d3] => { results := [.lit (.bool false)], args := [d1, d2, d3] }
  | _ => none }
def RefdataListsWrongFalsely : Prop := refdataListsRow.holds Tryz.pinned (OpenSpec.ofChange refdataListsWrong)

/-- 'girolaw21.RefdataNilClone': WHATEVER THE INPUT: true; the input reads as it did. -/
def refdataNilCloneSpec : ChangeSpec := { name := "refdataNilClone", fn := fun _ => fun
  | [d1, d2, d3, d4] => { results := [.lit (.bool true)], args := [d1, d2, d3, d4] }
  | _ => none }
def refdataNilCloneRow : OpenClaim := { program := "ytmbhkfclpkopiaagreatdoor", sum := "2795c2dbe27e7e2f1cc990e58127f2d2138b6584d40e5b9abf819f95cf24bb8c", func := "giro/girolaw21.RefdataNilClone", spec := "refdataNilClone", inPlace := ["internal/abi.NoEscape", "maps.clone"], unfollowed := true, recurses := true, named := ["internal/strconv.uint64pow10", "math/bits.deBruijn32tab", "math/bits.deBruijn64tab"], apart := false, laid := [("math/bits.deBruijn32tab", laid_math_bits_deBruijn32tab), ("math/bits.deBruijn64tab", laid_math_bits_deBruijn64tab), ("internal/strconv.uint64pow10", laid_internal_strconv_uint64pow10)] }
def RefdataNilCloneSaid : Prop := refdataNilCloneRow.holds Tryz.pinned (OpenSpec.ofChange refdataNilCloneSpec)

/-- ITS FALSE NEIGHBOUR: 'it returns false'. Refute it at one input. -/
def refdataNilCloneWrong : ChangeSpec := { name := "refdataNilClone", fn := fun _ => fun
  | [d1, d2, d3, d4] => { results := [.lit (.bool false)], args := [d1, d2, d3, d4] }
  | _ => none }
def RefdataNilCloneWrongFalsely : Prop := refdataNilCloneRow.holds Tryz.pinned (OpenSpec.ofChange refdataNilCloneWrong)

/-- 'girolaw22.ValidationNames': WHATEVER THE INPUT: true; the input reads as it did. -/
def validationNamesSpec : ChangeSpec := { name := "validationNames", fn := fun _ => fun
  | [d] => { results := [.lit (.bool true)], args := [d] }
  | _ => none }
def validationNamesRow : OpenClaim := { program := "ytmbhkfclpkopiaagreatdoor", sum := "2795c2dbe27e7e2f1cc990e58127f2d2138b6584d40e5b9abf819f95cf24bb8c", func := "giro/girolaw22.ValidationNames", spec := "validationNames", inPlace := ["internal/abi.NoEscape"], unfollowed := true, recurses := true, named := ["giro/validation.rules", "internal/strconv.uint64pow10", "math/bits.deBruijn32tab", "math/bits.deBruijn64tab"], apart := false, laid := [("math/bits.deBruijn32tab", laid_math_bits_deBruijn32tab), ("math/bits.deBruijn64tab", laid_math_bits_deBruijn64tab), ("internal/strconv.uint64pow10", laid_internal_strconv_uint64pow10), ("giro/validation.rules", laid_giro_validation_rules)] }
def ValidationNamesSaid : Prop := validationNamesRow.holds Tryz.pinned (OpenSpec.ofChange validationNamesSpec)

/-- ITS FALSE NEIGHBOUR: 'it returns false'. Refute it at one input. -/
def validationNamesWrong : ChangeSpec := { name := "validationNames", fn := fun _ => fun
  | [d] => { results := [.lit (.bool false)], args := [d] }
  | _ => none }
def ValidationNamesWrongFalsely : Prop := validationNamesRow.holds Tryz.pinned (OpenSpec.ofChange validationNamesWrong)

/-- 'girolaw22.ValidationCheck': WHATEVER THE INPUT: true; the input reads as it did. -/
def validationCheckSpec : ChangeSpec := { name := "validationCheck", fn := fun _ => fun
  | [d1, d2] => { results := [.lit (.bool true)], args := [d1, d2] }
  | _ => none }
def validationCheckRow : OpenClaim := { program := "ytmbhkfclpkopiaagreatdoor", sum := "2795c2dbe27e7e2f1cc990e58127f2d2138b6584d40e5b9abf819f95cf24bb8c", func := "giro/girolaw22.ValidationCheck", spec := "validationCheck", inPlace := ["internal/abi.NoEscape"], unfollowed := true, recurses := true, named := ["internal/strconv.uint64pow10", "math/bits.deBruijn32tab", "math/bits.deBruijn64tab", "giro/validation.rules"], apart := false, laid := [("math/bits.deBruijn32tab", laid_math_bits_deBruijn32tab), ("math/bits.deBruijn64tab", laid_math_bits_deBruijn64tab), ("internal/strconv.uint64pow10", laid_internal_strconv_uint64pow10), ("giro/validation.rules", laid_giro_validation_rules)] }
def ValidationCheckSaid : Prop := validationCheckRow.holds Tryz.pinned (OpenSpec.ofChange validationCheckSpec)

/-- ITS FALSE NEIGHBOUR: 'it returns false'. Refute it at one input. -/
def validationCheckWrong : ChangeSpec := { name := "validationCheck", fn := fun _ => fun
  | [d1, d2] => { results := [.lit (.bool false)], args := [d1, d2] }
  | _ => none }
def ValidationCheckWrongFalsely : Prop := validationCheckRow.holds Tryz.pinned (OpenSpec.ofChange validationCheckWrong)

/-- 'girolaw22.ValidationMirror': WHATEVER THE INPUT: true; the input reads as it did. -/
def validationMirrorSpec : ChangeSpec := { name := "validationMirror", fn := fun _ => fun
  | [d1, d2] => { results := [.lit (.bool true)], args := [d1, d2] }
  | _ => none }
def validationMirrorRow : OpenClaim := { program := "ytmbhkfclpkopiaagreatdoor", sum := "2795c2dbe27e7e2f1cc990e58127f2d2138b6584d40e5b9abf819f95cf24bb8c", func := "giro/girolaw22.ValidationMirror", spec := "validationMirror", inPlace := ["internal/abi.NoEscape"], unfollowed := true, recurses := true, named := ["internal/strconv.uint64pow10", "math/bits.deBruijn32tab", "math/bits.deBruijn64tab", "giro/validation.rules"], apart := false, laid := [("math/bits.deBruijn32tab", laid_math_bits_deBruijn32tab), ("math/bits.deBruijn64tab", laid_math_bits_deBruijn64tab), ("internal/strconv.uint64pow10", laid_internal_strconv_uint64pow10), ("giro/validation.rules", laid_giro_validation_rules)] }
def ValidationMirrorSaid : Prop := validationMirrorRow.holds Tryz.pinned (OpenSpec.ofChange validationMirrorSpec)

/-- ITS FALSE NEIGHBOUR: 'it returns false'. Refute it at one input. -/
def validationMirrorWrong : ChangeSpec := { name := "validationMirror", fn := fun _ => fun
  | [d1, d2] => { results := [.lit (.bool false)], args := [d1, d2] }
  | _ => none }
def ValidationMirrorWrongFalsely : Prop := validationMirrorRow.holds Tryz.pinned (OpenSpec.ofChange validationMirrorWrong)

/-- 'girolaw22.ValidationFailures': WHATEVER THE INPUT: true; the input reads as it did. -/
def validationFailuresSpec : ChangeSpec := { name := "validationFailures", fn := fun _ => fun
  | [d1, d2] => { results := [.lit (.bool true)], args := [d1, d2] }
  | _ => none }
def validationFailuresRow : OpenClaim := { program := "ytmbhkfclpkopiaagreatdoor", sum := "2795c2dbe27e7e2f1cc990e58127f2d2138b6584d40e5b9abf819f95cf24bb8c", func := "giro/girolaw22.ValidationFailures", spec := "validationFailures", inPlace := ["internal/abi.NoEscape"], unfollowed := true, recurses := true, named := ["internal/strconv.uint64pow10", "math/bits.deBruijn32tab", "math/bits.deBruijn64tab", "giro/validation.rules"], apart := false, laid := [("math/bits.deBruijn32tab", laid_math_bits_deBruijn32tab), ("math/bits.deBruijn64tab", laid_math_bits_deBruijn64tab), ("internal/strconv.uint64pow10", laid_internal_strconv_uint64pow10), ("giro/validation.rules", laid_giro_validation_rules)] }
def ValidationFailuresSaid : Prop := validationFailuresRow.holds Tryz.pinned (OpenSpec.ofChange validationFailuresSpec)

/-- ITS FALSE NEIGHBOUR: 'it returns false'. Refute it at one input. -/
def validationFailuresWrong : ChangeSpec := { name := "validationFailures", fn := fun _ => fun
  | [d1, d2] => { results := [.lit (.bool false)], args := [d1, d2] }
  | _ => none }
def ValidationFailuresWrongFalsely : Prop := validationFailuresRow.holds Tryz.pinned (OpenSpec.ofChange validationFailuresWrong)

/-- 'girolaw22.ValidationFuture': WHATEVER THE INPUT: true; the input reads as it did. -/
def validationFutureSpec : ChangeSpec := { name := "validationFuture", fn := fun _ => fun
  | [d1, d2, d3] => { results := [.lit (.bool true)], args := [d1, d2, d3] }
  | _ => none }
def validationFutureRow : OpenClaim := { program := "ytmbhkfclpkopiaagreatdoor", sum := "2795c2dbe27e7e2f1cc990e58127f2d2138b6584d40e5b9abf819f95cf24bb8c", func := "giro/girolaw22.ValidationFuture", spec := "validationFuture", inPlace := ["internal/abi.NoEscape", "maps.clone"], unfollowed := true, recurses := true, named := ["internal/strconv.uint64pow10", "math/bits.deBruijn32tab", "math/bits.deBruijn64tab", "giro/validation.rules"], apart := false, laid := [("math/bits.deBruijn32tab", laid_math_bits_deBruijn32tab), ("math/bits.deBruijn64tab", laid_math_bits_deBruijn64tab), ("internal/strconv.uint64pow10", laid_internal_strconv_uint64pow10), ("giro/validation.rules", laid_giro_validation_rules)] }
def ValidationFutureSaid : Prop := validationFutureRow.holds Tryz.pinned (OpenSpec.ofChange validationFutureSpec)

/-- ITS FALSE NEIGHBOUR: 'it returns false'. Refute it at one input. -/
def validationFutureWrong : ChangeSpec := { name := "validationFuture", fn := fun _ => fun
  | [d1, d2, d3] => { results := [.lit (.bool false)], args := [d1, d2, d3] }
  | _ => none }
def ValidationFutureWrongFalsely : Prop := validationFutureRow.holds Tryz.pinned (OpenSpec.ofChange validationFutureWrong)

/-- 'girolaw22.ValidationNextDay': WHATEVER THE INPUT: true; the input reads as it did. -/
def validationNextDaySpec : ChangeSpec := { name := "validationNextDay", fn := fun _ => fun
  | [d1, d2, d3] => { results := [.lit (.bool true)], args := [d1, d2, d3] }
  | _ => none }
def validationNextDayRow : OpenClaim := { program := "ytmbhkfclpkopiaagreatdoor", sum := "2795c2dbe27e7e2f1cc990e58127f2d2138b6584d40e5b9abf819f95cf24bb8c", func := "giro/girolaw22.ValidationNextDay", spec := "validationNextDay", inPlace := ["internal/abi.NoEscape"], unfollowed := true, recurses := true, named := ["internal/strconv.uint64pow10", "math/bits.deBruijn32tab", "math/bits.deBruijn64tab", "giro/validation.rules"], apart := false, laid := [("math/bits.deBruijn32tab", laid_math_bits_deBruijn32tab), ("math/bits.deBruijn64tab", laid_math_bits_deBruijn64tab), ("internal/strconv.uint64pow10", laid_internal_strconv_uint64pow10), ("giro/validation.rules", laid_giro_validation_rules)] }
def ValidationNextDaySaid : Prop := validationNextDayRow.holds Tryz.pinned (OpenSpec.ofChange validationNextDaySpec)

/-- ITS FALSE NEIGHBOUR: 'it returns false'. Refute it at one input. -/
def validationNextDayWrong : ChangeSpec := { name := "validationNextDay", fn := fun _ => fun
  | [d1, d2, d3] => { results := [.lit (.bool false)], args := [d1, d2, d3] }
  | _ => none }
def ValidationNextDayWrongFalsely : Prop := validationNextDayRow.holds Tryz.pinned (OpenSpec.ofChange validationNextDayWrong)

/-- 'girolaw22.ValidationAmend': WHATEVER THE INPUT: true; the input reads as it did. -/
def validationAmendSpec : ChangeSpec := { name := "validationAmend", fn := fun _ => fun
  | [d1, d2, d3] => { results := [.lit (.bool true)], args := [d1, d2, d3] }
  | _ => none }
def validationAmendRow : OpenClaim := { program := "ytmbhkfclpkopiaagreatdoor", sum := "2795c2dbe27e7e2f1cc990e58127f2d2138b6584d40e5b9abf819f95cf24bb8c", func := "giro/girolaw22.ValidationAmend", spec := "validationAmend", inPlace := ["internal/abi.NoEscape"], unfollowed := true, recurses := true, named := ["internal/strconv.uint64pow10", "math/bits.deBruijn32tab", "math/bits.deBruijn64tab", "giro/validation.rules"], apart := false, laid := [("math/bits.deBruijn32tab", laid_math_bits_deBruijn32tab), ("math/bits.deBruijn64tab", laid_math_bits_deBruijn64tab), ("internal/strconv.uint64pow10", laid_internal_strconv_uint64pow10), ("giro/validation.rules", laid_giro_validation_rules)] }
def ValidationAmendSaid : Prop := validationAmendRow.holds Tryz.pinned (OpenSpec.ofChange validationAmendSpec)

/-- ITS FALSE NEIGHBOUR: 'it returns false'. Refute it at one input. -/
def validationAmendWrong : ChangeSpec := { name := "validationAmend", fn := fun _ => fun
  | [d1, d2, d3] => { results := [.lit (.bool false)], args := [d1, d2, d3] }
  | _ => none }
def ValidationAmendWrongFalsely : Prop := validationAmendRow.holds Tryz.pinned (OpenSpec.ofChange validationAmendWrong)

/- THE SECOND FORM. 'bulk': how many values and letters a reading holds, each counted each time it is reached (what is shared counts as often as it is met; a slice's spare places count too). A statement '..UptoSaid' is the law's where the arguments, and the package variables that the reading takes, are together of bulk at most 1048576: NARROWER than '..Said'. Prove '..Said' where nothing that the law and all that it calls make is longer than what came in: it says more and counts as full. Else prove '..UptoSaid'. A law counts once. -/
mutual
def uptoBulk {H : Type} : DataW H → Nat
  | .lit (.string bytes) => bytes.length + 1
  | .lit _ => 1
  | .nil => 1
  | .ptr d => uptoBulk d + 1
  | .slice elems spare => uptoBulkAll elems + uptoBulkAll spare + 1
  | .agg parts => uptoBulkAll parts + 1
  | .iface _ d => uptoBulk d + 1
  | .map entries => uptoBulkEntries entries + 1
  | .held _ => 1
def uptoBulkAll {H : Type} : List (DataW H) → Nat
  | [] => 0
  | d :: r => uptoBulk d + uptoBulkAll r
def uptoBulkEntries {H : Type} : List (Lit × DataW H) → Nat
  | [] => 0
  | x :: r => uptoBulkEntry x + uptoBulkEntries r
def uptoBulkEntry {H : Type} : Lit × DataW H → Nat
  | (.string bytes, d) => bytes.length + uptoBulk d + 1
  | (_, d) => uptoBulk d + 1
 end
def uptoSmall : (H : Type) → List (DataW H) → Bool := fun _ ds => decide (uptoBulkAll ds ≤ 1048576)
def OpenSpec.upto (s : _root_.Go.ChangeSpec) : _root_.Go.OpenSpec := { _root_.Go.OpenSpec.ofChange s with cond := some uptoSmall }

/-- 'girolaw21.RefdataLookup', WHERE WHAT IT READS IS OF BULK AT MOST 1048576: true; the input reads as it did. -/
def refdataLookupUptoRow : OpenClaim := { program := "ytmbhkfclpkopiaagreatdoor", sum := "2795c2dbe27e7e2f1cc990e58127f2d2138b6584d40e5b9abf819f95cf24bb8c", func := "giro/girolaw21.RefdataLookup", spec := "refdataLookup", inPlace := ["internal/abi.NoEscape"], unfollowed := true, recurses := true, named := ["internal/strconv.uint64pow10", "math/bits.deBruijn32tab", "math/bits.deBruijn64tab"], apart := false, laid := [("math/bits.deBruijn32tab", laid_math_bits_deBruijn32tab), ("math/bits.deBruijn64tab", laid_math_bits_deBruijn64tab), ("internal/strconv.uint64pow10", laid_internal_strconv_uint64pow10)], narrowed := true }
def RefdataLookupUptoSaid : Prop := refdataLookupUptoRow.holds Tryz.pinned (OpenSpec.upto refdataLookupSpec)

/-- 'girolaw21.RefdataHistory', WHERE WHAT IT READS IS OF BULK AT MOST 1048576: true; the input reads as it did. -/
def refdataHistoryUptoRow : OpenClaim := { program := "ytmbhkfclpkopiaagreatdoor", sum := "2795c2dbe27e7e2f1cc990e58127f2d2138b6584d40e5b9abf819f95cf24bb8c", func := "giro/girolaw21.RefdataHistory", spec := "refdataHistory", inPlace := ["internal/abi.NoEscape", "maps.clone"], unfollowed := true, recurses := true, named := ["internal/strconv.uint64pow10", "math/bits.deBruijn32tab", "math/bits.deBruijn64tab"], apart := false, laid := [("math/bits.deBruijn32tab", laid_math_bits_deBruijn32tab), ("math/bits.deBruijn64tab", laid_math_bits_deBruijn64tab), ("internal/strconv.uint64pow10", laid_internal_strconv_uint64pow10)], narrowed := true }
def RefdataHistoryUptoSaid : Prop := refdataHistoryUptoRow.holds Tryz.pinned (OpenSpec.upto refdataHistorySpec)

/-- 'girolaw21.RefdataOpenEnded', WHERE WHAT IT READS IS OF BULK AT MOST 1048576: true; the input reads as it did. -/
def refdataOpenEndedUptoRow : OpenClaim := { program := "ytmbhkfclpkopiaagreatdoor", sum := "2795c2dbe27e7e2f1cc990e58127f2d2138b6584d40e5b9abf819f95cf24bb8c", func := "giro/girolaw21.RefdataOpenEnded", spec := "refdataOpenEnded", inPlace := ["internal/abi.NoEscape"], unfollowed := true, recurses := true, named := ["internal/strconv.uint64pow10", "math/bits.deBruijn32tab", "math/bits.deBruijn64tab"], apart := false, laid := [("math/bits.deBruijn32tab", laid_math_bits_deBruijn32tab), ("math/bits.deBruijn64tab", laid_math_bits_deBruijn64tab), ("internal/strconv.uint64pow10", laid_internal_strconv_uint64pow10)], narrowed := true }
def RefdataOpenEndedUptoSaid : Prop := refdataOpenEndedUptoRow.holds Tryz.pinned (OpenSpec.upto refdataOpenEndedSpec)

/-- 'girolaw21.RefdataAtomic', WHERE WHAT IT READS IS OF BULK AT MOST 1048576: true; the input reads as it did. -/
def refdataAtomicUptoRow : OpenClaim := { program := "ytmbhkfclpkopiaagreatdoor", sum := "2795c2dbe27e7e2f1cc990e58127f2d2138b6584d40e5b9abf819f95cf24bb8c", func := "giro/girolaw21.RefdataAtomic", spec := "refdataAtomic", inPlace := ["internal/abi.NoEscape", "maps.clone"], unfollowed := true, recurses := true, named := ["internal/strconv.uint64pow10", "math/bits.deBruijn32tab", "math/bits.deBruijn64tab"], apart := false, laid := [("math/bits.deBruijn32tab", laid_math_bits_deBruijn32tab), ("math/bits.deBruijn64tab", laid_math_bits_deBruijn64tab), ("internal/strconv.uint64pow10", laid_internal_strconv_uint64pow10)], narrowed := true }
def RefdataAtomicUptoSaid : Prop := refdataAtomicUptoRow.holds Tryz.pinned (OpenSpec.upto refdataAtomicSpec)

/-- 'girolaw22.ValidationRequests', WHERE WHAT IT READS IS OF BULK AT MOST 1048576: true; the input reads as it did. -/
def validationRequestsUptoRow : OpenClaim := { program := "ytmbhkfclpkopiaagreatdoor", sum := "2795c2dbe27e7e2f1cc990e58127f2d2138b6584d40e5b9abf819f95cf24bb8c", func := "giro/girolaw22.ValidationRequests", spec := "validationRequests", inPlace := ["internal/abi.NoEscape"], unfollowed := true, recurses := true, named := ["internal/strconv.uint64pow10", "math/bits.deBruijn32tab", "math/bits.deBruijn64tab", "giro/validation.rules"], apart := false, laid := [("math/bits.deBruijn32tab", laid_math_bits_deBruijn32tab), ("math/bits.deBruijn64tab", laid_math_bits_deBruijn64tab), ("internal/strconv.uint64pow10", laid_internal_strconv_uint64pow10), ("giro/validation.rules", laid_giro_validation_rules)], narrowed := true }
def ValidationRequestsUptoSaid : Prop := validationRequestsUptoRow.holds Tryz.pinned (OpenSpec.upto validationRequestsSpec)

/-- 'girolaw21.RefdataReplace', WHERE WHAT IT READS IS OF BULK AT MOST 1048576: true; the input reads as it did. -/
def refdataReplaceUptoRow : OpenClaim := { program := "ytmbhkfclpkopiaagreatdoor", sum := "2795c2dbe27e7e2f1cc990e58127f2d2138b6584d40e5b9abf819f95cf24bb8c", func := "giro/girolaw21.RefdataReplace", spec := "refdataReplace", inPlace := ["internal/abi.NoEscape", "maps.clone"], unfollowed := true, recurses := true, named := ["internal/strconv.uint64pow10", "math/bits.deBruijn32tab", "math/bits.deBruijn64tab"], apart := false, laid := [("math/bits.deBruijn32tab", laid_math_bits_deBruijn32tab), ("math/bits.deBruijn64tab", laid_math_bits_deBruijn64tab), ("internal/strconv.uint64pow10", laid_internal_strconv_uint64pow10)], narrowed := true }
def RefdataReplaceUptoSaid : Prop := refdataReplaceUptoRow.holds Tryz.pinned (OpenSpec.upto refdataReplaceSpec)

/-- 'girolaw22.ValidationEnv', WHERE WHAT IT READS IS OF BULK AT MOST 1048576: true; the input reads as it did. -/
def validationEnvUptoRow : OpenClaim := { program := "ytmbhkfclpkopiaagreatdoor", sum := "2795c2dbe27e7e2f1cc990e58127f2d2138b6584d40e5b9abf819f95cf24bb8c", func := "giro/girolaw22.ValidationEnv", spec := "validationEnv", inPlace := ["internal/abi.NoEscape"], unfollowed := true, recurses := true, named := ["internal/strconv.uint64pow10", "math/bits.deBruijn32tab", "math/bits.deBruijn64tab", "giro/validation.rules"], apart := false, laid := [("math/bits.deBruijn32tab", laid_math_bits_deBruijn32tab), ("math/bits.deBruijn64tab", laid_math_bits_deBruijn64tab), ("internal/strconv.uint64pow10", laid_internal_strconv_uint64pow10), ("giro/validation.rules", laid_giro_validation_rules)], narrowed := true }
def ValidationEnvUptoSaid : Prop := validationEnvUptoRow.holds Tryz.pinned (OpenSpec.upto validationEnvSpec)

/-- 'girolaw21.RefdataCommute', WHERE WHAT IT READS IS OF BULK AT MOST 1048576: true; the input reads as it did. -/
def refdataCommuteUptoRow : OpenClaim := { program := "ytmbhkfclpkopiaagreatdoor", sum := "2795c2dbe27e7e2f1cc990e58127f2d2138b6584d40e5b9abf819f95cf24bb8c", func := "giro/girolaw21.RefdataCommute", spec := "refdataCommute", inPlace := ["internal/abi.NoEscape", "maps.clone"], unfollowed := true, recurses := true, named := ["internal/strconv.uint64pow10", "math/bits.deBruijn32tab", "math/bits.deBruijn64tab"], apart := false, laid := [("math/bits.deBruijn32tab", laid_math_bits_deBruijn32tab), ("math/bits.deBruijn64tab", laid_math_bits_deBruijn64tab), ("internal/strconv.uint64pow10", laid_internal_strconv_uint64pow10)], narrowed := true }
def RefdataCommuteUptoSaid : Prop := refdataCommuteUptoRow.holds Tryz.pinned (OpenSpec.upto refdataCommuteSpec)

/-- 'girolaw21.RefdataLists', WHERE WHAT IT READS IS OF BULK AT MOST 1048576: true; the input reads as it did. -/
def refdataListsUptoRow : OpenClaim := { program := "ytmbhkfclpkopiaagreatdoor", sum := "2795c2dbe27e7e2f1cc990e58127f2d2138b6584d40e5b9abf819f95cf24bb8c", func := "giro/girolaw21.RefdataLists", spec := "refdataLists", inPlace := ["internal/abi.NoEscape"], unfollowed := true, recurses := true, named := ["internal/strconv.uint64pow10", "math/bits.deBruijn32tab", "math/bits.deBruijn64tab"], apart := false, laid := [("math/bits.deBruijn32tab", laid_math_bits_deBruijn32tab), ("math/bits.deBruijn64tab", laid_math_bits_deBruijn64tab), ("internal/strconv.uint64pow10", laid_internal_strconv_uint64pow10)], narrowed := true }
def RefdataListsUptoSaid : Prop := refdataListsUptoRow.holds Tryz.pinned (OpenSpec.upto refdataListsSpec)

/-- 'girolaw21.RefdataNilClone', WHERE WHAT IT READS IS OF BULK AT MOST 1048576: true; the input reads as it did. -/
def refdataNilCloneUptoRow : OpenClaim := { program := "ytmbhkfclpkopiaagreatdoor", sum := "2795c2dbe27e7e2f1cc990e58127f2d2138b6584d40e5b9abf819f95cf24bb8c", func := "giro/girolaw21.RefdataNilClone", spec := "refdataNilClone", inPlace := ["internal/abi.NoEscape", "maps.clone"], unfollowed := true, recurses := true, named := ["internal/strconv.uint64pow10", "math/bits.deBruijn32tab", "math/bits.deBruijn64tab"], apart := false, laid := [("math/bits.deBruijn32tab", laid_math_bits_deBruijn32tab), ("math/bits.deBruijn64tab", laid_math_bits_deBruijn64tab), ("internal/strconv.uint64pow10", laid_internal_strconv_uint64pow10)], narrowed := true }
def RefdataNilCloneUptoSaid : Prop := refdataNilCloneUptoRow.holds Tryz.pinned (OpenSpec.upto refdataNilCloneSpec)

/-- 'girolaw22.ValidationNames', WHERE WHAT IT READS IS OF BULK AT MOST 1048576: true; the input reads as it did. -/
def validationNamesUptoRow : OpenClaim := { program := "ytmbhkfclpkopiaagreatdoor", sum := "2795c2dbe27e7e2f1cc990e58127f2d2138b6584d40e5b9abf819f95cf24bb8c", func := "giro/girolaw22.ValidationNames", spec := "validationNames", inPlace := ["internal/abi.NoEscape"], unfollowed := true, recurses := true, named := ["giro/validation.rules", "internal/strconv.uint64pow10", "math/bits.deBruijn32tab", "math/bits.deBruijn64tab"], apart := false, laid := [("math/bits.deBruijn32tab", laid_math_bits_deBruijn32tab), ("math/bits.deBruijn64tab", laid_math_bits_deBruijn64tab), ("internal/strconv.uint64pow10", laid_internal_strconv_uint64pow10), ("giro/validation.rules", laid_giro_validation_rules)], narrowed := true }
def ValidationNamesUptoSaid : Prop := validationNamesUptoRow.holds Tryz.pinned (OpenSpec.upto validationNamesSpec)

/-- 'girolaw22.ValidationCheck', WHERE WHAT IT READS IS OF BULK AT MOST 1048576: true; the input reads as it did. -/
def validationCheckUptoRow : OpenClaim := { program := "ytmbhkfclpkopiaagreatdoor", sum := "2795c2dbe27e7e2f1cc990e58127f2d2138b6584d40e5b9abf819f95cf24bb8c", func := "giro/girolaw22.ValidationCheck", spec := "validationCheck", inPlace := ["internal/abi.NoEscape"], unfollowed := true, recurses := true, named := ["internal/strconv.uint64pow10", "math/bits.deBruijn32tab", "math/bits.deBruijn64tab", "giro/validation.rules"], apart := false, laid := [("math/bits.deBruijn32tab", laid_math_bits_deBruijn32tab), ("math/bits.deBruijn64tab", laid_math_bits_deBruijn64tab), ("internal/strconv.uint64pow10", laid_internal_strconv_uint64pow10), ("giro/validation.rules", laid_giro_validation_rules)], narrowed := true }
def ValidationCheckUptoSaid : Prop := validationCheckUptoRow.holds Tryz.pinned (OpenSpec.upto validationCheckSpec)

/-- 'girolaw22.ValidationMirror', WHERE WHAT IT READS IS OF BULK AT MOST 1048576: true; the input reads as it did. -/
def validationMirrorUptoRow : OpenClaim := { program := "ytmbhkfclpkopiaagreatdoor", sum := "2795c2dbe27e7e2f1cc990e58127f2d2138b6584d40e5b9abf819f95cf24bb8c", func := "giro/girolaw22.ValidationMirror", spec := "validationMirror", inPlace := ["internal/abi.NoEscape"], unfollowed := true, recurses := true, named := ["internal/strconv.uint64pow10", "math/bits.deBruijn32tab", "math/bits.deBruijn64tab", "giro/validation.rules"], apart := false, laid := [("math/bits.deBruijn32tab", laid_math_bits_deBruijn32tab), ("math/bits.deBruijn64tab", laid_math_bits_deBruijn64tab), ("internal/strconv.uint64pow10", laid_internal_strconv_uint64pow10), ("giro/validation.rules", laid_giro_validation_rules)], narrowed := true }
def ValidationMirrorUptoSaid : Prop := validationMirrorUptoRow.holds Tryz.pinned (OpenSpec.upto validationMirrorSpec)

/-- 'girolaw22.ValidationFailures', WHERE WHAT IT READS IS OF BULK AT MOST 1048576: true; the input reads as it did. -/
def validationFailuresUptoRow : OpenClaim := { program := "ytmbhkfclpkopiaagreatdoor", sum := "2795c2dbe27e7e2f1cc990e58127f2d2138b6584d40e5b9abf819f95cf24bb8c", func := "giro/girolaw22.ValidationFailures", spec := "validationFailures", inPlace := ["internal/abi.NoEscape"], unfollowed := true, recurses := true, named := ["internal/strconv.uint64pow10", "math/bits.deBruijn32tab", "math/bits.deBruijn64tab", "giro/validation.rules"], apart := false, laid := [("math/bits.deBruijn32tab", laid_math_bits_deBruijn32tab), ("math/bits.deBruijn64tab", laid_math_bits_deBruijn64tab), ("internal/strconv.uint64pow10", laid_internal_strconv_uint64pow10), ("giro/validation.rules", laid_giro_validation_rules)], narrowed := true }
def ValidationFailuresUptoSaid : Prop := validationFailuresUptoRow.holds Tryz.pinned (OpenSpec.upto validationFailuresSpec)

/-- 'girolaw22.ValidationFuture', WHERE WHAT IT READS IS OF BULK AT MOST 1048576: true; the input reads as it did. -/
def validationFutureUptoRow : OpenClaim := { program := "ytmbhkfclpkopiaagreatdoor", sum := "2795c2dbe27e7e2f1cc990e58127f2d2138b6584d40e5b9abf819f95cf24bb8c", func := "giro/girolaw22.ValidationFuture", spec := "validationFuture", inPlace := ["internal/abi.NoEscape", "maps.clone"], unfollowed := true, recurses := true, named := ["internal/strconv.uint64pow10", "math/bits.deBruijn32tab", "math/bits.deBruijn64tab", "giro/validation.rules"], apart := false, laid := [("math/bits.deBruijn32tab", laid_math_bits_deBruijn32tab), ("math/bits.deBruijn64tab", laid_math_bits_deBruijn64tab), ("internal/strconv.uint64pow10", laid_internal_strconv_uint64pow10), ("giro/validation.rules", laid_giro_validation_rules)], narrowed := true }
def ValidationFutureUptoSaid : Prop := validationFutureUptoRow.holds Tryz.pinned (OpenSpec.upto validationFutureSpec)

/-- 'girolaw22.ValidationNextDay', WHERE WHAT IT READS IS OF BULK AT MOST 1048576: true; the input reads as it did. -/
def validationNextDayUptoRow : OpenClaim := { program := "ytmbhkfclpkopiaagreatdoor", sum := "2795c2dbe27e7e2f1cc990e58127f2d2138b6584d40e5b9abf819f95cf24bb8c", func := "giro/girolaw22.ValidationNextDay", spec := "validationNextDay", inPlace := ["internal/abi.NoEscape"], unfollowed := true, recurses := true, named := ["internal/strconv.uint64pow10", "math/bits.deBruijn32tab", "math/bits.deBruijn64tab", "giro/validation.rules"], apart := false, laid := [("math/bits.deBruijn32tab", laid_math_bits_deBruijn32tab), ("math/bits.deBruijn64tab", laid_math_bits_deBruijn64tab), ("internal/strconv.uint64pow10", laid_internal_strconv_uint64pow10), ("giro/validation.rules", laid_giro_validation_rules)], narrowed := true }
def ValidationNextDayUptoSaid : Prop := validationNextDayUptoRow.holds Tryz.pinned (OpenSpec.upto validationNextDaySpec)

/-- 'girolaw22.ValidationAmend', WHERE WHAT IT READS IS OF BULK AT MOST 1048576: true; the input reads as it did. -/
def validationAmendUptoRow : OpenClaim := { program := "ytmbhkfclpkopiaagreatdoor", sum := "2795c2dbe27e7e2f1cc990e58127f2d2138b6584d40e5b9abf819f95cf24bb8c", func := "giro/girolaw22.ValidationAmend", spec := "validationAmend", inPlace := ["internal/abi.NoEscape"], unfollowed := true, recurses := true, named := ["internal/strconv.uint64pow10", "math/bits.deBruijn32tab", "math/bits.deBruijn64tab", "giro/validation.rules"], apart := false, laid := [("math/bits.deBruijn32tab", laid_math_bits_deBruijn32tab), ("math/bits.deBruijn64tab", laid_math_bits_deBruijn64tab), ("internal/strconv.uint64pow10", laid_internal_strconv_uint64pow10), ("giro/validation.rules", laid_giro_validation_rules)], narrowed := true }
def ValidationAmendUptoSaid : Prop := validationAmendUptoRow.holds Tryz.pinned (OpenSpec.upto validationAmendSpec)

end Rows
end Go.Proofs.YtmbhkfclpkopiaaGreatDoor
