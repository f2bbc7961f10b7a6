/-
  NARROWER THAN 'FOR EVERY INPUT', by the rows' own cells (each row's printed sentence says how): TrustLogsGrow: laid · TrustSignedIsGenuine: laid · TrustSignsMatchSpec: laid · TrustAgreedOfMore: laid · TrustHeadsMatchSpec: laid · TrustTrustedIsGood: laid · TrustDueIsEach: laid · TrustWrongIsTainted: laid · TrustTaintedMatchesSpec: laid · TrustReadsMatchSpec: laid · TrustTextsMatchSpec: laid · TrustResultsAreNew: laid · TrustAgreedMatchesSpec: laid · TrustTrustedMatchesSpec: laid · TrustDueMatchesSpec: laid.
  DERIVED. THE GIVEN ROWS OF THIS SEAT. 15 by the template 'for every input the law returns true; each argument reads behind the call as it read before'; 0 by the template 'total and deterministic' (their statements: YtahlodpolggeiaaGreatDoorTotals.lean).
  GIVEN WITH THE SEED: the statements are not yours to turn. If you find one false, say at which input.
  Laid BY PROGRAM, IN A SANDBOX (cutbox-rows.mjs): the forced cells as the released guide's own fill.sh prints them over the translation 52a4d102e3e28bd6… (all of the seat's roots in one cut). By AI agents, Wed Nov 11 2026. No macro, syntax, notation, axiom, sorry.
-/
import Derived.Test.YtahlodpolggeiaaGreatDoorChecked
import GoSem.PinnedTables
import GoSem.Claim
import GoSem.ClaimJoined
import GoSem.ClaimMapViews
import Derived.JoinedTies
import Derived.KernelRfl
namespace Go.Proofs.YtahlodpolggeiaaGreatDoor
/- THE CELL 'sum', in the pinned program and in every row, IS THE sha256 OF THE DUMP (.gsa) THAT YtahlodpolggeiaaGreatDoorProg.lean LOADS. Nothing in Lean hashes anything: it is a label: what it is worth is what the hold of that sum in a sandbox is worth. -/
noncomputable def Tryz.pinned : Pinned := { name := "ytahlodpolggeiaagreatdoor", sum := "52a4d102e3e28bd6ae0358ce921d4803c250b3291111d51193f994c0af37e46e", checked := Tryz.checked }
namespace Rows
def none {H : Type} : Left H := { results := [], args := [] }

/- WHAT THE LISTED PACKAGE-LEVEL VARIABLES READ AS WHEN THE CALL BEGINS. Each datum BY PROGRAM (the guide's laid-datum.mjs) off the statement by which the dump's own 'gosem.cut.vars' lays the variable. In a bare row this is a premise. The card (YtahlodpolggeiaaGreatDoorCards.lean) ties it to the program's text. -/
def laid_math_bits_deBruijn32tab {H : Type} : DataW H := .agg [.lit (.int .u8 0), .lit (.int .u8 1), .lit (.int .u8 28), .lit (.int .u8 2), .lit (.int .u8 29), .lit (.int .u8 14), .lit (.int .u8 24), .lit (.int .u8 3), .lit (.int .u8 30), .lit (.int .u8 22), .lit (.int .u8 20), .lit (.int .u8 15), .lit (.int .u8 25), .lit (.int .u8 17), .lit (.int .u8 4), .lit (.int .u8 8), .lit (.int .u8 31), .lit (.int .u8 27), .lit (.int .u8 13), .lit (.int .u8 23), .lit (.int .u8 21), .lit (.int .u8 19), .lit (.int .u8 16), .lit (.int .u8 7), .lit (.int .u8 26), .lit (.int .u8 12), .lit (.int .u8 18), .lit (.int .u8 6), .lit (.int .u8 11), .lit (.int .u8 5), .lit (.int .u8 10), .lit (.int .u8 9)]
def laid_math_bits_deBruijn64tab {H : Type} : DataW H := .agg [.lit (.int .u8 0), .lit (.int .u8 1), .lit (.int .u8 56), .lit (.int .u8 2), .lit (.int .u8 57), .lit (.int .u8 49), .lit (.int .u8 28), .lit (.int .u8 3), .lit (.int .u8 61), .lit (.int .u8 58), .lit (.int .u8 42), .lit (.int .u8 50), .lit (.int .u8 38), .lit (.int .u8 29), .lit (.int .u8 17), .lit (.int .u8 4), .lit (.int .u8 62), .lit (.int .u8 47), .lit (.int .u8 59), .lit (.int .u8 36), .lit (.int .u8 45), .lit (.int .u8 43), .lit (.int .u8 51), .lit (.int .u8 22), .lit (.int .u8 53), .lit (.int .u8 39), .lit (.int .u8 33), .lit (.int .u8 30), .lit (.int .u8 24), .lit (.int .u8 18), .lit (.int .u8 12), .lit (.int .u8 5), .lit (.int .u8 63), .lit (.int .u8 55), .lit (.int .u8 48), .lit (.int .u8 27), .lit (.int .u8 60), .lit (.int .u8 41), .lit (.int .u8 37), .lit (.int .u8 16), .lit (.int .u8 46), .lit (.int .u8 35), .lit (.int .u8 44), .lit (.int .u8 21), .lit (.int .u8 52), .lit (.int .u8 32), .lit (.int .u8 23), .lit (.int .u8 11), .lit (.int .u8 54), .lit (.int .u8 26), .lit (.int .u8 40), .lit (.int .u8 15), .lit (.int .u8 34), .lit (.int .u8 20), .lit (.int .u8 31), .lit (.int .u8 10), .lit (.int .u8 25), .lit (.int .u8 14), .lit (.int .u8 19), .lit (.int .u8 9), .lit (.int .u8 13), .lit (.int .u8 8), .lit (.int .u8 7), .lit (.int .u8 6)]
def laid_internal_strconv_uint64pow10 {H : Type} : DataW H := .agg [.lit (.int .u64 1), .lit (.int .u64 10), .lit (.int .u64 100), .lit (.int .u64 1000), .lit (.int .u64 10000), .lit (.int .u64 100000), .lit (.int .u64 1000000), .lit (.int .u64 10000000), .lit (.int .u64 100000000), .lit (.int .u64 1000000000), .lit (.int .u64 10000000000), .lit (.int .u64 100000000000), .lit (.int .u64 1000000000000), .lit (.int .u64 10000000000000), .lit (.int .u64 100000000000000), .lit (.int .u64 1000000000000000), .lit (.int .u64 10000000000000000), .lit (.int .u64 100000000000000000), .lit (.int .u64 1000000000000000000), .lit (.int .u64 10000000000000000000)]
def laid_unicode_utf8_acceptRanges {H : Type} : DataW H := .agg [.agg [.lit (.int .u8 128), .lit (.int .u8 191)], .agg [.lit (.int .u8 160), .lit (.int .u8 191)], .agg [.lit (.int .u8 128), .lit (.int .u8 159)], .agg [.lit (.int .u8 144), .lit (.int .u8 191)], .agg [.lit (.int .u8 128), .lit (.int .u8 143)], .agg [.lit (.int .u8 0), .lit (.int .u8 0)], .agg [.lit (.int .u8 0), .lit (.int .u8 0)], .agg [.lit (.int .u8 0), .lit (.int .u8 0)], .agg [.lit (.int .u8 0), .lit (.int .u8 0)], .agg [.lit (.int .u8 0), .lit (.int .u8 0)], .agg [.lit (.int .u8 0), .lit (.int .u8 0)], .agg [.lit (.int .u8 0), .lit (.int .u8 0)], .agg [.lit (.int .u8 0), .lit (.int .u8 0)], .agg [.lit (.int .u8 0), .lit (.int .u8 0)], .agg [.lit (.int .u8 0), .lit (.int .u8 0)], .agg [.lit (.int .u8 0), .lit (.int .u8 0)]]
/-- One of Go's own tables, pinned by name: the form's constant. -/
def laid_unicode_utf8_first : DataW Unit := Go.Pinned.utf8First
def laid_strconv_ErrRange {H : Type} : DataW H := .iface "*errors.errorString" (.ptr (.agg [.lit (.string [118, 97, 108, 117, 101, 32, 111, 117, 116, 32, 111, 102, 32, 114, 97, 110, 103, 101])]))
def laid_strconv_ErrSyntax {H : Type} : DataW H := .iface "*errors.errorString" (.ptr (.agg [.lit (.string [105, 110, 118, 97, 108, 105, 100, 32, 115, 121, 110, 116, 97, 120])]))

/-- 'smithyardlaw11.TrustLogsGrow': WHATEVER THE INPUT: true; the input reads as it did. -/
def trustLogsGrowSpec : ChangeSpec := { name := "trustLogsGrow", fn := fun _ => fun
  | [d1, d2] => { results := [.lit (.bool true)], args := [d1, d2] }
  | _ => none }
def trustLogsGrowRow : OpenClaim := { program := "ytahlodpolggeiaagreatdoor", sum := "52a4d102e3e28bd6ae0358ce921d4803c250b3291111d51193f994c0af37e46e", func := "smithyard/smithyardlaw11.TrustLogsGrow", spec := "trustLogsGrow", inPlace := ["internal/bytealg.IndexByteString", "internal/bytealg.IndexString", "internal/bytealg.CountString", "internal/abi.NoEscape", "internal/bytealg.MakeNoZero", "internal/bytealg.abigen_runtime_cmpstring"], unfollowed := true, recurses := true, named := ["unicode/utf8.first", "unicode/utf8.acceptRanges", "internal/bytealg.MaxLen", "internal/strconv.uint64pow10", "math/bits.deBruijn32tab", "math/bits.deBruijn64tab"], apart := false, laid := [("math/bits.deBruijn32tab", laid_math_bits_deBruijn32tab), ("math/bits.deBruijn64tab", laid_math_bits_deBruijn64tab), ("internal/strconv.uint64pow10", laid_internal_strconv_uint64pow10), ("unicode/utf8.acceptRanges", laid_unicode_utf8_acceptRanges), ("unicode/utf8.first", laid_unicode_utf8_first)] }
def TrustLogsGrowSaid : Prop := trustLogsGrowRow.holds Tryz.pinned (OpenSpec.ofChange trustLogsGrowSpec)

/-- ITS FALSE NEIGHBOUR: 'it returns false'. Refute it at one input. -/
def trustLogsGrowWrong : ChangeSpec := { name := "trustLogsGrow", fn := fun _ => fun
  | [d1, d2] => { results := [.lit (.bool false)], args := [d1, d2] }
  | _ => none }
def TrustLogsGrowWrongFalsely : Prop := trustLogsGrowRow.holds Tryz.pinned (OpenSpec.ofChange trustLogsGrowWrong)

/-- 'smithyardlaw11.TrustSignedIsGenuine': WHATEVER THE INPUT: true; the input reads as it did. -/
def trustSignedIsGenuineSpec : ChangeSpec := { name := "trustSignedIsGenuine", fn := fun _ => fun
  | [d1, d2, d3] => { results := [.lit (.bool true)], args := [d1, d2, d3] }
  | _ => none }
def trustSignedIsGenuineRow : OpenClaim := { program := "ytahlodpolggeiaagreatdoor", sum := "52a4d102e3e28bd6ae0358ce921d4803c250b3291111d51193f994c0af37e46e", func := "smithyard/smithyardlaw11.TrustSignedIsGenuine", spec := "trustSignedIsGenuine", inPlace := ["internal/bytealg.IndexByteString", "internal/bytealg.IndexString", "internal/bytealg.CountString", "internal/bytealg.abigen_runtime_cmpstring", "internal/abi.NoEscape", "internal/bytealg.MakeNoZero"], unfollowed := true, recurses := true, named := ["unicode/utf8.first", "unicode/utf8.acceptRanges", "internal/bytealg.MaxLen", "internal/strconv.uint64pow10", "math/bits.deBruijn32tab", "math/bits.deBruijn64tab"], apart := false, laid := [("math/bits.deBruijn32tab", laid_math_bits_deBruijn32tab), ("math/bits.deBruijn64tab", laid_math_bits_deBruijn64tab), ("internal/strconv.uint64pow10", laid_internal_strconv_uint64pow10), ("unicode/utf8.acceptRanges", laid_unicode_utf8_acceptRanges), ("unicode/utf8.first", laid_unicode_utf8_first)] }
def TrustSignedIsGenuineSaid : Prop := trustSignedIsGenuineRow.holds Tryz.pinned (OpenSpec.ofChange trustSignedIsGenuineSpec)

/-- ITS FALSE NEIGHBOUR: 'it returns false'. Refute it at one input. -/
def trustSignedIsGenuineWrong : ChangeSpec := { name := "trustSignedIsGenuine", fn := fun _ => fun
  | [d1, d2, d3] => { results := [.lit (.bool false)], args := [d1, d2, d3] }
  | _ => none }
def TrustSignedIsGenuineWrongFalsely : Prop := trustSignedIsGenuineRow.holds Tryz.pinned (OpenSpec.ofChange trustSignedIsGenuineWrong)

/-- 'smithyardlaw11.TrustSignsMatchSpec': WHATEVER THE INPUT: true; the input reads as it did. -/
def trustSignsMatchSpecSpec : ChangeSpec := { name := "trustSignsMatchSpec", fn := fun _ => fun
  | [d1, d2, d3] => { results := [.lit (.bool true)], args := [d1, d2, d3] }
  | _ => none }
def trustSignsMatchSpecRow : OpenClaim := { program := "ytahlodpolggeiaagreatdoor", sum := "52a4d102e3e28bd6ae0358ce921d4803c250b3291111d51193f994c0af37e46e", func := "smithyard/smithyardlaw11.TrustSignsMatchSpec", spec := "trustSignsMatchSpec", inPlace := ["internal/bytealg.IndexByteString", "internal/bytealg.IndexString", "internal/bytealg.CountString", "internal/abi.NoEscape", "internal/bytealg.MakeNoZero", "internal/bytealg.abigen_runtime_cmpstring"], unfollowed := true, recurses := true, named := ["unicode/utf8.first", "unicode/utf8.acceptRanges", "internal/bytealg.MaxLen", "internal/strconv.uint64pow10", "math/bits.deBruijn32tab", "math/bits.deBruijn64tab"], apart := false, laid := [("math/bits.deBruijn32tab", laid_math_bits_deBruijn32tab), ("math/bits.deBruijn64tab", laid_math_bits_deBruijn64tab), ("internal/strconv.uint64pow10", laid_internal_strconv_uint64pow10), ("unicode/utf8.acceptRanges", laid_unicode_utf8_acceptRanges), ("unicode/utf8.first", laid_unicode_utf8_first)] }
def TrustSignsMatchSpecSaid : Prop := trustSignsMatchSpecRow.holds Tryz.pinned (OpenSpec.ofChange trustSignsMatchSpecSpec)

/-- ITS FALSE NEIGHBOUR: 'it returns false'. Refute it at one input. -/
def trustSignsMatchSpecWrong : ChangeSpec := { name := "trustSignsMatchSpec", fn := fun _ => fun
  | [d1, d2, d3] => { results := [.lit (.bool false)], args := [d1, d2, d3] }
  | _ => none }
def TrustSignsMatchSpecWrongFalsely : Prop := trustSignsMatchSpecRow.holds Tryz.pinned (OpenSpec.ofChange trustSignsMatchSpecWrong)

/-- 'smithyardlaw11.TrustAgreedOfMore': WHATEVER THE INPUT: true; the input reads as it did. -/
def trustAgreedOfMoreSpec : ChangeSpec := { name := "trustAgreedOfMore", fn := fun _ => fun
  | [d1, d2, d3, d4, d5] => { results := [.lit (.bool true)], args := [d1, d2, d3, d4, d5] }
  | _ => none }
def trustAgreedOfMoreRow : OpenClaim := { program := "ytahlodpolggeiaagreatdoor", sum := "52a4d102e3e28bd6ae0358ce921d4803c250b3291111d51193f994c0af37e46e", func := "smithyard/smithyardlaw11.TrustAgreedOfMore", spec := "trustAgreedOfMore", inPlace := ["internal/bytealg.IndexByteString", "internal/bytealg.IndexString", "internal/bytealg.CountString", "internal/bytealg.abigen_runtime_cmpstring", "internal/abi.NoEscape", "internal/bytealg.MakeNoZero"], unfollowed := true, recurses := true, named := ["unicode/utf8.first", "unicode/utf8.acceptRanges", "internal/bytealg.MaxLen", "internal/strconv.uint64pow10", "math/bits.deBruijn32tab", "math/bits.deBruijn64tab"], apart := false, laid := [("math/bits.deBruijn32tab", laid_math_bits_deBruijn32tab), ("math/bits.deBruijn64tab", laid_math_bits_deBruijn64tab), ("internal/strconv.uint64pow10", laid_internal_strconv_uint64pow10), ("unicode/utf8.acceptRanges", laid_unicode_utf8_acceptRanges), ("unicode/utf8.first", laid_unicode_utf8_first)] }
def TrustAgreedOfMoreSaid : Prop := trustAgreedOfMoreRow.holds Tryz.pinned (OpenSpec.ofChange trustAgreedOfMoreSpec)

/-- ITS FALSE NEIGHBOUR: 'it returns false'. Refute it at one input. -/
def trustAgreedOfMoreWrong : ChangeSpec := { name := "trustAgreedOfMore", fn := fun _ => fun
  | [d1, d2, d3, d4, d5] => { results := [.lit (.bool false)], args := [d1, d2, d3, d4, d5] }
  | _ => none }
def TrustAgreedOfMoreWrongFalsely : Prop := trustAgreedOfMoreRow.holds Tryz.pinned (OpenSpec.ofChange trustAgreedOfMoreWrong)

/-- 'smithyardlaw11.TrustHeadsMatchSpec': WHATEVER THE INPUT: true; the input reads as it did. -/
def trustHeadsMatchSpecSpec : ChangeSpec := { name := "trustHeadsMatchSpec", fn := fun _ => fun
  | [d1, d2, d3] => { results := [.lit (.bool true)], args := [d1, d2, d3] }
  | _ => none }
def trustHeadsMatchSpecRow : OpenClaim := { program := "ytahlodpolggeiaagreatdoor", sum := "52a4d102e3e28bd6ae0358ce921d4803c250b3291111d51193f994c0af37e46e", func := "smithyard/smithyardlaw11.TrustHeadsMatchSpec", spec := "trustHeadsMatchSpec", inPlace := ["internal/bytealg.IndexByteString", "internal/bytealg.IndexString", "internal/bytealg.CountString", "internal/abi.NoEscape", "internal/bytealg.MakeNoZero", "internal/bytealg.abigen_runtime_cmpstring"], unfollowed := true, recurses := true, named := ["unicode/utf8.first", "unicode/utf8.acceptRanges", "internal/bytealg.MaxLen", "internal/strconv.uint64pow10", "math/bits.deBruijn32tab", "math/bits.deBruijn64tab"], apart := false, laid := [("math/bits.deBruijn32tab", laid_math_bits_deBruijn32tab), ("math/bits.deBruijn64tab", laid_math_bits_deBruijn64tab), ("internal/strconv.uint64pow10", laid_internal_strconv_uint64pow10), ("unicode/utf8.acceptRanges", laid_unicode_utf8_acceptRanges), ("unicode/utf8.first", laid_unicode_utf8_first)] }
def TrustHeadsMatchSpecSaid : Prop := trustHeadsMatchSpecRow.holds Tryz.pinned (OpenSpec.ofChange trustHeadsMatchSpecSpec)

/-- ITS FALSE NEIGHBOUR: 'it returns false'. Refute it at one input. -/
def trustHeadsMatchSpecWrong : ChangeSpec := { name := "trustHeadsMatchSpec", fn := fun _ => fun
  | [d1, d2, d3] => { results := [.lit (.bool false)], args := [d1, d2, d3] }
  | _ => none }
def TrustHeadsMatchSpecWrongFalsely : Prop := trustHeadsMatchSpecRow.holds Tryz.pinned (OpenSpec.ofChange trustHeadsMatchSpecWrong)

/-- 'smithyardlaw11.TrustTrustedIsGood': WHATEVER THE INPUT: true; the input reads as it did. -/
def trustTrustedIsGoodSpec : ChangeSpec := { name := "trustTrustedIsGood", fn := fun _ => fun
  | [d1, d2, d3, d4, d5] => { results := [.lit (.bool true)], args := [d1, d2, d3, d4, d5] }
  | _ => none }
def trustTrustedIsGoodRow : OpenClaim := { program := "ytahlodpolggeiaagreatdoor", sum := "52a4d102e3e28bd6ae0358ce921d4803c250b3291111d51193f994c0af37e46e", func := "smithyard/smithyardlaw11.TrustTrustedIsGood", spec := "trustTrustedIsGood", inPlace := ["internal/bytealg.IndexByteString", "internal/bytealg.IndexString", "internal/bytealg.CountString", "internal/bytealg.abigen_runtime_cmpstring", "internal/abi.NoEscape", "internal/bytealg.MakeNoZero"], unfollowed := true, recurses := true, named := ["unicode/utf8.first", "unicode/utf8.acceptRanges", "internal/bytealg.MaxLen", "internal/strconv.uint64pow10", "math/bits.deBruijn32tab", "math/bits.deBruijn64tab"], apart := false, laid := [("math/bits.deBruijn32tab", laid_math_bits_deBruijn32tab), ("math/bits.deBruijn64tab", laid_math_bits_deBruijn64tab), ("internal/strconv.uint64pow10", laid_internal_strconv_uint64pow10), ("unicode/utf8.acceptRanges", laid_unicode_utf8_acceptRanges), ("unicode/utf8.first", laid_unicode_utf8_first)] }
def TrustTrustedIsGoodSaid : Prop := trustTrustedIsGoodRow.holds Tryz.pinned (OpenSpec.ofChange trustTrustedIsGoodSpec)

/-- ITS FALSE NEIGHBOUR: 'it returns false'. Refute it at one input. -/
def trustTrustedIsGoodWrong : ChangeSpec := { name := "trustTrustedIsGood", fn := fun _ => fun
  | [d1, d2, d3, d4, d5] => { results := [.lit (.bool false)], args := [d1, d2, d3, d4, d5] }
  | _ => none }
def TrustTrustedIsGoodWrongFalsely : Prop := trustTrustedIsGoodRow.holds Tryz.pinned (OpenSpec.ofChange trustTrustedIsGoodWrong)

/-- 'smithyardlaw11.TrustDueIsEach': WHATEVER THE INPUT: true; the input reads as it did. -/
def trustDueIsEachSpec : ChangeSpec := { name := "trustDueIsEach", fn := fun _ => fun
  | [d1, d2, d3] => { results := [.lit (.bool true)], args := [d1, d2, d3] }
  | _ => none }
def trustDueIsEachRow : OpenClaim := { program := "ytahlodpolggeiaagreatdoor", sum := "52a4d102e3e28bd6ae0358ce921d4803c250b3291111d51193f994c0af37e46e", func := "smithyard/smithyardlaw11.TrustDueIsEach", spec := "trustDueIsEach", inPlace := ["internal/bytealg.IndexByteString", "internal/bytealg.IndexString", "internal/bytealg.CountString", "internal/bytealg.abigen_runtime_cmpstring"], unfollowed := true, recurses := true, named := ["unicode/utf8.first", "unicode/utf8.acceptRanges", "internal/bytealg.MaxLen", "internal/strconv.uint64pow10", "math/bits.deBruijn32tab", "math/bits.deBruijn64tab", "strconv.ErrSyntax", "strconv.ErrRange"], apart := false, laid := [("math/bits.deBruijn32tab", laid_math_bits_deBruijn32tab), ("math/bits.deBruijn64tab", laid_math_bits_deBruijn64tab), ("internal/strconv.uint64pow10", laid_internal_strconv_uint64pow10), ("unicode/utf8.acceptRanges", laid_unicode_utf8_acceptRanges), ("strconv.ErrRange", laid_strconv_ErrRange), ("strconv.ErrSyntax", laid_strconv_ErrSyntax), ("unicode/utf8.first", laid_unicode_utf8_first)] }
def TrustDueIsEachSaid : Prop := trustDueIsEachRow.holds Tryz.pinned (OpenSpec.ofChange trustDueIsEachSpec)

/-- ITS FALSE NEIGHBOUR: 'it returns false'. Refute it at one input. -/
def trustDueIsEachWrong : ChangeSpec := { name := "trustDueIsEach", fn := fun _ => fun
  | [d1, d2, d3] => { results := [.lit (.bool false)], args := [d1, d2, d3] }
  | _ => none }
def TrustDueIsEachWrongFalsely : Prop := trustDueIsEachRow.holds Tryz.pinned (OpenSpec.ofChange trustDueIsEachWrong)

/-- 'smithyardlaw11.TrustWrongIsTainted': WHATEVER THE INPUT: true; the input reads as it did. -/
def trustWrongIsTaintedSpec : ChangeSpec := { name := "trustWrongIsTainted", fn := fun _ => fun
  | [d1, d2] => { results := [.lit (.bool true)], args := [d1, d2] }
  | _ => none }
def trustWrongIsTaintedRow : OpenClaim := { program := "ytahlodpolggeiaagreatdoor", sum := "52a4d102e3e28bd6ae0358ce921d4803c250b3291111d51193f994c0af37e46e", func := "smithyard/smithyardlaw11.TrustWrongIsTainted", spec := "trustWrongIsTainted", inPlace := ["internal/bytealg.IndexByteString", "internal/bytealg.IndexString", "internal/bytealg.CountString", "internal/bytealg.abigen_runtime_cmpstring"], unfollowed := true, recurses := true, named := ["unicode/utf8.first", "unicode/utf8.acceptRanges", "internal/bytealg.MaxLen"], apart := false, laid := [("unicode/utf8.acceptRanges", laid_unicode_utf8_acceptRanges), ("unicode/utf8.first", laid_unicode_utf8_first)] }
def TrustWrongIsTaintedSaid : Prop := trustWrongIsTaintedRow.holds Tryz.pinned (OpenSpec.ofChange trustWrongIsTaintedSpec)

/-- ITS FALSE NEIGHBOUR: 'it returns false'. Refute it at one input. -/
def trustWrongIsTaintedWrong : ChangeSpec := { name := "trustWrongIsTainted", fn := fun _ => fun
  | [d1, d2] => { results := [.lit (.bool false)], args := [d1, d2] }
  | _ => none }
def TrustWrongIsTaintedWrongFalsely : Prop := trustWrongIsTaintedRow.holds Tryz.pinned (OpenSpec.ofChange trustWrongIsTaintedWrong)

/-- 'smithyardlaw11.TrustTaintedMatchesSpec': WHATEVER THE INPUT: true; the input reads as it did. -/
def trustTaintedMatchesSpecSpec : ChangeSpec := { name := "trustTaintedMatchesSpec", fn := fun _ => fun
  | [d1, d2] => { results := [.lit (.bool true)], args := [d1, d2] }
  | _ => none }
def trustTaintedMatchesSpecRow : OpenClaim := { program := "ytahlodpolggeiaagreatdoor", sum := "52a4d102e3e28bd6ae0358ce921d4803c250b3291111d51193f994c0af37e46e", func := "smithyard/smithyardlaw11.TrustTaintedMatchesSpec", spec := "trustTaintedMatchesSpec", inPlace := ["internal/bytealg.IndexByteString", "internal/bytealg.IndexString", "internal/bytealg.CountString", "internal/bytealg.abigen_runtime_cmpstring"], unfollowed := true, recurses := true, named := ["unicode/utf8.first", "unicode/utf8.acceptRanges", "internal/bytealg.MaxLen"], apart := false, laid := [("unicode/utf8.acceptRanges", laid_unicode_utf8_acceptRanges), ("unicode/utf8.first", laid_unicode_utf8_first)] }
def TrustTaintedMatchesSpecSaid : Prop := trustTaintedMatchesSpecRow.holds Tryz.pinned (OpenSpec.ofChange trustTaintedMatchesSpecSpec)

/-- ITS FALSE NEIGHBOUR: 'it returns false'. Refute it at one input. -/
def trustTaintedMatchesSpecWrong : ChangeSpec := { name := "trustTaintedMatchesSpec", fn := fun _ => fun
  | [d1, d2] => { results := [.lit (.bool false)], args := [d1, d2] }
  | _ => none }
def TrustTaintedMatchesSpecWrongFalsely : Prop := trustTaintedMatchesSpecRow.holds Tryz.pinned (OpenSpec.ofChange trustTaintedMatchesSpecWrong)

/-- 'smithyardlaw11.TrustReadsMatchSpec': WHATEVER THE INPUT: true; the input reads as it did. -/
def trustReadsMatchSpecSpec : ChangeSpec := { name := "trustReadsMatchSpec", fn := fun _ => fun
  | [d] => { results := [.lit (.bool true)], args := [d] }
  | _ => none }
def trustReadsMatchSpecRow : OpenClaim := { program := "ytahlodpolggeiaagreatdoor", sum := "52a4d102e3e28bd6ae0358ce921d4803c250b3291111d51193f994c0af37e46e", func := "smithyard/smithyardlaw11.TrustReadsMatchSpec", spec := "trustReadsMatchSpec", inPlace := ["internal/bytealg.IndexByteString", "internal/bytealg.IndexString", "internal/bytealg.CountString", "internal/bytealg.abigen_runtime_cmpstring"], unfollowed := true, recurses := true, named := ["internal/bytealg.MaxLen", "unicode/utf8.first", "unicode/utf8.acceptRanges", "strconv.ErrSyntax", "strconv.ErrRange", "internal/strconv.uint64pow10", "math/bits.deBruijn32tab", "math/bits.deBruijn64tab"], apart := false, laid := [("math/bits.deBruijn32tab", laid_math_bits_deBruijn32tab), ("math/bits.deBruijn64tab", laid_math_bits_deBruijn64tab), ("internal/strconv.uint64pow10", laid_internal_strconv_uint64pow10), ("unicode/utf8.acceptRanges", laid_unicode_utf8_acceptRanges), ("strconv.ErrRange", laid_strconv_ErrRange), ("strconv.ErrSyntax", laid_strconv_ErrSyntax), ("unicode/utf8.first", laid_unicode_utf8_first)] }
def TrustReadsMatchSpecSaid : Prop := trustReadsMatchSpecRow.holds Tryz.pinned (OpenSpec.ofChange trustReadsMatchSpecSpec)

/-- ITS FALSE NEIGHBOUR: 'it returns false'. Refute it at one input. -/
def trustReadsMatchSpecWrong : ChangeSpec := { name := "trustReadsMatchSpec", fn := fun _ => fun
  | [d] => { results := [.lit (.bool false)], args := [d] }
  | _ => none }
def TrustReadsMatchSpecWrongFalsely : Prop := trustReadsMatchSpecRow.holds Tryz.pinned (OpenSpec.ofChange trustReadsMatchSpecWrong)

/-- 'smithyardlaw11.TrustTextsMatchSpec': WHATEVER THE INPUT: true; the input reads as it did. -/
def trustTextsMatchSpecSpec : ChangeSpec := { name := "trustTextsMatchSpec", fn := fun _ => fun
  | [d] => { results := [.lit (.bool true)], args := [d] }
  | _ => none }
def trustTextsMatchSpecRow : OpenClaim := { program := "ytahlodpolggeiaagreatdoor", sum := "52a4d102e3e28bd6ae0358ce921d4803c250b3291111d51193f994c0af37e46e", func := "smithyard/smithyardlaw11.TrustTextsMatchSpec", spec := "trustTextsMatchSpec", inPlace := ["internal/bytealg.IndexByteString", "internal/bytealg.IndexString", "internal/bytealg.CountString", "internal/abi.NoEscape", "internal/bytealg.MakeNoZero", "internal/bytealg.abigen_runtime_cmpstring"], unfollowed := true, recurses := true, named := ["unicode/utf8.first", "unicode/utf8.acceptRanges", "internal/bytealg.MaxLen", "internal/strconv.uint64pow10", "math/bits.deBruijn32tab", "math/bits.deBruijn64tab", "strconv.ErrSyntax", "strconv.ErrRange"], apart := false, laid := [("math/bits.deBruijn32tab", laid_math_bits_deBruijn32tab), ("math/bits.deBruijn64tab", laid_math_bits_deBruijn64tab), ("internal/strconv.uint64pow10", laid_internal_strconv_uint64pow10), ("unicode/utf8.acceptRanges", laid_unicode_utf8_acceptRanges), ("strconv.ErrRange", laid_strconv_ErrRange), ("strconv.ErrSyntax", laid_strconv_ErrSyntax), ("unicode/utf8.first", laid_unicode_utf8_first)] }
def TrustTextsMatchSpecSaid : Prop := trustTextsMatchSpecRow.holds Tryz.pinned (OpenSpec.ofChange trustTextsMatchSpecSpec)

/-- ITS FALSE NEIGHBOUR: 'it returns false'. Refute it at one input. -/
def trustTextsMatchSpecWrong : ChangeSpec := { name := "trustTextsMatchSpec", fn := fun _ => fun
  | [d] => { results := [.lit (.bool false)], args := [d] }
  | _ => none }
def TrustTextsMatchSpecWrongFalsely : Prop := trustTextsMatchSpecRow.holds Tryz.pinned (OpenSpec.ofChange trustTextsMatchSpecWrong)

/-- 'smithyardlaw11.TrustResultsAreNew': WHATEVER THE INPUT: true; the input reads as it did. -/
def trustResultsAreNewSpec : ChangeSpec := { name := "trustResultsAreNew", fn := fun _ => fun
  | [d1, d2, d3] => { results := [.lit (.bool true)], args := [d1, d2, d3] }
  | _ => none }
def trustResultsAreNewRow : OpenClaim := { program := "ytahlodpolggeiaagreatdoor", sum := "52a4d102e3e28bd6ae0358ce921d4803c250b3291111d51193f994c0af37e46e", func := "smithyard/smithyardlaw11.TrustResultsAreNew", spec := "trustResultsAreNew", inPlace := ["internal/bytealg.IndexByteString", "internal/bytealg.IndexString", "internal/bytealg.CountString", "internal/bytealg.abigen_runtime_cmpstring", "internal/abi.NoEscape", "internal/bytealg.MakeNoZero"], unfollowed := true, recurses := true, named := ["unicode/utf8.first", "unicode/utf8.acceptRanges", "internal/bytealg.MaxLen", "internal/strconv.uint64pow10", "math/bits.deBruijn32tab", "math/bits.deBruijn64tab", "strconv.ErrSyntax", "strconv.ErrRange"], apart := false, laid := [("math/bits.deBruijn32tab", laid_math_bits_deBruijn32tab), ("math/bits.deBruijn64tab", laid_math_bits_deBruijn64tab), ("internal/strconv.uint64pow10", laid_internal_strconv_uint64pow10), ("unicode/utf8.acceptRanges", laid_unicode_utf8_acceptRanges), ("strconv.ErrRange", laid_strconv_ErrRange), ("strconv.ErrSyntax", laid_strconv_ErrSyntax), ("unicode/utf8.first", laid_unicode_utf8_first)] }
def TrustResultsAreNewSaid : Prop := trustResultsAreNewRow.holds Tryz.pinned (OpenSpec.ofChange trustResultsAreNewSpec)

/-- ITS FALSE NEIGHBOUR: 'it returns false'. Refute it at one input. -/
def trustResultsAreNewWrong : ChangeSpec := { name := "trustResultsAreNew", fn := fun _ => fun
  | [d1, d2, d3] => { results := [.lit (.bool false)], args := [d1, d2, d3] }
  | _ => none }
def TrustResultsAreNewWrongFalsely : Prop := trustResultsAreNewRow.holds Tryz.pinned (OpenSpec.ofChange trustResultsAreNewWrong)

/-- 'smithyardlaw11.TrustAgreedMatchesSpec': WHATEVER THE INPUT: true; the input reads as it did. -/
def trustAgreedMatchesSpecSpec : ChangeSpec := { name := "trustAgreedMatchesSpec", fn := fun _ => fun
  | [d1, d2, d3, d4] => { results := [.lit (.bool true)], args := [d1, d2, d3, d4] }
  | _ => none }
def trustAgreedMatchesSpecRow : OpenClaim := { program := "ytahlodpolggeiaagreatdoor", sum := "52a4d102e3e28bd6ae0358ce921d4803c250b3291111d51193f994c0af37e46e", func := "smithyard/smithyardlaw11.TrustAgreedMatchesSpec", spec := "trustAgreedMatchesSpec", inPlace := ["internal/bytealg.IndexByteString", "internal/bytealg.IndexString", "internal/bytealg.CountString", "internal/bytealg.abigen_runtime_cmpstring", "internal/abi.NoEscape", "internal/bytealg.MakeNoZero"], unfollowed := true, recurses := true, named := ["unicode/utf8.first", "unicode/utf8.acceptRanges", "internal/bytealg.MaxLen", "internal/strconv.uint64pow10", "math/bits.deBruijn32tab", "math/bits.deBruijn64tab"], apart := false, laid := [("math/bits.deBruijn32tab", laid_math_bits_deBruijn32tab), ("math/bits.deBruijn64tab", laid_math_bits_deBruijn64tab), ("internal/strconv.uint64pow10", laid_internal_strconv_uint64pow10), ("unicode/utf8.acceptRanges", laid_unicode_utf8_acceptRanges), ("unicode/utf8.first", laid_unicode_utf8_first)] }
def TrustAgreedMatchesSpecSaid : Prop := trustAgreedMatchesSpecRow.holds Tryz.pinned (OpenSpec.ofChange trustAgreedMatchesSpecSpec)

/-- ITS FALSE NEIGHBOUR: 'it returns false'. Refute it at one input. -/
def trustAgreedMatchesSpecWrong : ChangeSpec := { name := "trustAgreedMatchesSpec", fn := fun _ => fun
  | [d1, d2, d3, d4] => { results := [.lit (.bool false)], args := [d1, d2, d3, d4] }
  | _ => none }
def TrustAgreedMatchesSpecWrongFalsely : Prop := trustAgreedMatchesSpecRow.holds Tryz.pinned (OpenSpec.ofChange trustAgreedMatchesSpecWrong)

/-- 'smithyardlaw11.TrustTrustedMatchesSpec': WHATEVER THE INPUT: true; the input reads as it did. -/
def trustTrustedMatchesSpecSpec : ChangeSpec := { name := "trustTrustedMatchesSpec", fn := fun _ => fun
  | [d1, d2, d3, d4, d5] => { results := [.lit (.bool true)], args := [d1, d2, d3, d4, d5] }
  | _ => none }
def trustTrustedMatchesSpecRow : OpenClaim := { program := "ytahlodpolggeiaagreatdoor", sum := "52a4d102e3e28bd6ae0358ce921d4803c250b3291111d51193f994c0af37e46e", func := "smithyard/smithyardlaw11.TrustTrustedMatchesSpec", spec := "trustTrustedMatchesSpec", inPlace := ["internal/bytealg.IndexByteString", "internal/bytealg.IndexString", "internal/bytealg.CountString", "internal/bytealg.abigen_runtime_cmpstring", "internal/abi.NoEscape", "internal/bytealg.MakeNoZero"], unfollowed := true, recurses := true, named := ["unicode/utf8.first", "unicode/utf8.acceptRanges", "internal/bytealg.MaxLen", "internal/strconv.uint64pow10", "math/bits.deBruijn32tab", "math/bits.deBruijn64tab"], apart := false, laid := [("math/bits.deBruijn32tab", laid_math_bits_deBruijn32tab), ("math/bits.deBruijn64tab", laid_math_bits_deBruijn64tab), ("internal/strconv.uint64pow10", laid_internal_strconv_uint64pow10), ("unicode/utf8.acceptRanges", laid_unicode_utf8_acceptRanges), ("unicode/utf8.first", laid_unicode_utf8_first)] }
def TrustTrustedMatchesSpecSaid : Prop := trustTrustedMatchesSpecRow.holds Tryz.pinned (OpenSpec.ofChange trustTrustedMatchesSpecSpec)

/-- ITS FALSE NEIGHBOUR: 'it returns false'. Refute it at one input. -/
def trustTrustedMatchesSpecWrong : ChangeSpec := { name := "trustTrustedMatchesSpec", fn := fun _ => fun
  | [d1, d2, d3, d4, d5] => { results := [.lit (.bool false)], args := [d1, d2, d3, d4, d5] }
  | _ => none }
def TrustTrustedMatchesSpecWrongFalsely : Prop := trustTrustedMatchesSpecRow.holds Tryz.pinned (OpenSpec.ofChange trustTrustedMatchesSpecWrong)

/-- 'smithyardlaw11.TrustDueMatchesSpec': WHATEVER THE INPUT: true; the input reads as it did. -/
def trustDueMatchesSpecSpec : ChangeSpec := { name := "trustDueMatchesSpec", fn := fun _ => fun
  | [d1, d2, d3, d4] => { results := [.lit (.bool true)], args := [d1, d2, d3, d4] }
  | _ => none }
def trustDueMatchesSpecRow : OpenClaim := { program := "ytahlodpolggeiaagreatdoor", sum := "52a4d102e3e28bd6ae0358ce921d4803c250b3291111d51193f994c0af37e46e", func := "smithyard/smithyardlaw11.TrustDueMatchesSpec", spec := "trustDueMatchesSpec", inPlace := ["internal/bytealg.IndexByteString", "internal/bytealg.IndexString", "internal/bytealg.CountString", "internal/bytealg.abigen_runtime_cmpstring"], unfollowed := true, recurses := true, named := ["unicode/utf8.first", "unicode/utf8.acceptRanges", "internal/bytealg.MaxLen", "internal/strconv.uint64pow10", "math/bits.deBruijn32tab", "math/bits.deBruijn64tab", "strconv.ErrSyntax", "strconv.ErrRange"], apart := false, laid := [("math/bits.deBruijn32tab", laid_math_bits_deBruijn32tab), ("math/bits.deBruijn64tab", laid_math_bits_deBruijn64tab), ("internal/strconv.uint64pow10", laid_internal_strconv_uint64pow10), ("unicode/utf8.acceptRanges", laid_unicode_utf8_acceptRanges), ("strconv.ErrRange", laid_strconv_ErrRange), ("strconv.ErrSyntax", laid_strconv_ErrSyntax), ("unicode/utf8.first", laid_unicode_utf8_first)] }
def TrustDueMatchesSpecSaid : Prop := trustDueMatchesSpecRow.holds Tryz.pinned (OpenSpec.ofChange trustDueMatchesSpecSpec)

/-- ITS FALSE NEIGHBOUR: 'it returns false'. Refute it at one input. -/
def trustDueMatchesSpecWrong : ChangeSpec := { name := "trustDueMatchesSpec", fn := fun _ => fun
  | [d1, d2, d3, d4] => { results := [.lit (.bool false)], args := [d1, d2, d3, d4] }
  | _ => none }
def TrustDueMatchesSpecWrongFalsely : Prop := trustDueMatchesSpecRow.holds Tryz.pinned (OpenSpec.ofChange trustDueMatchesSpecWrong)

/- THE SECOND FORM. 'bulk': how many values and letters a reading holds, each counted each time it is reached (what is shared counts as often as it is met; a slice's spare places count too). A statement '..UptoSaid' is the law's where the arguments, and the package variables that the reading takes, are together of bulk at most 1048576: NARROWER than '..Said'. Prove '..Said' where nothing that the law and all that it calls make is longer than what came in: it says more and counts as full. Else prove '..UptoSaid'. A law counts once. -/
mutual
def uptoBulk {H : Type} : DataW H → Nat
  | .lit (.string bytes) => bytes.length + 1
  | .lit _ => 1
  | .nil => 1
  | .ptr d => uptoBulk d + 1
  | .slice elems spare => uptoBulkAll elems + uptoBulkAll spare + 1
  | .agg parts => uptoBulkAll parts + 1
  | .iface _ d => uptoBulk d + 1
  | .map entries => uptoBulkEntries entries + 1
  | .held _ => 1
def uptoBulkAll {H : Type} : List (DataW H) → Nat
  | [] => 0
  | d :: r => uptoBulk d + uptoBulkAll r
def uptoBulkEntries {H : Type} : List (Lit × DataW H) → Nat
  | [] => 0
  | x :: r => uptoBulkEntry x + uptoBulkEntries r
def uptoBulkEntry {H : Type} : Lit × DataW H → Nat
  | (.string bytes, d) => bytes.length + uptoBulk d + 1
  | (_, d) => uptoBulk d + 1
 end
def uptoSmall : (H : Type) → List (DataW H) → Bool := fun _ ds => decide (uptoBulkAll ds ≤ 1048576)
def OpenSpec.upto (s : _root_.Go.ChangeSpec) : _root_.Go.OpenSpec := { _root_.Go.OpenSpec.ofChange s with cond := some uptoSmall }

/-- 'smithyardlaw11.TrustLogsGrow', WHERE WHAT IT READS IS OF BULK AT MOST 1048576: true; the input reads as it did. -/
def trustLogsGrowUptoRow : OpenClaim := { program := "ytahlodpolggeiaagreatdoor", sum := "52a4d102e3e28bd6ae0358ce921d4803c250b3291111d51193f994c0af37e46e", func := "smithyard/smithyardlaw11.TrustLogsGrow", spec := "trustLogsGrow", inPlace := ["internal/bytealg.IndexByteString", "internal/bytealg.IndexString", "internal/bytealg.CountString", "internal/abi.NoEscape", "internal/bytealg.MakeNoZero", "internal/bytealg.abigen_runtime_cmpstring"], unfollowed := true, recurses := true, named := ["unicode/utf8.first", "unicode/utf8.acceptRanges", "internal/bytealg.MaxLen", "internal/strconv.uint64pow10", "math/bits.deBruijn32tab", "math/bits.deBruijn64tab"], apart := false, laid := [("math/bits.deBruijn32tab", laid_math_bits_deBruijn32tab), ("math/bits.deBruijn64tab", laid_math_bits_deBruijn64tab), ("internal/strconv.uint64pow10", laid_internal_strconv_uint64pow10), ("unicode/utf8.acceptRanges", laid_unicode_utf8_acceptRanges), ("unicode/utf8.first", laid_unicode_utf8_first)], narrowed := true }
def TrustLogsGrowUptoSaid : Prop := trustLogsGrowUptoRow.holds Tryz.pinned (OpenSpec.upto trustLogsGrowSpec)

/-- 'smithyardlaw11.TrustSignedIsGenuine', WHERE WHAT IT READS IS OF BULK AT MOST 1048576: true; the input reads as it did. -/
def trustSignedIsGenuineUptoRow : OpenClaim := { program := "ytahlodpolggeiaagreatdoor", sum := "52a4d102e3e28bd6ae0358ce921d4803c250b3291111d51193f994c0af37e46e", func := "smithyard/smithyardlaw11.TrustSignedIsGenuine", spec := "trustSignedIsGenuine", inPlace := ["internal/bytealg.IndexByteString", "internal/bytealg.IndexString", "internal/bytealg.CountString", "internal/bytealg.abigen_runtime_cmpstring", "internal/abi.NoEscape", "internal/bytealg.MakeNoZero"], unfollowed := true, recurses := true, named := ["unicode/utf8.first", "unicode/utf8.acceptRanges", "internal/bytealg.MaxLen", "internal/strconv.uint64pow10", "math/bits.deBruijn32tab", "math/bits.deBruijn64tab"], apart := false, laid := [("math/bits.deBruijn32tab", laid_math_bits_deBruijn32tab), ("math/bits.deBruijn64tab", laid_math_bits_deBruijn64tab), ("internal/strconv.uint64pow10", laid_internal_strconv_uint64pow10), ("unicode/utf8.acceptRanges", laid_unicode_utf8_acceptRanges), ("unicode/utf8.first", laid_unicode_utf8_first)], narrowed := true }
def TrustSignedIsGenuineUptoSaid : Prop := trustSignedIsGenuineUptoRow.holds Tryz.pinned (OpenSpec.upto trustSignedIsGenuineSpec)

/-- 'smithyardlaw11.TrustSignsMatchSpec', WHERE WHAT IT READS IS OF BULK AT MOST 1048576: true; the input reads as it did. -/
def trustSignsMatchSpecUptoRow : OpenClaim := { program := "ytahlodpolggeiaagreatdoor", sum := "52a4d102e3e28bd6ae0358ce921d4803c250b3291111d51193f994c0af37e46e", func := "smithyard/smithyardlaw11.TrustSignsMatchSpec", spec := "trustSignsMatchSpec", inPlace := ["internal/bytealg.IndexByteString", "internal/bytealg.IndexString", "internal/bytealg.CountString", "internal/abi.NoEscape", "internal/bytealg.MakeNoZero", "internal/bytealg.abigen_runtime_cmpstring"], unfollowed := true, recurses := true, named := ["unicode/utf8.first", "unicode/utf8.acceptRanges", "internal/bytealg.MaxLen", "internal/strconv.uint64pow10", "math/bits.deBruijn32tab", "math/bits.deBruijn64tab"], apart := false, laid := [("math/bits.deBruijn32tab", laid_math_bits_deBruijn32tab), ("math/bits.deBruijn64tab", laid_math_bits_deBruijn64tab), ("internal/strconv.uint64pow10", laid_internal_strconv_uint64pow10), ("unicode/utf8.acceptRanges", laid_unicode_utf8_acceptRanges), ("unicode/utf8.first", laid_unicode_utf8_first)], narrowed := true }
def TrustSignsMatchSpecUptoSaid : Prop := trustSignsMatchSpecUptoRow.holds Tryz.pinned (OpenSpec.upto trustSignsMatchSpecSpec)

/-- 'smithyardlaw11.TrustAgreedOfMore', WHERE WHAT IT READS IS OF BULK AT MOST 1048576: true; the input reads as it did. -/
def trustAgreedOfMoreUptoRow : OpenClaim := { program := "ytahlodpolggeiaagreatdoor", sum := "52a4d102e3e28bd6ae0358ce921d4803c250b3291111d51193f994c0af37e46e", func := "smithyard/smithyardlaw11.TrustAgreedOfMore", spec := "trustAgreedOfMore", inPlace := ["internal/bytealg.IndexByteString", "internal/bytealg.IndexString", "internal/bytealg.CountString", "internal/bytealg.abigen_runtime_cmpstring", "internal/abi.NoEscape", "internal/bytealg.MakeNoZero"], unfollowed := true, recurses := true, named := ["unicode/utf8.first", "unicode/utf8.acceptRanges", "internal/bytealg.MaxLen", "internal/strconv.uint64pow10", "math/bits.deBruijn32tab", "math/bits.deBruijn64tab"], apart := false, laid := [("math/bits.deBruijn32tab", laid_math_bits_deBruijn32tab), ("math/bits.deBruijn64tab", laid_math_bits_deBruijn64tab), ("internal/strconv.uint64pow10", laid_internal_strconv_uint64pow10), ("unicode/utf8.acceptRanges", laid_unicode_utf8_acceptRanges), ("unicode/utf8.first", laid_unicode_utf8_first)], narrowed := true }
def TrustAgreedOfMoreUptoSaid : Prop := trustAgreedOfMoreUptoRow.holds Tryz.pinned (OpenSpec.upto trustAgreedOfMoreSpec)

/-- 'smithyardlaw11.TrustHeadsMatchSpec', WHERE WHAT IT READS IS OF BULK AT MOST 1048576: true; the input reads as it did. -/
def trustHeadsMatchSpecUptoRow : OpenClaim := { program := "ytahlodpolggeiaagreatdoor", sum := "52a4d102e3e28bd6ae0358ce921d4803c250b3291111d51193f994c0af37e46e", func := "smithyard/smithyardlaw11.TrustHeadsMatchSpec", spec := "trustHeadsMatchSpec", inPlace := ["internal/bytealg.IndexByteString", "internal/bytealg.IndexString", "internal/bytealg.CountString", "internal/abi.NoEscape", "internal/bytealg.MakeNoZero", "internal/bytealg.abigen_runtime_cmpstring"], unfollowed := true, recurses := true, named := ["unicode/utf8.first", "unicode/utf8.acceptRanges", "internal/bytealg.MaxLen", "internal/strconv.uint64pow10", "math/bits.deBruijn32tab", "math/bits.deBruijn64tab"], apart := false, laid := [("math/bits.deBruijn32tab", laid_math_bits_deBruijn32tab), ("math/bits.deBruijn64tab", laid_math_bits_deBruijn64tab), ("internal/strconv.uint64pow10", laid_internal_strconv_uint64pow10), ("unicode/utf8.acceptRanges", laid_unicode_utf8_acceptRanges), ("unicode/utf8.first", laid_unicode_utf8_first)], narrowed := true }
def TrustHeadsMatchSpecUptoSaid : Prop := trustHeadsMatchSpecUptoRow.holds Tryz.pinned (OpenSpec.upto trustHeadsMatchSpecSpec)

/-- 'smithyardlaw11.TrustTrustedIsGood', WHERE WHAT IT READS IS OF BULK AT MOST 1048576: true; the input reads as it did. -/
def trustTrustedIsGoodUptoRow : OpenClaim := { program := "ytahlodpolggeiaagreatdoor", sum := "52a4d102e3e28bd6ae0358ce921d4803c250b3291111d51193f994c0af37e46e", func := "smithyard/smithyardlaw11.TrustTrustedIsGood", spec := "trustTrustedIsGood", inPlace := ["internal/bytealg.IndexByteString", "internal/bytealg.IndexString", "internal/bytealg.CountString", "internal/bytealg.abigen_runtime_cmpstring", "internal/abi.NoEscape", "internal/bytealg.MakeNoZero"], unfollowed := true, recurses := true, named := ["unicode/utf8.first", "unicode/utf8.acceptRanges", "internal/bytealg.MaxLen", "internal/strconv.uint64pow10", "math/bits.deBruijn32tab", "math/bits.deBruijn64tab"], apart := false, laid := [("math/bits.deBruijn32tab", laid_math_bits_deBruijn32tab), ("math/bits.deBruijn64tab", laid_math_bits_deBruijn64tab), ("internal/strconv.uint64pow10", laid_internal_strconv_uint64pow10), ("unicode/utf8.acceptRanges", laid_unicode_utf8_acceptRanges), ("unicode/utf8.first", laid_unicode_utf8_first)], narrowed := true }
def TrustTrustedIsGoodUptoSaid : Prop := trustTrustedIsGoodUptoRow.holds Tryz.pinned (OpenSpec.upto trustTrustedIsGoodSpec)

/-- 'smithyardlaw11.TrustDueIsEach', WHERE WHAT IT READS IS OF BULK AT MOST 1048576: true; the input reads as it did. -/
def trustDueIsEachUptoRow : OpenClaim := { program := "ytahlodpolggeiaagreatdoor", sum := "52a4d102e3e28bd6ae0358ce921d4803c250b3291111d51193f994c0af37e46e", func := "smithyard/smithyardlaw11.TrustDueIsEach", spec := "trustDueIsEach", inPlace := ["internal/bytealg.IndexByteString", "internal/bytealg.IndexString", "internal/bytealg.CountString", "internal/bytealg.abigen_runtime_cmpstring"], unfollowed := true, recurses := true, named := ["unicode/utf8.first", "unicode/utf8.acceptRanges", "internal/bytealg.MaxLen", "internal/strconv.uint64pow10", "math/bits.deBruijn32tab", "math/bits.deBruijn64tab", "strconv.ErrSyntax", "strconv.ErrRange"], apart := false, laid := [("math/bits.deBruijn32tab", laid_math_bits_deBruijn32tab), ("math/bits.deBruijn64tab", laid_math_bits_deBruijn64tab), ("internal/strconv.uint64pow10", laid_internal_strconv_uint64pow10), ("unicode/utf8.acceptRanges", laid_unicode_utf8_acceptRanges), ("strconv.ErrRange", laid_strconv_ErrRange), ("strconv.ErrSyntax", laid_strconv_ErrSyntax), ("unicode/utf8.first", laid_unicode_utf8_first)], narrowed := true }
def TrustDueIsEachUptoSaid : Prop := trustDueIsEachUptoRow.holds Tryz.pinned (OpenSpec.upto trustDueIsEachSpec)

/-- 'smithyardlaw11.TrustWrongIsTainted', WHERE WHAT IT READS IS OF BULK AT MOST 1048576: true; the input reads as it did. -/
def trustWrongIsTaintedUptoRow : OpenClaim := { program := "ytahlodpolggeiaagreatdoor", sum := "52a4d102e3e28bd6ae0358ce921d4803c250b3291111d51193f994c0af37e46e", func := "smithyard/smithyardlaw11.TrustWrongIsTainted", spec := "trustWrongIsTainted", inPlace := ["internal/bytealg.IndexByteString", "internal/bytealg.IndexString", "internal/bytealg.CountString", "internal/bytealg.abigen_runtime_cmpstring"], unfollowed := true, recurses := true, named := ["unicode/utf8.first", "unicode/utf8.acceptRanges", "internal/bytealg.MaxLen"], apart := false, laid := [("unicode/utf8.acceptRanges", laid_unicode_utf8_acceptRanges), ("unicode/utf8.first", laid_unicode_utf8_first)], narrowed := true }
def TrustWrongIsTaintedUptoSaid : Prop := trustWrongIsTaintedUptoRow.holds Tryz.pinned (OpenSpec.upto trustWrongIsTaintedSpec)

/-- 'smithyardlaw11.TrustTaintedMatchesSpec', WHERE WHAT IT READS IS OF BULK AT MOST 1048576: true; the input reads as it did. -/
def trustTaintedMatchesSpecUptoRow : OpenClaim := { program := "ytahlodpolggeiaagreatdoor", sum := "52a4d102e3e28bd6ae0358ce921d4803c250b3291111d51193f994c0af37e46e", func := "smithyard/smithyardlaw11.TrustTaintedMatchesSpec", spec := "trustTaintedMatchesSpec", inPlace := ["internal/bytealg.IndexByteString", "internal/bytealg.IndexString", "internal/bytealg.CountString", "internal/bytealg.abigen_runtime_cmpstring"], unfollowed := true, recurses := true, named := ["unicode/utf8.first", "unicode/utf8.acceptRanges", "internal/bytealg.MaxLen"], apart := false, laid := [("unicode/utf8.acceptRanges", laid_unicode_utf8_acceptRanges), ("unicode/utf8.first", laid_unicode_utf8_first)], narrowed := true }
def TrustTaintedMatchesSpecUptoSaid : Prop := trustTaintedMatchesSpecUptoRow.holds Tryz.pinned (OpenSpec.upto trustTaintedMatchesSpecSpec)

/-- 'smithyardlaw11.TrustReadsMatchSpec', WHERE WHAT IT READS IS OF BULK AT MOST 1048576: true; the input reads as it did. -/
def trustReadsMatchSpecUptoRow : OpenClaim := { program := "ytahlodpolggeiaagreatdoor", sum := "52a4d102e3e28bd6ae0358ce921d4803c250b3291111d51193f994c0af37e46e", func := "smithyard/smithyardlaw11.TrustReadsMatchSpec", spec := "trustReadsMatchSpec", inPlace := ["internal/bytealg.IndexByteString", "internal/bytealg.IndexString", "internal/bytealg.CountString", "internal/bytealg.abigen_runtime_cmpstring"], unfollowed := true, recurses := true, named := ["internal/bytealg.MaxLen", "unicode/utf8.first", "unicode/utf8.acceptRanges", "strconv.ErrSyntax", "strconv.ErrRange", "internal/strconv.uint64pow10", "math/bits.deBruijn32tab", "math/bits.deBruijn64tab"], apart := false, laid := [("math/bits.deBruijn32tab", laid_math_bits_deBruijn32tab), ("math/bits.deBruijn64tab", laid_math_bits_deBruijn64tab), ("internal/strconv.uint64pow10", laid_internal_strconv_uint64pow10), ("unicode/utf8.acceptRanges", laid_unicode_utf8_acceptRanges), ("strconv.ErrRange", laid_strconv_ErrRange), ("strconv.ErrSyntax", laid_strconv_ErrSyntax), ("unicode/utf8.first", laid_unicode_utf8_first)], narrowed := true }
def TrustReadsMatchSpecUptoSaid : Prop := trustReadsMatchSpecUptoRow.holds Tryz.pinned (OpenSpec.upto trustReadsMatchSpecSpec)

/-- 'smithyardlaw11.TrustTextsMatchSpec', WHERE WHAT IT READS IS OF BULK AT MOST 1048576: true; the input reads as it did. -/
def trustTextsMatchSpecUptoRow : OpenClaim := { program := "ytahlodpolggeiaagreatdoor", sum := "52a4d102e3e28bd6ae0358ce921d4803c250b3291111d51193f994c0af37e46e", func := "smithyard/smithyardlaw11.TrustTextsMatchSpec", spec := "trustTextsMatchSpec", inPlace := ["internal/bytealg.IndexByteString", "internal/bytealg.IndexString", "internal/bytealg.CountString", "internal/abi.NoEscape", "internal/bytealg.MakeNoZero", "internal/bytealg.abigen_runtime_cmpstring"], unfollowed := true, recurses := true, named := ["unicode/utf8.first", "unicode/utf8.acceptRanges", "internal/bytealg.MaxLen", "internal/strconv.uint64pow10", "math/bits.deBruijn32tab", "math/bits.deBruijn64tab", "strconv.ErrSyntax", "strconv.ErrRange"], apart := false, laid := [("math/bits.deBruijn32tab", laid_math_bits_deBruijn32tab), ("math/bits.deBruijn64tab", laid_math_bits_deBruijn64tab), ("internal/strconv.uint64pow10", laid_internal_strconv_uint64pow10), ("unicode/utf8.acceptRanges", laid_unicode_utf8_acceptRanges), ("strconv.ErrRange", laid_strconv_ErrRange), ("strconv.ErrSyntax", laid_strconv_ErrSyntax), ("unicode/utf8.first", laid_unicode_utf8_first)], narrowed := true }
def TrustTextsMatchSpecUptoSaid : Prop := trustTextsMatchSpecUptoRow.holds Tryz.pinned (OpenSpec.upto trustTextsMatchSpecSpec)

/-- 'smithyardlaw11.TrustResultsAreNew', WHERE WHAT IT READS IS OF BULK AT MOST 1048576: true; the input reads as it did. -/
def trustResultsAreNewUptoRow : OpenClaim := { program := "ytahlodpolggeiaagreatdoor", sum := "52a4d102e3e28bd6ae0358ce921d4803c250b3291111d51193f994c0af37e46e", func := "smithyard/smithyardlaw11.TrustResultsAreNew", spec := "trustResultsAreNew", inPlace := ["internal/bytealg.IndexByteString", "internal/bytealg.IndexString", "internal/bytealg.CountString", "internal/bytealg.abigen_runtime_cmpstring", "internal/abi.NoEscape", "internal/bytealg.MakeNoZero"], unfollowed := true, recurses := true, named := ["unicode/utf8.first", "unicode/utf8.acceptRanges", "internal/bytealg.MaxLen", "internal/strconv.uint64pow10", "math/bits.deBruijn32tab", "math/bits.deBruijn64tab", "strconv.ErrSyntax", "strconv.ErrRange"], apart := false, laid := [("math/bits.deBruijn32tab", laid_math_bits_deBruijn32tab), ("math/bits.deBruijn64tab", laid_math_bits_deBruijn64tab), ("internal/strconv.uint64pow10", laid_internal_strconv_uint64pow10), ("unicode/utf8.acceptRanges", laid_unicode_utf8_acceptRanges), ("strconv.ErrRange", laid_strconv_ErrRange), ("strconv.ErrSyntax", laid_strconv_ErrSyntax), ("unicode/utf8.first", laid_unicode_utf8_first)], narrowed := true }
def TrustResultsAreNewUptoSaid : Prop := trustResultsAreNewUptoRow.holds Tryz.pinned (OpenSpec.upto trustResultsAreNewSpec)

/-- 'smithyardlaw11.TrustAgreedMatchesSpec', WHERE WHAT IT READS IS OF BULK AT MOST 1048576: true; the input reads as it did. -/
def trustAgreedMatchesSpecUptoRow : OpenClaim := { program := "ytahlodpolggeiaagreatdoor", sum := "52a4d102e3e28bd6ae0358ce921d4803c250b3291111d51193f994c0af37e46e", func := "smithyard/smithyardlaw11.TrustAgreedMatchesSpec", spec := "trustAgreedMatchesSpec", inPlace := ["internal/bytealg.IndexByteString", "internal/bytealg.IndexString", "internal/bytealg.CountString", "internal/bytealg.abigen_runtime_cmpstring", "internal/abi.NoEscape", "internal/bytealg.MakeNoZero"], unfollowed := true, recurses := true, named := ["unicode/utf8.first", "unicode/utf8.acceptRanges", "internal/bytealg.MaxLen", "internal/strconv.uint64pow10", "math/bits.deBruijn32tab", "math/bits.deBruijn64tab"], apart := false, laid := [("math/bits.deBruijn32tab", laid_math_bits_deBruijn32tab), ("math/bits.deBruijn64tab", laid_math_bits_deBruijn64tab), ("internal/strconv.uint64pow10", laid_internal_strconv_uint64pow10), ("unicode/utf8.acceptRanges", laid_unicode_utf8_acceptRanges), ("unicode/utf8.first", laid_unicode_utf8_first)], narrowed := true }
def TrustAgreedMatchesSpecUptoSaid : Prop := trustAgreedMatchesSpecUptoRow.holds Tryz.pinned (OpenSpec.upto trustAgreedMatchesSpecSpec)

/-- 'smithyardlaw11.TrustTrustedMatchesSpec', WHERE WHAT IT READS IS OF BULK AT MOST 1048576: true; the input reads as it did. -/
def trustTrustedMatchesSpecUptoRow : OpenClaim := { program := "ytahlodpolggeiaagreatdoor", sum := "52a4d102e3e28bd6ae0358ce921d4803c250b3291111d51193f994c0af37e46e", func := "smithyard/smithyardlaw11.TrustTrustedMatchesSpec", spec := "trustTrustedMatchesSpec", inPlace := ["internal/bytealg.IndexByteString", "internal/bytealg.IndexString", "internal/bytealg.CountString", "internal/bytealg.abigen_runtime_cmpstring", "internal/abi.NoEscape", "internal/bytealg.MakeNoZero"], unfollowed := true, recurses := true, named := ["unicode/utf8.first", "unicode/utf8.acceptRanges", "internal/bytealg.MaxLen", "internal/strconv.uint64pow10", "math/bits.deBruijn32tab", "math/bits.deBruijn64tab"], apart := false, laid := [("math/bits.deBruijn32tab", laid_math_bits_deBruijn32tab), ("math/bits.deBruijn64tab", laid_math_bits_deBruijn64tab), ("internal/strconv.uint64pow10", laid_internal_strconv_uint64pow10), ("unicode/utf8.acceptRanges", laid_unicode_utf8_acceptRanges), ("unicode/utf8.first", laid_unicode_utf8_first)], narrowed := true }
def TrustTrustedMatchesSpecUptoSaid : Prop := trustTrustedMatchesSpecUptoRow.holds Tryz.pinned (OpenSpec.upto trustTrustedMatchesSpecSpec)

/-- 'smithyardlaw11.TrustDueMatchesSpec', WHERE WHAT IT READS IS OF BULK AT MOST 1048576: true; the input reads as it did. -/
def trustDueMatchesSpecUptoRow : OpenClaim := { program := "ytahlodpolggeiaagreatdoor", sum := "52a4d102e3e28bd6ae0358ce921d4803c250b3291111d51193f994c0af37e46e", func := "smithyard/smithyardlaw11.TrustDueMatchesSpec", spec := "trustDueMatchesSpec", inPlace := ["internal/bytealg.IndexByteString", "internal/bytealg.IndexString", "internal/bytealg.CountString", "internal/bytealg.abigen_runtime_cmpstring"], unfollowed := true, recurses := true, named := ["unicode/utf8.first", "unicode/utf8.acceptRanges", "internal/bytealg.MaxLen", "internal/strconv.uint64pow10", "math/bits.deBruijn32tab", "math/bits.deBruijn64tab", "strconv.ErrSyntax", "strconv.ErrRange"], apart := false, laid := [("math/bits.deBruijn32tab", laid_math_bits_deBruijn32tab), ("math/bits.deBruijn64tab", laid_math_bits_deBruijn64tab), ("internal/strconv.uint64pow10", laid_internal_strconv_uint64pow10), ("unicode/utf8.acceptRanges", laid_unicode_utf8_acceptRanges), ("strconv.ErrRange", laid_strconv_ErrRange), ("strconv.ErrSyntax", laid_strconv_ErrSyntax), ("unicode/utf8.first", laid_unicode_utf8_first)], narrowed := true }
def TrustDueMatchesSpecUptoSaid : Prop := trustDueMatchesSpecUptoRow.holds Tryz.pinned (OpenSpec.upto trustDueMatchesSpecSpec)

end Rows
end Go.Proofs.YtahlodpolggeiaaGreatDoor
