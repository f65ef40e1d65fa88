/-
  NARROWER THAN 'FOR EVERY INPUT', by the rows' own cells (each row's printed sentence says how): TagPrices: laid · TagRound: laid · TagMeant: laid · TagClashes: laid · TagAsked: laid · TagPlainly: laid · TagAnyOrder: laid · TagWords: laid · TagReal: laid · TagReached: laid · TagLearnt: laid · TagLettered: laid · TagNews: laid.
  DERIVED. THE GIVEN ROWS OF THIS SEAT. 13 by the template 'for every input the law returns true; each argument reads behind the call as it read before'; 0 by the template 'total and deterministic' (their statements: YtjagmhagphbfcaaGreatDoorTotals.lean).
  GIVEN WITH THE SEED: the statements are not yours to turn. If you find one false, say at which input.
  Laid BY PROGRAM, IN A SANDBOX (cutbox-rows.mjs): the forced cells as the released guide's own fill.sh prints them over the translation c2a4c57136daa398… (all of the seat's roots in one cut). By AI agents, Wed Nov 11 2026. No macro, syntax, notation, axiom, sorry.
-/
import Derived.Test.YtjagmhagphbfcaaGreatDoorChecked
import GoSem.PinnedTables
import GoSem.Claim
import GoSem.ClaimJoined
import GoSem.ClaimMapViews
import Derived.JoinedTies
import Derived.KernelRfl
namespace Go.Proofs.YtjagmhagphbfcaaGreatDoor
/- THE CELL 'sum', in the pinned program and in every row, IS THE sha256 OF THE DUMP (.gsa) THAT YtjagmhagphbfcaaGreatDoorProg.lean LOADS. Nothing in Lean hashes anything: it is a label: what it is worth is what the hold of that sum in a sandbox is worth. -/
noncomputable def Tryz.pinned : Pinned := { name := "ytjagmhagphbfcaagreatdoor", sum := "c2a4c57136daa398c92179c8910737aeb406d4814f1361c29c3f306b50c0ae17", checked := Tryz.checked }
namespace Rows
def none {H : Type} : Left H := { results := [], args := [] }

/- WHAT THE LISTED PACKAGE-LEVEL VARIABLES READ AS WHEN THE CALL BEGINS. Each datum BY PROGRAM (the guide's laid-datum.mjs) off the statement by which the dump's own 'gosem.cut.vars' lays the variable. In a bare row this is a premise. The card (YtjagmhagphbfcaaGreatDoorCards.lean) ties it to the program's text. -/
def laid_nosale_tag_checks {H : Type} : DataW H := .iface "func table" (.agg [.iface "func" (.lit (.string [40, 110, 111, 115, 97, 108, 101, 47, 116, 97, 103, 46, 104, 111, 117, 115, 101, 41, 46, 108, 101, 116, 116, 101, 114, 115])), .iface "func" (.lit (.string [40, 110, 111, 115, 97, 108, 101, 47, 116, 97, 103, 46, 104, 111, 117, 115, 101, 41, 46, 112, 97, 105, 114, 115])), .iface "func" (.lit (.string [40, 110, 111, 115, 97, 108, 101, 47, 116, 97, 103, 46, 104, 111, 117, 115, 101, 41, 46, 116, 97, 103, 115]))])
def laid_unicode_utf8_acceptRanges {H : Type} : DataW H := .agg [.agg [.lit (.int .u8 128), .lit (.int .u8 191)], .agg [.lit (.int .u8 160), .lit (.int .u8 191)], .agg [.lit (.int .u8 128), .lit (.int .u8 159)], .agg [.lit (.int .u8 144), .lit (.int .u8 191)], .agg [.lit (.int .u8 128), .lit (.int .u8 143)], .agg [.lit (.int .u8 0), .lit (.int .u8 0)], .agg [.lit (.int .u8 0), .lit (.int .u8 0)], .agg [.lit (.int .u8 0), .lit (.int .u8 0)], .agg [.lit (.int .u8 0), .lit (.int .u8 0)], .agg [.lit (.int .u8 0), .lit (.int .u8 0)], .agg [.lit (.int .u8 0), .lit (.int .u8 0)], .agg [.lit (.int .u8 0), .lit (.int .u8 0)], .agg [.lit (.int .u8 0), .lit (.int .u8 0)], .agg [.lit (.int .u8 0), .lit (.int .u8 0)], .agg [.lit (.int .u8 0), .lit (.int .u8 0)], .agg [.lit (.int .u8 0), .lit (.int .u8 0)]]
/-- One of Go's own tables, pinned by name: the form's constant. -/
def laid_unicode_utf8_first : DataW Unit := Go.Pinned.utf8First

/-- 'nosalelaw03.TagPrices': WHATEVER THE INPUT: true; the input reads as it did. -/
def tagPricesSpec : ChangeSpec := { name := "tagPrices", fn := fun _ => fun
  | [d1, d2, d3, d4, d5] => { results := [.lit (.bool true)], args := [d1, d2, d3, d4, d5] }
  | _ => none }
def tagPricesRow : OpenClaim := { program := "ytjagmhagphbfcaagreatdoor", sum := "c2a4c57136daa398c92179c8910737aeb406d4814f1361c29c3f306b50c0ae17", func := "nosale/nosalelaw03.TagPrices", spec := "tagPrices", inPlace := ["internal/bytealg.CountString", "internal/bytealg.IndexByteString", "internal/bytealg.IndexString"], unfollowed := true, recurses := true, named := ["nosale/tag.checks", "internal/bytealg.MaxLen"], plainKeys := false, leaving := true, apart := false, laid := [("nosale/tag.checks", laid_nosale_tag_checks)] }
def TagPricesSaid : Prop := tagPricesRow.holds Tryz.pinned (OpenSpec.ofChange tagPricesSpec)

/-- ITS FALSE NEIGHBOUR: 'it returns false'. Refute it at one input. -/
def tagPricesWrong : ChangeSpec := { name := "tagPrices", fn := fun _ => fun
  | [d1, d2, d3, d4, d5] => { results := [.lit (.bool false)], args := [d1, d2, d3, d4, d5] }
  | _ => none }
def TagPricesWrongFalsely : Prop := tagPricesRow.holds Tryz.pinned (OpenSpec.ofChange tagPricesWrong)

/-- 'nosalelaw03.TagRound': WHATEVER THE INPUT: true; the input reads as it did. -/
def tagRoundSpec : ChangeSpec := { name := "tagRound", fn := fun _ => fun
  | [d1, d2, d3, d4, d5] => { results := [.lit (.bool true)], args := [d1, d2, d3, d4, d5] }
  | _ => none }
def tagRoundRow : OpenClaim := { program := "ytjagmhagphbfcaagreatdoor", sum := "c2a4c57136daa398c92179c8910737aeb406d4814f1361c29c3f306b50c0ae17", func := "nosale/nosalelaw03.TagRound", spec := "tagRound", inPlace := ["internal/bytealg.CountString", "internal/bytealg.IndexByteString", "internal/bytealg.IndexString"], unfollowed := true, recurses := true, named := ["nosale/tag.checks", "internal/bytealg.MaxLen"], plainKeys := false, leaving := true, apart := false, laid := [("nosale/tag.checks", laid_nosale_tag_checks)] }
def TagRoundSaid : Prop := tagRoundRow.holds Tryz.pinned (OpenSpec.ofChange tagRoundSpec)

/-- ITS FALSE NEIGHBOUR: 'it returns false'. Refute it at one input. -/
def tagRoundWrong : ChangeSpec := { name := "tagRound", fn := fun _ => fun
  | [d1, d2, d3, d4, d5] => { results := [.lit (.bool false)], args := [d1, d2, d3, d4, d5] }
  | _ => none }
def TagRoundWrongFalsely : Prop := tagRoundRow.holds Tryz.pinned (OpenSpec.ofChange tagRoundWrong)

/-- 'nosalelaw03.TagMeant': WHATEVER THE INPUT: true; the input reads as it did. -/
def tagMeantSpec : ChangeSpec := { name := "tagMeant", fn := fun _ => fun
  | [d1, d2] => { results := [.lit (.bool true)], args := [d1, d2] }
  | _ => none }
def tagMeantRow : OpenClaim := { program := "ytjagmhagphbfcaagreatdoor", sum := "c2a4c57136daa398c92179c8910737aeb406d4814f1361c29c3f306b50c0ae17", func := "nosale/nosalelaw03.TagMeant", spec := "tagMeant", inPlace := ["internal/bytealg.CountString", "internal/bytealg.IndexByteString", "internal/bytealg.IndexString"], unfollowed := true, recurses := true, named := ["nosale/tag.checks", "internal/bytealg.MaxLen"], plainKeys := false, leaving := true, apart := false, laid := [("nosale/tag.checks", laid_nosale_tag_checks)] }
def TagMeantSaid : Prop := tagMeantRow.holds Tryz.pinned (OpenSpec.ofChange tagMeantSpec)

/-- ITS FALSE NEIGHBOUR: 'it returns false'. Refute it at one input. -/
def tagMeantWrong : ChangeSpec := { name := "tagMeant", fn := fun _ => fun
  | [d1, d2] => { results := [.lit (.bool false)], args := [d1, d2] }
  | _ => none }
def TagMeantWrongFalsely : Prop := tagMeantRow.holds Tryz.pinned (OpenSpec.ofChange tagMeantWrong)

/-- 'nosalelaw03.TagClashes': WHATEVER THE INPUT: true; the input reads as it did. -/
def tagClashesSpec : ChangeSpec := { name := "tagClashes", fn := fun _ => fun
  | [d1, d2] => { results := [.lit (.bool true)], args := [d1, d2] }
  | _ => none }
def tagClashesRow : OpenClaim := { program := "ytjagmhagphbfcaagreatdoor", sum := "c2a4c57136daa398c92179c8910737aeb406d4814f1361c29c3f306b50c0ae17", func := "nosale/nosalelaw03.TagClashes", spec := "tagClashes", inPlace := ["internal/bytealg.CountString", "internal/bytealg.IndexByteString", "internal/bytealg.IndexString"], unfollowed := true, recurses := true, named := ["nosale/tag.checks", "internal/bytealg.MaxLen"], plainKeys := false, leaving := true, apart := false, laid := [("nosale/tag.checks", laid_nosale_tag_checks)] }
def TagClashesSaid : Prop := tagClashesRow.holds Tryz.pinned (OpenSpec.ofChange tagClashesSpec)

/-- ITS FALSE NEIGHBOUR: 'it returns false'. Refute it at one input. -/
def tagClashesWrong : ChangeSpec := { name := "tagClashes", fn := fun _ => fun
  | [d1, d2] => { results := [.lit (.bool false)], args := [d1, d2] }
  | _ => none }
def TagClashesWrongFalsely : Prop := tagClashesRow.holds Tryz.pinned (OpenSpec.ofChange tagClashesWrong)

/-- 'nosalelaw03.TagAsked': WHATEVER THE INPUT: true; the input reads as it did. -/
def tagAskedSpec : ChangeSpec := { name := "tagAsked", fn := fun _ => fun
  | [d1, d2] => { results := [.lit (.bool true)], args := [d1, d2] }
  | _ => none }
def tagAskedRow : OpenClaim := { program := "ytjagmhagphbfcaagreatdoor", sum := "c2a4c57136daa398c92179c8910737aeb406d4814f1361c29c3f306b50c0ae17", func := "nosale/nosalelaw03.TagAsked", spec := "tagAsked", inPlace := ["internal/bytealg.CountString", "internal/bytealg.IndexByteString", "internal/bytealg.IndexString"], unfollowed := true, recurses := true, named := ["nosale/tag.checks", "internal/bytealg.MaxLen"], plainKeys := false, leaving := true, apart := false, laid := [("nosale/tag.checks", laid_nosale_tag_checks)] }
def TagAskedSaid : Prop := tagAskedRow.holds Tryz.pinned (OpenSpec.ofChange tagAskedSpec)

/-- ITS FALSE NEIGHBOUR: 'it returns false'. Refute it at one input. -/
def tagAskedWrong : ChangeSpec := { name := "tagAsked", fn := fun _ => fun
  | [d1, d2] => { results := [.lit (.bool false)], args := [d1, d2] }
  | _ => none }
def TagAskedWrongFalsely : Prop := tagAskedRow.holds Tryz.pinned (OpenSpec.ofChange tagAskedWrong)

/-- 'nosalelaw03.TagPlainly': WHATEVER THE INPUT: true; the input reads as it did. -/
def tagPlainlySpec : ChangeSpec := { name := "tagPlainly", fn := fun _ => fun
  | [d1, d2, d3] => { results := [.lit (.bool true)], args := [d1, d2, d3] }
  | _ => none }
def tagPlainlyRow : OpenClaim := { program := "ytjagmhagphbfcaagreatdoor", sum := "c2a4c57136daa398c92179c8910737aeb406d4814f1361c29c3f306b50c0ae17", func := "nosale/nosalelaw03.TagPlainly", spec := "tagPlainly", inPlace := ["internal/bytealg.CountString", "internal/bytealg.IndexByteString", "internal/bytealg.IndexString"], unfollowed := true, recurses := true, named := ["nosale/tag.checks", "internal/bytealg.MaxLen"], plainKeys := false, leaving := true, apart := false, laid := [("nosale/tag.checks", laid_nosale_tag_checks)] }
def TagPlainlySaid : Prop := tagPlainlyRow.holds Tryz.pinned (OpenSpec.ofChange tagPlainlySpec)

/-- ITS FALSE NEIGHBOUR: 'it returns false'. Refute it at one input. -/
def tagPlainlyWrong : ChangeSpec := { name := "tagPlainly", fn := fun _ => fun
  | [d1, d2, d3] => { results := [.lit (.bool false)], args := [d1, d2, d3] }
  | _ => none }
def TagPlainlyWrongFalsely : Prop := tagPlainlyRow.holds Tryz.pinned (OpenSpec.ofChange tagPlainlyWrong)

/-- 'nosalelaw03.TagAnyOrder': WHATEVER THE INPUT: true; the input reads as it did. -/
def tagAnyOrderSpec : ChangeSpec := { name := "tagAnyOrder", fn := fun _ => fun
  | [d1, d2, d3] => { results := [.lit (.bool true)], args := [d1, d2, d3] }
  | _ => none }
def tagAnyOrderRow : OpenClaim := { program := "ytjagmhagphbfcaagreatdoor", sum := "c2a4c57136daa398c92179c8910737aeb406d4814f1361c29c3f306b50c0ae17", func := "nosale/nosalelaw03.TagAnyOrder", spec := "tagAnyOrder", inPlace := ["internal/bytealg.CountString", "internal/bytealg.IndexByteString", "internal/bytealg.IndexString"], unfollowed := true, recurses := true, named := ["nosale/tag.checks", "internal/bytealg.MaxLen"], plainKeys := false, leaving := true, apart := false, laid := [("nosale/tag.checks", laid_nosale_tag_checks)] }
def TagAnyOrderSaid : Prop := tagAnyOrderRow.holds Tryz.pinned (OpenSpec.ofChange tagAnyOrderSpec)

/-- ITS FALSE NEIGHBOUR: 'it returns false'. Refute it at one input. -/
def tagAnyOrderWrong : ChangeSpec := { name := "tagAnyOrder", fn := fun _ => fun
  | [d1, d2, d3] => { results := [.lit (.bool false)], args := [d1, d2, d3] }
  | _ => none }
def TagAnyOrderWrongFalsely : Prop := tagAnyOrderRow.holds Tryz.pinned (OpenSpec.ofChange tagAnyOrderWrong)

/-- 'nosalelaw03.TagWords': WHATEVER THE INPUT: true; the input reads as it did. -/
def tagWordsSpec : ChangeSpec := { name := "tagWords", fn := fun _ => fun
  | [d1, d2, d3] => { results := [.lit (.bool true)], args := [d1, d2, d3] }
  | _ => none }
def tagWordsRow : OpenClaim := { program := "ytjagmhagphbfcaagreatdoor", sum := "c2a4c57136daa398c92179c8910737aeb406d4814f1361c29c3f306b50c0ae17", func := "nosale/nosalelaw03.TagWords", spec := "tagWords", inPlace := ["internal/bytealg.CountString", "internal/bytealg.IndexByteString", "internal/bytealg.IndexString"], unfollowed := true, recurses := true, named := ["nosale/tag.checks", "internal/bytealg.MaxLen"], plainKeys := false, leaving := true, apart := false, laid := [("nosale/tag.checks", laid_nosale_tag_checks)] }
def TagWordsSaid : Prop := tagWordsRow.holds Tryz.pinned (OpenSpec.ofChange tagWordsSpec)

/-- ITS FALSE NEIGHBOUR: 'it returns false'. Refute it at one input. -/
def tagWordsWrong : ChangeSpec := { name := "tagWords", fn := fun _ => fun
  | [d1, d2, d3] => { results := [.lit (.bool false)], args := [d1, d2, d3] }
  | _ => none }
def TagWordsWrongFalsely : Prop := tagWordsRow.holds Tryz.pinned (OpenSpec.ofChange tagWordsWrong)

/-- 'nosalelaw03.TagReal': WHATEVER THE INPUT: true; the input reads as it did. -/
def tagRealSpec : ChangeSpec := { name := "tagReal", fn := fun _ => fun
  | [d1, d2, d3, d4, d5] => { results := [.lit (.bool true)], args := [d1, d2, d3, d4, d5] }
  | _ => none }
def tagRealRow : OpenClaim := { program := "ytjagmhagphbfcaagreatdoor", sum := "c2a4c57136daa398c92179c8910737aeb406d4814f1361c29c3f306b50c0ae17", func := "nosale/nosalelaw03.TagReal", spec := "tagReal", inPlace := ["internal/bytealg.CountString", "internal/bytealg.IndexByteString", "internal/bytealg.IndexString"], unfollowed := true, recurses := true, named := ["nosale/tag.checks", "internal/bytealg.MaxLen"], plainKeys := false, leaving := true, apart := false, laid := [("nosale/tag.checks", laid_nosale_tag_checks)] }
def TagRealSaid : Prop := tagRealRow.holds Tryz.pinned (OpenSpec.ofChange tagRealSpec)

/-- ITS FALSE NEIGHBOUR: 'it returns false'. Refute it at one input. -/
def tagRealWrong : ChangeSpec := { name := "tagReal", fn := fun _ => fun
  | [d1, d2, d3, d4, d5] => { results := [.lit (.bool false)], args := [d1, d2, d3, d4, d5] }
  | _ => none }
def TagRealWrongFalsely : Prop := tagRealRow.holds Tryz.pinned (OpenSpec.ofChange tagRealWrong)

/-- 'nosalelaw03.TagReached': WHATEVER THE INPUT: true; the input reads as it did. -/
def tagReachedSpec : ChangeSpec := { name := "tagReached", fn := fun _ => fun
  | [d1, d2, d3] => { results := [.lit (.bool true)], args := [d1, d2, d3] }
  | _ => none }
def tagReachedRow : OpenClaim := { program := "ytjagmhagphbfcaagreatdoor", sum := "c2a4c57136daa398c92179c8910737aeb406d4814f1361c29c3f306b50c0ae17", func := "nosale/nosalelaw03.TagReached", spec := "tagReached", inPlace := ["internal/bytealg.CountString", "internal/bytealg.IndexByteString", "internal/bytealg.IndexString"], unfollowed := true, recurses := true, named := ["nosale/tag.checks", "internal/bytealg.MaxLen"], plainKeys := false, leaving := true, apart := false, laid := [("nosale/tag.checks", laid_nosale_tag_checks)] }
def TagReachedSaid : Prop := tagReachedRow.holds Tryz.pinned (OpenSpec.ofChange tagReachedSpec)

/-- ITS FALSE NEIGHBOUR: 'it returns false'. Refute it at one input. -/
def tagReachedWrong : ChangeSpec := { name := "tagReached", fn := fun _ => fun
  | [d1, d2, d3] => { results := [.lit (.bool false)], args := [d1, d2, d3] }
  | _ => none }
def TagReachedWrongFalsely : Prop := tagReachedRow.holds Tryz.pinned (OpenSpec.ofChange tagReachedWrong)

/-- 'nosalelaw03.TagLearnt': WHATEVER THE INPUT: true; the input reads as it did. -/
def tagLearntSpec : ChangeSpec := { name := "tagLearnt", fn := fun _ => fun
  | [d1, d2, d3, d4, d5, d6, d7] => { results := [.lit (.bool true)], args := [d1, d2, d3, d4, d5, d6, d7] }
  | _ => none }
def tagLearntRow : OpenClaim := { program := "ytjagmhagphbfcaagreatdoor", sum := "c2a4c57136daa398c92179c8910737aeb406d4814f1361c29c3f306b50c0ae17", func := "nosale/nosalelaw03.TagLearnt", spec := "tagLearnt", inPlace := ["internal/bytealg.CountString", "internal/bytealg.IndexByteString", "internal/bytealg.IndexString"], unfollowed := true, recurses := true, named := ["nosale/tag.checks", "internal/bytealg.MaxLen"], plainKeys := false, leaving := true, apart := false, laid := [("nosale/tag.checks", laid_nosale_tag_checks)] }
def TagLearntSaid : Prop := tagLearntRow.holds Tryz.pinned (OpenSpec.ofChange tagLearntSpec)

/-- ITS FALSE NEIGHBOUR: 'it returns false'. Refute it at one input. -/
def tagLearntWrong : ChangeSpec := { name := "tagLearnt", fn := fun _ => fun
  | [d1, d2, d3, d4, d5, d6, d7] => { results := [.lit (.bool false)], args := [d1, d2, d3, d4, d5, d6, d7] }
  | _ => none }
def TagLearntWrongFalsely : Prop := tagLearntRow.holds Tryz.pinned (OpenSpec.ofChange tagLearntWrong)

/-- 'nosalelaw03.TagLettered': WHATEVER THE INPUT: true; the input reads as it did. -/
def tagLetteredSpec : ChangeSpec := { name := "tagLettered", fn := fun _ => fun
  | [d1, d2, d3] => { results := [.lit (.bool true)], args := [d1, d2, d3] }
  | _ => none }
def tagLetteredRow : OpenClaim := { program := "ytjagmhagphbfcaagreatdoor", sum := "c2a4c57136daa398c92179c8910737aeb406d4814f1361c29c3f306b50c0ae17", func := "nosale/nosalelaw03.TagLettered", spec := "tagLettered", inPlace := ["internal/bytealg.CountString", "internal/bytealg.IndexByteString", "internal/bytealg.IndexString", "internal/abi.NoEscape", "internal/bytealg.MakeNoZero"], unfollowed := true, recurses := true, named := ["nosale/tag.checks", "internal/bytealg.MaxLen", "unicode/utf8.first", "unicode/utf8.acceptRanges"], plainKeys := false, leaving := true, apart := false, laid := [("unicode/utf8.acceptRanges", laid_unicode_utf8_acceptRanges), ("nosale/tag.checks", laid_nosale_tag_checks), ("unicode/utf8.first", laid_unicode_utf8_first)] }
def TagLetteredSaid : Prop := tagLetteredRow.holds Tryz.pinned (OpenSpec.ofChange tagLetteredSpec)

/-- ITS FALSE NEIGHBOUR: 'it returns false'. Refute it at one input. -/
def tagLetteredWrong : ChangeSpec := { name := "tagLettered", fn := fun _ => fun
  | [d1, d2, d3] => { results := [.lit (.bool false)], args := [d1, d2, d3] }
  | _ => none }
def TagLetteredWrongFalsely : Prop := tagLetteredRow.holds Tryz.pinned (OpenSpec.ofChange tagLetteredWrong)

/-- 'nosalelaw03.TagNews': WHATEVER THE INPUT: true; the input reads as it did. -/
def tagNewsSpec : ChangeSpec := { name := "tagNews", fn := fun _ => fun
  | [d1, d2, d3, d4, d5, d6] => { results := [.lit (.bool true)], args := [d1, d2, d3, d4, d5, d6] }
  | _ => none }
def tagNewsRow : OpenClaim := { program := "ytjagmhagphbfcaagreatdoor", sum := "c2a4c57136daa398c92179c8910737aeb406d4814f1361c29c3f306b50c0ae17", func := "nosale/nosalelaw03.TagNews", spec := "tagNews", inPlace := ["internal/bytealg.CountString", "internal/bytealg.IndexByteString", "internal/bytealg.IndexString", "internal/abi.NoEscape", "internal/bytealg.MakeNoZero"], unfollowed := true, recurses := true, named := ["nosale/tag.checks", "internal/bytealg.MaxLen", "unicode/utf8.first", "unicode/utf8.acceptRanges"], plainKeys := false, leaving := true, apart := false, laid := [("unicode/utf8.acceptRanges", laid_unicode_utf8_acceptRanges), ("nosale/tag.checks", laid_nosale_tag_checks), ("unicode/utf8.first", laid_unicode_utf8_first)] }
def TagNewsSaid : Prop := tagNewsRow.holds Tryz.pinned (OpenSpec.ofChange tagNewsSpec)

/-- ITS FALSE NEIGHBOUR: 'it returns false'. Refute it at one input. -/
def tagNewsWrong : ChangeSpec := { name := "tagNews", fn := fun _ => fun
  | [d1, d2, d3, d4, d5, d6] => { results := [.lit (.bool false)], args := [d1, d2, d3, d4, d5, d6] }
  | _ => none }
def TagNewsWrongFalsely : Prop := tagNewsRow.holds Tryz.pinned (OpenSpec.ofChange tagNewsWrong)

/- THE SECOND FORM. 'bulk': how many values and letters a reading holds, each counted each time it is reached (what is shared counts as often as it is met; a slice's spare places count too). A statement '..UptoSaid' is the law's where the arguments, and the package variables that the reading takes, are together of bulk at most 1048576: NARROWER than '..Said'. Prove '..Said' where nothing that the law and all that it calls make is longer than what came in: it says more and counts as full. Else prove '..UptoSaid'. A law counts once. -/
mutual
def uptoBulk {H : Type} : DataW H → Nat
  | .lit (.string bytes) => bytes.length + 1
  | .lit _ => 1
  | .nil => 1
  | .ptr d => uptoBulk d + 1
  | .slice elems spare => uptoBulkAll elems + uptoBulkAll spare + 1
  | .agg parts => uptoBulkAll parts + 1
  | .iface _ d => uptoBulk d + 1
  | .map entries => uptoBulkEntries entries + 1
  | .held _ => 1
def uptoBulkAll {H : Type} : List (DataW H) → Nat
  | [] => 0
  | d :: r => uptoBulk d + uptoBulkAll r
def uptoBulkEntries {H : Type} : List (Lit × DataW H) → Nat
  | [] => 0
  | x :: r => uptoBulkEntry x + uptoBulkEntries r
def uptoBulkEntry {H : Type} : Lit × DataW H → Nat
  | (.string bytes, d) => bytes.length + uptoBulk d + 1
  | (_, d) => uptoBulk d + 1
 end
def uptoSmall : (H : Type) → List (DataW H) → Bool := fun _ ds => decide (uptoBulkAll ds ≤ 1048576)
def OpenSpec.upto (s : _root_.Go.ChangeSpec) : _root_.Go.OpenSpec := { _root_.Go.OpenSpec.ofChange s with cond := some uptoSmall }

/-- 'nosalelaw03.TagPrices', WHERE WHAT IT READS IS OF BULK AT MOST 1048576: true; the input reads as it did. -/
def tagPricesUptoRow : OpenClaim := { program := "ytjagmhagphbfcaagreatdoor", sum := "c2a4c57136daa398c92179c8910737aeb406d4814f1361c29c3f306b50c0ae17", func := "nosale/nosalelaw03.TagPrices", spec := "tagPrices", inPlace := ["internal/bytealg.CountString", "internal/bytealg.IndexByteString", "internal/bytealg.IndexString"], unfollowed := true, recurses := true, named := ["nosale/tag.checks", "internal/bytealg.MaxLen"], plainKeys := false, leaving := true, apart := false, laid := [("nosale/tag.checks", laid_nosale_tag_checks)], narrowed := true }
def TagPricesUptoSaid : Prop := tagPricesUptoRow.holds Tryz.pinned (OpenSpec.upto tagPricesSpec)

/-- 'nosalelaw03.TagRound', WHERE WHAT IT READS IS OF BULK AT MOST 1048576: true; the input reads as it did. -/
def tagRoundUptoRow : OpenClaim := { program := "ytjagmhagphbfcaagreatdoor", sum := "c2a4c57136daa398c92179c8910737aeb406d4814f1361c29c3f306b50c0ae17", func := "nosale/nosalelaw03.TagRound", spec := "tagRound", inPlace := ["internal/bytealg.CountString", "internal/bytealg.IndexByteString", "internal/bytealg.IndexString"], unfollowed := true, recurses := true, named := ["nosale/tag.checks", "internal/bytealg.MaxLen"], plainKeys := false, leaving := true, apart := false, laid := [("nosale/tag.checks", laid_nosale_tag_checks)], narrowed := true }
def TagRoundUptoSaid : Prop := tagRoundUptoRow.holds Tryz.pinned (OpenSpec.upto tagRoundSpec)

/-- 'nosalelaw03.TagMeant', WHERE WHAT IT READS IS OF BULK AT MOST 1048576: true; the input reads as it did. -/
def tagMeantUptoRow : OpenClaim := { program := "ytjagmhagphbfcaagreatdoor", sum := "c2a4c57136daa398c92179c8910737aeb406d4814f1361c29c3f306b50c0ae17", func := "nosale/nosalelaw03.TagMeant", spec := "tagMeant", inPlace := ["internal/bytealg.CountString", "internal/bytealg.IndexByteString", "internal/bytealg.IndexString"], unfollowed := true, recurses := true, named := ["nosale/tag.checks", "internal/bytealg.MaxLen"], plainKeys := false, leaving := true, apart := false, laid := [("nosale/tag.checks", laid_nosale_tag_checks)], narrowed := true }
def TagMeantUptoSaid : Prop := tagMeantUptoRow.holds Tryz.pinned (OpenSpec.upto tagMeantSpec)

/-- 'nosalelaw03.TagClashes', WHERE WHAT IT READS IS OF BULK AT MOST 1048576: true; the input reads as it did. -/
def tagClashesUptoRow : OpenClaim := { program := "ytjagmhagphbfcaagreatdoor", sum := "c2a4c57136daa398c92179c8910737aeb406d4814f1361c29c3f306b50c0ae17", func := "nosale/nosalelaw03.TagClashes", spec := "tagClashes", inPlace := ["internal/bytealg.CountString", "internal/bytealg.IndexByteString", "internal/bytealg.IndexString"], unfollowed := true, recurses := true, named := ["nosale/tag.checks", "internal/bytealg.MaxLen"], plainKeys := false, leaving := true, apart := false, laid := [("nosale/tag.checks", laid_nosale_tag_checks)], narrowed := true }
def TagClashesUptoSaid : Prop := tagClashesUptoRow.holds Tryz.pinned (OpenSpec.upto tagClashesSpec)

/-- 'nosalelaw03.TagAsked', WHERE WHAT IT READS IS OF BULK AT MOST 1048576: true; the input reads as it did. -/
def tagAskedUptoRow : OpenClaim := { program := "ytjagmhagphbfcaagreatdoor", sum := "c2a4c57136daa398c92179c8910737aeb406d4814f1361c29c3f306b50c0ae17", func := "nosale/nosalelaw03.TagAsked", spec := "tagAsked", inPlace := ["internal/bytealg.CountString", "internal/bytealg.IndexByteString", "internal/bytealg.IndexString"], unfollowed := true, recurses := true, named := ["nosale/tag.checks", "internal/bytealg.MaxLen"], plainKeys := false, leaving := true, apart := false, laid := [("nosale/tag.checks", laid_nosale_tag_checks)], narrowed := true }
def TagAskedUptoSaid : Prop := tagAskedUptoRow.holds Tryz.pinned (OpenSpec.upto tagAskedSpec)

/-- 'nosalelaw03.TagPlainly', WHERE WHAT IT READS IS OF BULK AT MOST 1048576: true; the input reads as it did. -/
def tagPlainlyUptoRow : OpenClaim := { program := "ytjagmhagphbfcaagreatdoor", sum := "c2a4c57136daa398c92179c8910737aeb406d4814f1361c29c3f306b50c0ae17", func := "nosale/nosalelaw03.TagPlainly", spec := "tagPlainly", inPlace := ["internal/bytealg.CountString", "internal/bytealg.IndexByteString", "internal/bytealg.IndexString"], unfollowed := true, recurses := true, named := ["nosale/tag.checks", "internal/bytealg.MaxLen"], plainKeys := false, leaving := true, apart := false, laid := [("nosale/tag.checks", laid_nosale_tag_checks)], narrowed := true }
def TagPlainlyUptoSaid : Prop := tagPlainlyUptoRow.holds Tryz.pinned (OpenSpec.upto tagPlainlySpec)

/-- 'nosalelaw03.TagAnyOrder', WHERE WHAT IT READS IS OF BULK AT MOST 1048576: true; the input reads as it did. -/
def tagAnyOrderUptoRow : OpenClaim := { program := "ytjagmhagphbfcaagreatdoor", sum := "c2a4c57136daa398c92179c8910737aeb406d4814f1361c29c3f306b50c0ae17", func := "nosale/nosalelaw03.TagAnyOrder", spec := "tagAnyOrder", inPlace := ["internal/bytealg.CountString", "internal/bytealg.IndexByteString", "internal/bytealg.IndexString"], unfollowed := true, recurses := true, named := ["nosale/tag.checks", "internal/bytealg.MaxLen"], plainKeys := false, leaving := true, apart := false, laid := [("nosale/tag.checks", laid_nosale_tag_checks)], narrowed := true }
def TagAnyOrderUptoSaid : Prop := tagAnyOrderUptoRow.holds Tryz.pinned (OpenSpec.upto tagAnyOrderSpec)

/-- 'nosalelaw03.TagWords', WHERE WHAT IT READS IS OF BULK AT MOST 1048576: true; the input reads as it did. -/
def tagWordsUptoRow : OpenClaim := { program := "ytjagmhagphbfcaagreatdoor", sum := "c2a4c57136daa398c92179c8910737aeb406d4814f1361c29c3f306b50c0ae17", func := "nosale/nosalelaw03.TagWords", spec := "tagWords", inPlace := ["internal/bytealg.CountString", "internal/bytealg.IndexByteString", "internal/bytealg.IndexString"], unfollowed := true, recurses := true, named := ["nosale/tag.checks", "internal/bytealg.MaxLen"], plainKeys := false, leaving := true, apart := false, laid := [("nosale/tag.checks", laid_nosale_tag_checks)], narrowed := true }
def TagWordsUptoSaid : Prop := tagWordsUptoRow.holds Tryz.pinned (OpenSpec.upto tagWordsSpec)

/-- 'nosalelaw03.TagReal', WHERE WHAT IT READS IS OF BULK AT MOST 1048576: true; the input reads as it did. -/
def tagRealUptoRow : OpenClaim := { program := "ytjagmhagphbfcaagreatdoor", sum := "c2a4c57136daa398c92179c8910737aeb406d4814f1361c29c3f306b50c0ae17", func := "nosale/nosalelaw03.TagReal", spec := "tagReal", inPlace := ["internal/bytealg.CountString", "internal/bytealg.IndexByteString", "internal/bytealg.IndexString"], unfollowed := true, recurses := true, named := ["nosale/tag.checks", "internal/bytealg.MaxLen"], plainKeys := false, leaving := true, apart := false, laid := [("nosale/tag.checks", laid_nosale_tag_checks)], narrowed := true }
def TagRealUptoSaid : Prop := tagRealUptoRow.holds Tryz.pinned (OpenSpec.upto tagRealSpec)

/-- 'nosalelaw03.TagReached', WHERE WHAT IT READS IS OF BULK AT MOST 1048576: true; the input reads as it did. -/
def tagReachedUptoRow : OpenClaim := { program := "ytjagmhagphbfcaagreatdoor", sum := "c2a4c57136daa398c92179c8910737aeb406d4814f1361c29c3f306b50c0ae17", func := "nosale/nosalelaw03.TagReached", spec := "tagReached", inPlace := ["internal/bytealg.CountString", "internal/bytealg.IndexByteString", "internal/bytealg.IndexString"], unfollowed := true, recurses := true, named := ["nosale/tag.checks", "internal/bytealg.MaxLen"], plainKeys := false, leaving := true, apart := false, laid := [("nosale/tag.checks", laid_nosale_tag_checks)], narrowed := true }
def TagReachedUptoSaid : Prop := tagReachedUptoRow.holds Tryz.pinned (OpenSpec.upto tagReachedSpec)

/-- 'nosalelaw03.TagLearnt', WHERE WHAT IT READS IS OF BULK AT MOST 1048576: true; the input reads as it did. -/
def tagLearntUptoRow : OpenClaim := { program := "ytjagmhagphbfcaagreatdoor", sum := "c2a4c57136daa398c92179c8910737aeb406d4814f1361c29c3f306b50c0ae17", func := "nosale/nosalelaw03.TagLearnt", spec := "tagLearnt", inPlace := ["internal/bytealg.CountString", "internal/bytealg.IndexByteString", "internal/bytealg.IndexString"], unfollowed := true, recurses := true, named := ["nosale/tag.checks", "internal/bytealg.MaxLen"], plainKeys := false, leaving := true, apart := false, laid := [("nosale/tag.checks", laid_nosale_tag_checks)], narrowed := true }
def TagLearntUptoSaid : Prop := tagLearntUptoRow.holds Tryz.pinned (OpenSpec.upto tagLearntSpec)

/-- 'nosalelaw03.TagLettered', WHERE WHAT IT READS IS OF BULK AT MOST 1048576: true; the input reads as it did. -/
def tagLetteredUptoRow : OpenClaim := { program := "ytjagmhagphbfcaagreatdoor", sum := "c2a4c57136daa398c92179c8910737aeb406d4814f1361c29c3f306b50c0ae17", func := "nosale/nosalelaw03.TagLettered", spec := "tagLettered", inPlace := ["internal/bytealg.CountString", "internal/bytealg.IndexByteString", "internal/bytealg.IndexString", "internal/abi.NoEscape", "internal/bytealg.MakeNoZero"], unfollowed := true, recurses := true, named := ["nosale/tag.checks", "internal/bytealg.MaxLen", "unicode/utf8.first", "unicode/utf8.acceptRanges"], plainKeys := false, leaving := true, apart := false, laid := [("unicode/utf8.acceptRanges", laid_unicode_utf8_acceptRanges), ("nosale/tag.checks", laid_nosale_tag_checks), ("unicode/utf8.first", laid_unicode_utf8_first)], narrowed := true }
def TagLetteredUptoSaid : Prop := tagLetteredUptoRow.holds Tryz.pinned (OpenSpec.upto tagLetteredSpec)

/-- 'nosalelaw03.TagNews', WHERE WHAT IT READS IS OF BULK AT MOST 1048576: true; the input reads as it did. -/
def tagNewsUptoRow : OpenClaim := { program := "ytjagmhagphbfcaagreatdoor", sum := "c2a4c57136daa398c92179c8910737aeb406d4814f1361c29c3f306b50c0ae17", func := "nosale/nosalelaw03.TagNews", spec := "tagNews", inPlace := ["internal/bytealg.CountString", "internal/bytealg.IndexByteString", "internal/bytealg.IndexString", "internal/abi.NoEscape", "internal/bytealg.MakeNoZero"], unfollowed := true, recurses := true, named := ["nosale/tag.checks", "internal/bytealg.MaxLen", "unicode/utf8.first", "unicode/utf8.acceptRanges"], plainKeys := false, leaving := true, apart := false, laid := [("unicode/utf8.acceptRanges", laid_unicode_utf8_acceptRanges), ("nosale/tag.checks", laid_nosale_tag_checks), ("unicode/utf8.first", laid_unicode_utf8_first)], narrowed := true }
def TagNewsUptoSaid : Prop := tagNewsUptoRow.holds Tryz.pinned (OpenSpec.upto tagNewsSpec)

end Rows
end Go.Proofs.YtjagmhagphbfcaaGreatDoor
