/-
  No cell of these rows narrows 'for every input' (looked for: loops, veiled, ifaces, maps, wideKeys, modest, calm, conditions, laid).
  DERIVED. THE GIVEN ROWS OF THIS SEAT. 9 by the template 'for every input the law returns true; each argument reads behind the call as it read before'; 0 by the template 'total and deterministic' (their statements: YtcgcjklpilbndaaTotals.lean).
  GIVEN WITH THE SEED: the statements are not yours to turn. If you find one false, say at which input.
  Laid BY PROGRAM, IN A SANDBOX (cutbox-rows.mjs): the forced cells as the released guide's own fill.sh prints them over the translation b30461d87c234f6b… (all of the seat's roots in one cut). By AI agents, Wed Nov 11 2026. No macro, syntax, notation, axiom, sorry.
-/
import Derived.Test.YtcgcjklpilbndaaChecked
import GoSem.Claim
import GoSem.ClaimJoined
import GoSem.ClaimMapViews
import Derived.JoinedTies
import Derived.KernelRfl
namespace Go.Proofs.Ytcgcjklpilbndaa
/- THE CELL 'sum', in the pinned program and in every row, IS THE sha256 OF THE DUMP (.gsa) THAT YtcgcjklpilbndaaProg.lean LOADS. Nothing in Lean hashes anything: it is a label: what it is worth is what the hold of that sum in a sandbox is worth. -/
noncomputable def Try.pinned : Pinned := { name := "ytcgcjklpilbndaa", sum := "b30461d87c234f6bc46f7365dbb736a8ef04660bdf45430729b68db022df604e", checked := Try.checked }
namespace Rows
def none {H : Type} : Left H := { results := [], args := [] }

/-- 'bartizanlaw37.TermGrows': WHATEVER THE INPUT: true; the input reads as it did. -/
def termGrowsSpec : ChangeSpec := { name := "termGrows", fn := fun _ => fun
  | [d1, d2, d3, d4, d5] => { results := [.lit (.bool true)], args := [d1, d2, d3, d4, d5] }
  | _ => none }
def termGrowsRow : OpenClaim := { program := "ytcgcjklpilbndaa", sum := "b30461d87c234f6bc46f7365dbb736a8ef04660bdf45430729b68db022df604e", func := "bartizan/bartizanlaw37.TermGrows", spec := "termGrows", plainKeys := false, apart := false }
def TermGrowsSaid : Prop := termGrowsRow.holds Try.pinned (OpenSpec.ofChange termGrowsSpec)

/-- ITS FALSE NEIGHBOUR: 'it returns false'. Refute it at one input. -/
def termGrowsWrong : ChangeSpec := { name := "termGrows", fn := fun _ => fun
  | [d1, d2, d3, d4, d5] => { results := [.lit (.bool false)], args := [d1, d2, d3, d4, d5] }
  | _ => none }
def TermGrowsWrongFalsely : Prop := termGrowsRow.holds Try.pinned (OpenSpec.ofChange termGrowsWrong)

/-- 'bartizanlaw37.TermForges': WHATEVER THE INPUT: true; the input reads as it did. -/
def termForgesSpec : ChangeSpec := { name := "termForges", fn := fun _ => fun
  | [d1, d2, d3] => { results := [.lit (.bool true)], args := [d1, d2, d3] }
  | _ => none }
def termForgesRow : OpenClaim := { program := "ytcgcjklpilbndaa", sum := "b30461d87c234f6bc46f7365dbb736a8ef04660bdf45430729b68db022df604e", func := "bartizan/bartizanlaw37.TermForges", spec := "termForges", plainKeys := false, apart := false }
def TermForgesSaid : Prop := termForgesRow.holds Try.pinned (OpenSpec.ofChange termForgesSpec)

/-- ITS FALSE NEIGHBOUR: 'it returns false'. Refute it at one input. -/
def termForgesWrong : ChangeSpec := { name := "termForges", fn := fun _ => fun
  | [d1, d2, d3] => { results := [.lit (.bool false)], args := [d1, d2, d3] }
  | _ => none }
def TermForgesWrongFalsely : Prop := termForgesRow.holds Try.pinned (OpenSpec.ofChange termForgesWrong)

/-- 'bartizanlaw12.ReceiptTexts': WHATEVER THE INPUT: true; the input reads as it did. -/
def receiptTextsSpec : ChangeSpec := { name := "receiptTexts", fn := fun _ => fun
  | [d1, d2] => { results := [.lit (.bool true)], args := [d1, d2] }
  | _ => none }
def receiptTextsRow : OpenClaim := { program := "ytcgcjklpilbndaa", sum := "b30461d87c234f6bc46f7365dbb736a8ef04660bdf45430729b68db022df604e", func := "bartizan/bartizanlaw12.ReceiptTexts", spec := "receiptTexts", plainKeys := false, apart := false }
def ReceiptTextsSaid : Prop := receiptTextsRow.holds Try.pinned (OpenSpec.ofChange receiptTextsSpec)

/-- ITS FALSE NEIGHBOUR: 'it returns false'. Refute it at one input. -/
def receiptTextsWrong : ChangeSpec := { name := "receiptTexts", fn := fun _ => fun
  | [d1, d2] => { results := [.lit (.bool false)], args := [d1, d2] }
  | _ => none }
def ReceiptTextsWrongFalsely : Prop := receiptTextsRow.holds Try.pinned (OpenSpec.ofChange receiptTextsWrong)

/-- 'bartizanlaw12.ReceiptBytes': WHATEVER THE INPUT: true; the input reads as it did. -/
def receiptBytesSpec : ChangeSpec := { name := "receiptBytes", fn := fun _ => fun
  | [d1, d2] => { results := [.lit (.bool true)], args := [d1, d2] }
  | _ => none }
def receiptBytesRow : OpenClaim := { program := "ytcgcjklpilbndaa", sum := "b30461d87c234f6bc46f7365dbb736a8ef04660bdf45430729b68db022df604e", func := "bartizan/bartizanlaw12.ReceiptBytes", spec := "receiptBytes", plainKeys := false, apart := false }
def ReceiptBytesSaid : Prop := receiptBytesRow.holds Try.pinned (OpenSpec.ofChange receiptBytesSpec)

/-- ITS FALSE NEIGHBOUR: 'it returns false'. Refute it at one input. -/
def receiptBytesWrong : ChangeSpec := { name := "receiptBytes", fn := fun _ => fun
  | [d1, d2] => { results := [.lit (.bool false)], args := [d1, d2] }
  | _ => none }
def ReceiptBytesWrongFalsely : Prop := receiptBytesRow.holds Try.pinned (OpenSpec.ofChange receiptBytesWrong)

/-- 'bartizanlaw37.TermJoins': WHATEVER THE INPUT: true; the input reads as it did. -/
def termJoinsSpec : ChangeSpec := { name := "termJoins", fn := fun _ => fun
  | [d1, d2, d3] => { results := [.lit (.bool true)], args := [d1, d2, d3] }
  | _ => none }
def termJoinsRow : OpenClaim := { program := "ytcgcjklpilbndaa", sum := "b30461d87c234f6bc46f7365dbb736a8ef04660bdf45430729b68db022df604e", func := "bartizan/bartizanlaw37.TermJoins", spec := "termJoins", plainKeys := false, apart := false }
def TermJoinsSaid : Prop := termJoinsRow.holds Try.pinned (OpenSpec.ofChange termJoinsSpec)

/-- ITS FALSE NEIGHBOUR: 'it returns false'. Refute it at one input. -/
def termJoinsWrong : ChangeSpec := { name := "termJoins", fn := fun _ => fun
  | [d1, d2, d3] => { results := [.lit (.bool false)], args := [d1, d2, d3] }
  | _ => none }
def TermJoinsWrongFalsely : Prop := termJoinsRow.holds Try.pinned (OpenSpec.ofChange termJoinsWrong)

/-- 'bartizanlaw29.NetPlays': WHATEVER THE INPUT: true; the input reads as it did. -/
def netPlaysSpec : ChangeSpec := { name := "netPlays", fn := fun _ => fun
  | [d1, d2] => { results := [.lit (.bool true)], args := [d1, d2] }
  | _ => none }
def netPlaysRow : OpenClaim := { program := "ytcgcjklpilbndaa", sum := "b30461d87c234f6bc46f7365dbb736a8ef04660bdf45430729b68db022df604e", func := "bartizan/bartizanlaw29.NetPlays", spec := "netPlays", plainKeys := false, apart := false }
def NetPlaysSaid : Prop := netPlaysRow.holds Try.pinned (OpenSpec.ofChange netPlaysSpec)

/-- ITS FALSE NEIGHBOUR: 'it returns false'. Refute it at one input. -/
def netPlaysWrong : ChangeSpec := { name := "netPlays", fn := fun _ => fun
  | [d1, d2] => { results := [.lit (.bool false)], args := [d1, d2] }
  | _ => none }
def NetPlaysWrongFalsely : Prop := netPlaysRow.holds Try.pinned (OpenSpec.ofChange netPlaysWrong)

/-- 'bartizanlaw29.NetNobody': WHATEVER THE INPUT: true; the input reads as it did. -/
def netNobodySpec : ChangeSpec := { name := "netNobody", fn := fun _ => fun
  | [d1, d2] => { results := [.lit (.bool true)], args := [d1, d2] }
  | _ => none }
def netNobodyRow : OpenClaim := { program := "ytcgcjklpilbndaa", sum := "b30461d87c234f6bc46f7365dbb736a8ef04660bdf45430729b68db022df604e", func := "bartizan/bartizanlaw29.NetNobody", spec := "netNobody", plainKeys := false, apart := false }
def NetNobodySaid : Prop := netNobodyRow.holds Try.pinned (OpenSpec.ofChange netNobodySpec)

/-- ITS FALSE NEIGHBOUR: 'it returns false'. Refute it at one input. -/
def netNobodyWrong : ChangeSpec := { name := "netNobody", fn := fun _ => fun
  | [d1, d2] => { results := [.lit (.bool false)], args := [d1, d2] }
  | _ => none }
def NetNobodyWrongFalsely : Prop := netNobodyRow.holds Try.pinned (OpenSpec.ofChange netNobodyWrong)

/-- 'bartizanlaw28.TalkPuts': WHATEVER THE INPUT: true; the input reads as it did. -/
def talkPutsSpec : ChangeSpec := { name := "talkPuts", fn := fun _ => fun
  | [d] => { results := [.lit (.bool true)], args := [d] }
  | _ => none }
def talkPutsRow : OpenClaim := { program := "ytcgcjklpilbndaa", sum := "b30461d87c234f6bc46f7365dbb736a8ef04660bdf45430729b68db022df604e", func := "bartizan/bartizanlaw28.TalkPuts", spec := "talkPuts", plainKeys := false, apart := false }
def TalkPutsSaid : Prop := talkPutsRow.holds Try.pinned (OpenSpec.ofChange talkPutsSpec)

/-- ITS FALSE NEIGHBOUR: 'it returns false'. Refute it at one input. -/
def talkPutsWrong : ChangeSpec := { name := "talkPuts", fn := fun _ => fun
  | [d] => { results := [.lit (.bool false)], args := [d] }
  | _ => none }
def TalkPutsWrongFalsely : Prop := talkPutsRow.holds Try.pinned (OpenSpec.ofChange talkPutsWrong)

/-- 'bartizanlaw28.TalkGets': WHATEVER THE INPUT: true; the input reads as it did. -/
def talkGetsSpec : ChangeSpec := { name := "talkGets", fn := fun _ => fun
  | [d] => { results := [.lit (.bool true)], args := [d] }
  | _ => none }
def talkGetsRow : OpenClaim := { program := "ytcgcjklpilbndaa", sum := "b30461d87c234f6bc46f7365dbb736a8ef04660bdf45430729b68db022df604e", func := "bartizan/bartizanlaw28.TalkGets", spec := "talkGets", plainKeys := false, apart := false }
def TalkGetsSaid : Prop := talkGetsRow.holds Try.pinned (OpenSpec.ofChange talkGetsSpec)

/-- ITS FALSE NEIGHBOUR: 'it returns false'. Refute it at one input. -/
def talkGetsWrong : ChangeSpec := { name := "talkGets", fn := fun _ => fun
  | [d] => { results := [.lit (.bool false)], args := [d] }
  | _ => none }
def TalkGetsWrongFalsely : Prop := talkGetsRow.holds Try.pinned (OpenSpec.ofChange talkGetsWrong)

/- THE SECOND FORM. 'bulk': how many values and letters a reading holds, each counted each time it is reached (what is shared counts as often as it is met; a slice's spare places count too). A statement '..UptoSaid' is the law's where the arguments, and the package variables that the reading takes, are together of bulk at most 1048576: NARROWER than '..Said'. Prove '..Said' where nothing that the law and all that it calls make is longer than what came in: it says more and counts as full. Else prove '..UptoSaid'. A law counts once. -/
mutual
def uptoBulk {H : Type} : DataW H → Nat
  | .lit (.string bytes) => bytes.length + 1
  | .lit _ => 1
  | .nil => 1
  | .ptr d => uptoBulk d + 1
  | .slice elems spare => uptoBulkAll elems + uptoBulkAll spare + 1
  | .agg parts => uptoBulkAll parts + 1
  | .iface _ d => uptoBulk d + 1
  | .map entries => uptoBulkEntries entries + 1
  | .held _ => 1
def uptoBulkAll {H : Type} : List (DataW H) → Nat
  | [] => 0
  | d :: r => uptoBulk d + uptoBulkAll r
def uptoBulkEntries {H : Type} : List (Lit × DataW H) → Nat
  | [] => 0
  | x :: r => uptoBulkEntry x + uptoBulkEntries r
def uptoBulkEntry {H : Type} : Lit × DataW H → Nat
  | (.string bytes, d) => bytes.length + uptoBulk d + 1
  | (_, d) => uptoBulk d + 1
 end
def uptoSmall : (H : Type) → List (DataW H) → Bool := fun _ ds => decide (uptoBulkAll ds ≤ 1048576)
def OpenSpec.upto (s : _root_.Go.ChangeSpec) : _root_.Go.OpenSpec := { _root_.Go.OpenSpec.ofChange s with cond := some uptoSmall }

/-- 'bartizanlaw37.TermGrows', WHERE WHAT IT READS IS OF BULK AT MOST 1048576: true; the input reads as it did. -/
def termGrowsUptoRow : OpenClaim := { program := "ytcgcjklpilbndaa", sum := "b30461d87c234f6bc46f7365dbb736a8ef04660bdf45430729b68db022df604e", func := "bartizan/bartizanlaw37.TermGrows", spec := "termGrows", plainKeys := false, apart := false, narrowed := true }
def TermGrowsUptoSaid : Prop := termGrowsUptoRow.holds Try.pinned (OpenSpec.upto termGrowsSpec)

/-- 'bartizanlaw37.TermForges', WHERE WHAT IT READS IS OF BULK AT MOST 1048576: true; the input reads as it did. -/
def termForgesUptoRow : OpenClaim := { program := "ytcgcjklpilbndaa", sum := "b30461d87c234f6bc46f7365dbb736a8ef04660bdf45430729b68db022df604e", func := "bartizan/bartizanlaw37.TermForges", spec := "termForges", plainKeys := false, apart := false, narrowed := true }
def TermForgesUptoSaid : Prop := termForgesUptoRow.holds Try.pinned (OpenSpec.upto termForgesSpec)

/-- 'bartizanlaw12.ReceiptTexts', WHERE WHAT IT READS IS OF BULK AT MOST 1048576: true; the input reads as it did. -/
def receiptTextsUptoRow : OpenClaim := { program := "ytcgcjklpilbndaa", sum := "b30461d87c234f6bc46f7365dbb736a8ef04660bdf45430729b68db022df604e", func := "bartizan/bartizanlaw12.ReceiptTexts", spec := "receiptTexts", plainKeys := false, apart := false, narrowed := true }
def ReceiptTextsUptoSaid : Prop := receiptTextsUptoRow.holds Try.pinned (OpenSpec.upto receiptTextsSpec)

/-- 'bartizanlaw12.ReceiptBytes', WHERE WHAT IT READS IS OF BULK AT MOST 1048576: true; the input reads as it did. -/
def receiptBytesUptoRow : OpenClaim := { program := "ytcgcjklpilbndaa", sum := "b30461d87c234f6bc46f7365dbb736a8ef04660bdf45430729b68db022df604e", func := "bartizan/bartizanlaw12.ReceiptBytes", spec := "receiptBytes", plainKeys := false, apart := false, narrowed := true }
def ReceiptBytesUptoSaid : Prop := receiptBytesUptoRow.holds Try.pinned (OpenSpec.upto receiptBytesSpec)

/-- 'bartizanlaw37.TermJoins', WHERE WHAT IT READS IS OF BULK AT MOST 1048576: true; the input reads as it did. -/
def termJoinsUptoRow : OpenClaim := { program := "ytcgcjklpilbndaa", sum := "b30461d87c234f6bc46f7365dbb736a8ef04660bdf45430729b68db022df604e", func := "bartizan/bartizanlaw37.TermJoins", spec := "termJoins", plainKeys := false, apart := false, narrowed := true }
def TermJoinsUptoSaid : Prop := termJoinsUptoRow.holds Try.pinned (OpenSpec.upto termJoinsSpec)

/-- 'bartizanlaw29.NetPlays', WHERE WHAT IT READS IS OF BULK AT MOST 1048576: true; the input reads as it did. -/
def netPlaysUptoRow : OpenClaim := { program := "ytcgcjklpilbndaa", sum := "b30461d87c234f6bc46f7365dbb736a8ef04660bdf45430729b68db022df604e", func := "bartizan/bartizanlaw29.NetPlays", spec := "netPlays", plainKeys := false, apart := false, narrowed := true }
def NetPlaysUptoSaid : Prop := netPlaysUptoRow.holds Try.pinned (OpenSpec.upto netPlaysSpec)

/-- 'bartizanlaw29.NetNobody', WHERE WHAT IT READS IS OF BULK AT MOST 1048576: true; the input reads as it did. -/
def netNobodyUptoRow : OpenClaim := { program := "ytcgcjklpilbndaa", sum := "b30461d87c234f6bc46f7365dbb736a8ef04660bdf45430729b68db022df604e", func := "bartizan/bartizanlaw29.NetNobody", spec := "netNobody", plainKeys := false, apart := false, narrowed := true }
def NetNobodyUptoSaid : Prop := netNobodyUptoRow.holds Try.pinned (OpenSpec.upto netNobodySpec)

/-- 'bartizanlaw28.TalkPuts', WHERE WHAT IT READS IS OF BULK AT MOST 1048576: true; the input reads as it did. -/
def talkPutsUptoRow : OpenClaim := { program := "ytcgcjklpilbndaa", sum := "b30461d87c234f6bc46f7365dbb736a8ef04660bdf45430729b68db022df604e", func := "bartizan/bartizanlaw28.TalkPuts", spec := "talkPuts", plainKeys := false, apart := false, narrowed := true }
def TalkPutsUptoSaid : Prop := talkPutsUptoRow.holds Try.pinned (OpenSpec.upto talkPutsSpec)

/-- 'bartizanlaw28.TalkGets', WHERE WHAT IT READS IS OF BULK AT MOST 1048576: true; the input reads as it did. -/
def talkGetsUptoRow : OpenClaim := { program := "ytcgcjklpilbndaa", sum := "b30461d87c234f6bc46f7365dbb736a8ef04660bdf45430729b68db022df604e", func := "bartizan/bartizanlaw28.TalkGets", spec := "talkGets", plainKeys := false, apart := false, narrowed := true }
def TalkGetsUptoSaid : Prop := talkGetsUptoRow.holds Try.pinned (OpenSpec.upto talkGetsSpec)

end Rows
end Go.Proofs.Ytcgcjklpilbndaa
