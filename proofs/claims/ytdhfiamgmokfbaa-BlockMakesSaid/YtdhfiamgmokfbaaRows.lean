/-
  No cell of these rows narrows 'for every input' (looked for: loops, veiled, ifaces, maps, wideKeys, modest, calm, conditions, laid).
  DERIVED. THE GIVEN ROWS OF THIS SEAT. 15 by the template 'for every input the law returns true; each argument reads behind the call as it read before'; 0 by the template 'total and deterministic' (their statements: YtdhfiamgmokfbaaTotals.lean).
  GIVEN WITH THE SEED: the statements are not yours to turn. If you find one false, say at which input.
  Laid BY PROGRAM, IN A SANDBOX (cutbox-rows.mjs): the forced cells as the released guide's own fill.sh prints them over the translation aef7ed3b02374ef6… (all of the seat's roots in one cut). By AI agents, Wed Nov 11 2026. No macro, syntax, notation, axiom, sorry.
-/
import Derived.Test.YtdhfiamgmokfbaaChecked
import GoSem.Claim
import GoSem.ClaimJoined
import GoSem.ClaimMapViews
import Derived.JoinedTies
import Derived.KernelRfl
namespace Go.Proofs.Ytdhfiamgmokfbaa
/- THE CELL 'sum', in the pinned program and in every row, IS THE sha256 OF THE DUMP (.gsa) THAT YtdhfiamgmokfbaaProg.lean LOADS. Nothing in Lean hashes anything: it is a label: what it is worth is what the hold of that sum in a sandbox is worth. -/
noncomputable def Try.pinned : Pinned := { name := "ytdhfiamgmokfbaa", sum := "aef7ed3b02374ef6fa0760585a9208b21db4d3bdf22de9809e42c0e134887384", checked := Try.checked }
namespace Rows
def none {H : Type} : Left H := { results := [], args := [] }

/-- 'bartizanlaw13.SecretShelves': WHATEVER THE INPUT: true; the input reads as it did. -/
def secretShelvesSpec : ChangeSpec := { name := "secretShelves", fn := fun _ => fun
  | [d1, d2, d3] => { results := [.lit (.bool true)], args := [d1, d2, d3] }
  | _ => none }
def secretShelvesRow : OpenClaim := { program := "ytdhfiamgmokfbaa", sum := "aef7ed3b02374ef6fa0760585a9208b21db4d3bdf22de9809e42c0e134887384", func := "bartizan/bartizanlaw13.SecretShelves", spec := "secretShelves", apart := false }
def SecretShelvesSaid : Prop := secretShelvesRow.holds Try.pinned (OpenSpec.ofChange secretShelvesSpec)

/-- ITS FALSE NEIGHBOUR: 'it returns false'. Refute it at one input. -/
def secretShelvesWrong : ChangeSpec := { name := "secretShelves", fn := fun _ => fun
  | [d1, d2, d3] => { results := [.lit (.bool false)], args := [d1, d2, d3] }
  | _ => none }
def SecretShelvesWrongFalsely : Prop := secretShelvesRow.holds Try.pinned (OpenSpec.ofChange secretShelvesWrong)

/-- 'bartizanlaw04.LamportSigns': WHATEVER THE INPUT: true; the input reads as it did. -/
def lamportSignsSpec : ChangeSpec := { name := "lamportSigns", fn := fun _ => fun
  | [d1, d2] => { results := [.lit (.bool true)], args := [d1, d2] }
  | _ => none }
def lamportSignsRow : OpenClaim := { program := "ytdhfiamgmokfbaa", sum := "aef7ed3b02374ef6fa0760585a9208b21db4d3bdf22de9809e42c0e134887384", func := "bartizan/bartizanlaw04.LamportSigns", spec := "lamportSigns", apart := false }
def LamportSignsSaid : Prop := lamportSignsRow.holds Try.pinned (OpenSpec.ofChange lamportSignsSpec)

/-- ITS FALSE NEIGHBOUR: 'it returns false'. Refute it at one input. -/
def lamportSignsWrong : ChangeSpec := { name := "lamportSigns", fn := fun _ => fun
  | [d1, d2] => { results := [.lit (.bool false)], args := [d1, d2] }
  | _ => none }
def LamportSignsWrongFalsely : Prop := lamportSignsRow.holds Try.pinned (OpenSpec.ofChange lamportSignsWrong)

/-- 'bartizanlaw04.LamportBacks': WHATEVER THE INPUT: true; the input reads as it did. -/
def lamportBacksSpec : ChangeSpec := { name := "lamportBacks", fn := fun _ => fun
  | [d1, d2, d3] => { results := [.lit (.bool true)], args := [d1, d2, d3] }
  | _ => none }
def lamportBacksRow : OpenClaim := { program := "ytdhfiamgmokfbaa", sum := "aef7ed3b02374ef6fa0760585a9208b21db4d3bdf22de9809e42c0e134887384", func := "bartizan/bartizanlaw04.LamportBacks", spec := "lamportBacks", apart := false }
def LamportBacksSaid : Prop := lamportBacksRow.holds Try.pinned (OpenSpec.ofChange lamportBacksSpec)

/-- ITS FALSE NEIGHBOUR: 'it returns false'. Refute it at one input. -/
def lamportBacksWrong : ChangeSpec := { name := "lamportBacks", fn := fun _ => fun
  | [d1, d2, d3] => { results := [.lit (.bool false)], args := [d1, d2, d3] }
  | _ => none }
def LamportBacksWrongFalsely : Prop := lamportBacksRow.holds Try.pinned (OpenSpec.ofChange lamportBacksWrong)

/-- 'bartizanlaw04.LamportSecrets': WHATEVER THE INPUT: true; the input reads as it did. -/
def lamportSecretsSpec : ChangeSpec := { name := "lamportSecrets", fn := fun _ => fun
  | [d1, d2, d3] => { results := [.lit (.bool true)], args := [d1, d2, d3] }
  | _ => none }
def lamportSecretsRow : OpenClaim := { program := "ytdhfiamgmokfbaa", sum := "aef7ed3b02374ef6fa0760585a9208b21db4d3bdf22de9809e42c0e134887384", func := "bartizan/bartizanlaw04.LamportSecrets", spec := "lamportSecrets", apart := false }
def LamportSecretsSaid : Prop := lamportSecretsRow.holds Try.pinned (OpenSpec.ofChange lamportSecretsSpec)

/-- ITS FALSE NEIGHBOUR: 'it returns false'. Refute it at one input. -/
def lamportSecretsWrong : ChangeSpec := { name := "lamportSecrets", fn := fun _ => fun
  | [d1, d2, d3] => { results := [.lit (.bool false)], args := [d1, d2, d3] }
  | _ => none }
def LamportSecretsWrongFalsely : Prop := lamportSecretsRow.holds Try.pinned (OpenSpec.ofChange lamportSecretsWrong)

/-- 'bartizanlaw03.MerkleClimbs': WHATEVER THE INPUT: true; the input reads as it did. -/
def merkleClimbsSpec : ChangeSpec := { name := "merkleClimbs", fn := fun _ => fun
  | [d1, d2, d3, d4, d5] => { results := [.lit (.bool true)], args := [d1, d2, d3, d4, d5] }
  | _ => none }
def merkleClimbsRow : OpenClaim := { program := "ytdhfiamgmokfbaa", sum := "aef7ed3b02374ef6fa0760585a9208b21db4d3bdf22de9809e42c0e134887384", func := "bartizan/bartizanlaw03.MerkleClimbs", spec := "merkleClimbs", apart := false }
def MerkleClimbsSaid : Prop := merkleClimbsRow.holds Try.pinned (OpenSpec.ofChange merkleClimbsSpec)

/-- ITS FALSE NEIGHBOUR: 'it returns false'. Refute it at one input. -/
def merkleClimbsWrong : ChangeSpec := { name := "merkleClimbs", fn := fun _ => fun
  | [d1, d2, d3, d4, d5] => { results := [.lit (.bool false)], args := [d1, d2, d3, d4, d5] }
  | _ => none }
def MerkleClimbsWrongFalsely : Prop := merkleClimbsRow.holds Try.pinned (OpenSpec.ofChange merkleClimbsWrong)

/-- 'bartizanlaw03.MerkleRoots': WHATEVER THE INPUT: true; the input reads as it did. -/
def merkleRootsSpec : ChangeSpec := { name := "merkleRoots", fn := fun _ => fun
  | [d1, d2, d3] => { results := [.lit (.bool true)], args := [d1, d2, d3] }
  | _ => none }
def merkleRootsRow : OpenClaim := { program := "ytdhfiamgmokfbaa", sum := "aef7ed3b02374ef6fa0760585a9208b21db4d3bdf22de9809e42c0e134887384", func := "bartizan/bartizanlaw03.MerkleRoots", spec := "merkleRoots", recurses := true, apart := false }
def MerkleRootsSaid : Prop := merkleRootsRow.holds Try.pinned (OpenSpec.ofChange merkleRootsSpec)

/-- ITS FALSE NEIGHBOUR: 'it returns false'. Refute it at one input. -/
def merkleRootsWrong : ChangeSpec := { name := "merkleRoots", fn := fun _ => fun
  | [d1, d2, d3] => { results := [.lit (.bool false)], args := [d1, d2, d3] }
  | _ => none }
def MerkleRootsWrongFalsely : Prop := merkleRootsRow.holds Try.pinned (OpenSpec.ofChange merkleRootsWrong)

/-- 'bartizanlaw03.MerkleChecks': WHATEVER THE INPUT: true; the input reads as it did. -/
def merkleChecksSpec : ChangeSpec := { name := "merkleChecks", fn := fun _ => fun
  | [d] => { results := [.lit (.bool true)], args := [d] }
  | _ => none }
def merkleChecksRow : OpenClaim := { program := "ytdhfiamgmokfbaa", sum := "aef7ed3b02374ef6fa0760585a9208b21db4d3bdf22de9809e42c0e134887384", func := "bartizan/bartizanlaw03.MerkleChecks", spec := "merkleChecks", apart := false }
def MerkleChecksSaid : Prop := merkleChecksRow.holds Try.pinned (OpenSpec.ofChange merkleChecksSpec)

/-- ITS FALSE NEIGHBOUR: 'it returns false'. Refute it at one input. -/
def merkleChecksWrong : ChangeSpec := { name := "merkleChecks", fn := fun _ => fun
  | [d] => { results := [.lit (.bool false)], args := [d] }
  | _ => none }
def MerkleChecksWrongFalsely : Prop := merkleChecksRow.holds Try.pinned (OpenSpec.ofChange merkleChecksWrong)

/-- 'bartizanlaw19.BlockRights': WHATEVER THE INPUT: true; the input reads as it did. -/
def blockRightsSpec : ChangeSpec := { name := "blockRights", fn := fun _ => fun
  | [d] => { results := [.lit (.bool true)], args := [d] }
  | _ => none }
def blockRightsRow : OpenClaim := { program := "ytdhfiamgmokfbaa", sum := "aef7ed3b02374ef6fa0760585a9208b21db4d3bdf22de9809e42c0e134887384", func := "bartizan/bartizanlaw19.BlockRights", spec := "blockRights", apart := false }
def BlockRightsSaid : Prop := blockRightsRow.holds Try.pinned (OpenSpec.ofChange blockRightsSpec)

/-- ITS FALSE NEIGHBOUR: 'it returns false'. Refute it at one input. -/
def blockRightsWrong : ChangeSpec := { name := "blockRights", fn := fun _ => fun
  | [d] => { results := [.lit (.bool false)], args := [d] }
  | _ => none }
def BlockRightsWrongFalsely : Prop := blockRightsRow.holds Try.pinned (OpenSpec.ofChange blockRightsWrong)

/-- 'bartizanlaw19.BlockFull': WHATEVER THE INPUT: true; the input reads as it did. -/
def blockFullSpec : ChangeSpec := { name := "blockFull", fn := fun _ => fun
  | [d] => { results := [.lit (.bool true)], args := [d] }
  | _ => none }
def blockFullRow : OpenClaim := { program := "ytdhfiamgmokfbaa", sum := "aef7ed3b02374ef6fa0760585a9208b21db4d3bdf22de9809e42c0e134887384", func := "bartizan/bartizanlaw19.BlockFull", spec := "blockFull", apart := false }
def BlockFullSaid : Prop := blockFullRow.holds Try.pinned (OpenSpec.ofChange blockFullSpec)

/-- ITS FALSE NEIGHBOUR: 'it returns false'. Refute it at one input. -/
def blockFullWrong : ChangeSpec := { name := "blockFull", fn := fun _ => fun
  | [d] => { results := [.lit (.bool false)], args := [d] }
  | _ => none }
def BlockFullWrongFalsely : Prop := blockFullRow.holds Try.pinned (OpenSpec.ofChange blockFullWrong)

/-- 'bartizanlaw19.BlockMakes': WHATEVER THE INPUT: true; the input reads as it did. -/
def blockMakesSpec : ChangeSpec := { name := "blockMakes", fn := fun _ => fun
  | [d1, d2] => { results := [.lit (.bool true)], args := [d1, d2] }
  | _ => none }
def blockMakesRow : OpenClaim := { program := "ytdhfiamgmokfbaa", sum := "aef7ed3b02374ef6fa0760585a9208b21db4d3bdf22de9809e42c0e134887384", func := "bartizan/bartizanlaw19.BlockMakes", spec := "blockMakes", apart := false }
def BlockMakesSaid : Prop := blockMakesRow.holds Try.pinned (OpenSpec.ofChange blockMakesSpec)

/-- ITS FALSE NEIGHBOUR: 'it returns false'. Refute it at one input. -/
def blockMakesWrong : ChangeSpec := { name := "blockMakes", fn := fun _ => fun
  | [d1, d2] => { results := [.lit (.bool false)], args := [d1, d2] }
  | _ => none }
def BlockMakesWrongFalsely : Prop := blockMakesRow.holds Try.pinned (OpenSpec.ofChange blockMakesWrong)

/-- 'bartizanlaw19.BlockPaths': WHATEVER THE INPUT: true; the input reads as it did. -/
def blockPathsSpec : ChangeSpec := { name := "blockPaths", fn := fun _ => fun
  | [d1, d2, d3, d4] => { results := [.lit (.bool true)], args := [d1, d2, d3, d4] }
  | _ => none }
def blockPathsRow : OpenClaim := { program := "ytdhfiamgmokfbaa", sum := "aef7ed3b02374ef6fa0760585a9208b21db4d3bdf22de9809e42c0e134887384", func := "bartizan/bartizanlaw19.BlockPaths", spec := "blockPaths", apart := false }
def BlockPathsSaid : Prop := blockPathsRow.holds Try.pinned (OpenSpec.ofChange blockPathsSpec)

/-- ITS FALSE NEIGHBOUR: 'it returns false'. Refute it at one input. -/
def blockPathsWrong : ChangeSpec := { name := "blockPaths", fn := fun _ => fun
  | [d1, d2, d3, d4] => { results := [.lit (.bool false)], args := [d1, d2, d3, d4] }
  | _ => none }
def BlockPathsWrongFalsely : Prop := blockPathsRow.holds Try.pinned (OpenSpec.ofChange blockPathsWrong)

/-- 'bartizanlaw05.ManySigns': WHATEVER THE INPUT: true; the input reads as it did. -/
def manySignsSpec : ChangeSpec := { name := "manySigns", fn := fun _ => fun
  | [d1, d2, d3] => { results := [.lit (.bool true)], args := [d1, d2, d3] }
  | _ => none }
def manySignsRow : OpenClaim := { program := "ytdhfiamgmokfbaa", sum := "aef7ed3b02374ef6fa0760585a9208b21db4d3bdf22de9809e42c0e134887384", func := "bartizan/bartizanlaw05.ManySigns", spec := "manySigns", apart := false }
def ManySignsSaid : Prop := manySignsRow.holds Try.pinned (OpenSpec.ofChange manySignsSpec)

/-- ITS FALSE NEIGHBOUR: 'it returns false'. Refute it at one input. -/
def manySignsWrong : ChangeSpec := { name := "manySigns", fn := fun _ => fun
  | [d1, d2, d3] => { results := [.lit (.bool false)], args := [d1, d2, d3] }
  | _ => none }
def ManySignsWrongFalsely : Prop := manySignsRow.holds Try.pinned (OpenSpec.ofChange manySignsWrong)

/-- 'bartizanlaw05.ManyNews': WHATEVER THE INPUT: true; the input reads as it did. -/
def manyNewsSpec : ChangeSpec := { name := "manyNews", fn := fun _ => fun
  | [d1, d2, d3] => { results := [.lit (.bool true)], args := [d1, d2, d3] }
  | _ => none }
def manyNewsRow : OpenClaim := { program := "ytdhfiamgmokfbaa", sum := "aef7ed3b02374ef6fa0760585a9208b21db4d3bdf22de9809e42c0e134887384", func := "bartizan/bartizanlaw05.ManyNews", spec := "manyNews", apart := false }
def ManyNewsSaid : Prop := manyNewsRow.holds Try.pinned (OpenSpec.ofChange manyNewsSpec)

/-- ITS FALSE NEIGHBOUR: 'it returns false'. Refute it at one input. -/
def manyNewsWrong : ChangeSpec := { name := "manyNews", fn := fun _ => fun
  | [d1, d2, d3] => { results := [.lit (.bool false)], args := [d1, d2, d3] }
  | _ => none }
def ManyNewsWrongFalsely : Prop := manyNewsRow.holds Try.pinned (OpenSpec.ofChange manyNewsWrong)

/-- 'bartizanlaw05.ManyNobody': WHATEVER THE INPUT: true; the input reads as it did. -/
def manyNobodySpec : ChangeSpec := { name := "manyNobody", fn := fun _ => fun
  | [d1, d2] => { results := [.lit (.bool true)], args := [d1, d2] }
  | _ => none }
def manyNobodyRow : OpenClaim := { program := "ytdhfiamgmokfbaa", sum := "aef7ed3b02374ef6fa0760585a9208b21db4d3bdf22de9809e42c0e134887384", func := "bartizan/bartizanlaw05.ManyNobody", spec := "manyNobody", apart := false }
def ManyNobodySaid : Prop := manyNobodyRow.holds Try.pinned (OpenSpec.ofChange manyNobodySpec)

/-- ITS FALSE NEIGHBOUR: 'it returns false'. Refute it at one input. -/
def manyNobodyWrong : ChangeSpec := { name := "manyNobody", fn := fun _ => fun
  | [d1, d2] => { results := [.lit (.bool false)], args := [d1, d2] }
  | _ => none }
def ManyNobodyWrongFalsely : Prop := manyNobodyRow.holds Try.pinned (OpenSpec.ofChange manyNobodyWrong)

/-- 'bartizanlaw12.ReceiptSigns': WHATEVER THE INPUT: true; the input reads as it did. -/
def receiptSignsSpec : ChangeSpec := { name := "receiptSigns", fn := fun _ => fun
  | [d1, d2, d3, d4] => { results := [.lit (.bool true)], args := [d1, d2, d3, d4] }
  | _ => none }
def receiptSignsRow : OpenClaim := { program := "ytdhfiamgmokfbaa", sum := "aef7ed3b02374ef6fa0760585a9208b21db4d3bdf22de9809e42c0e134887384", func := "bartizan/bartizanlaw12.ReceiptSigns", spec := "receiptSigns", apart := false }
def ReceiptSignsSaid : Prop := receiptSignsRow.holds Try.pinned (OpenSpec.ofChange receiptSignsSpec)

/-- ITS FALSE NEIGHBOUR: 'it returns false'. Refute it at one input. -/
def receiptSignsWrong : ChangeSpec := { name := "receiptSigns", fn := fun _ => fun
  | [d1, d2, d3, d4] => { results := [.lit (.bool false)], args := [d1, d2, d3, d4] }
  | _ => none }
def ReceiptSignsWrongFalsely : Prop := receiptSignsRow.holds Try.pinned (OpenSpec.ofChange receiptSignsWrong)

/- THE SECOND FORM. 'bulk': how many values and letters a reading holds, each counted each time it is reached (what is shared counts as often as it is met; a slice's spare places count too). A statement '..UptoSaid' is the law's where the arguments, and the package variables that the reading takes, are together of bulk at most 1048576: NARROWER than '..Said'. Prove '..Said' where nothing that the law and all that it calls make is longer than what came in: it says more and counts as full. Else prove '..UptoSaid'. A law counts once. -/
mutual
def uptoBulk {H : Type} : DataW H → Nat
  | .lit (.string bytes) => bytes.length + 1
  | .lit _ => 1
  | .nil => 1
  | .ptr d => uptoBulk d + 1
  | .slice elems spare => uptoBulkAll elems + uptoBulkAll spare + 1
  | .agg parts => uptoBulkAll parts + 1
  | .iface _ d => uptoBulk d + 1
  | .map entries => uptoBulkEntries entries + 1
  | .held _ => 1
def uptoBulkAll {H : Type} : List (DataW H) → Nat
  | [] => 0
  | d :: r => uptoBulk d + uptoBulkAll r
def uptoBulkEntries {H : Type} : List (Lit × DataW H) → Nat
  | [] => 0
  | x :: r => uptoBulkEntry x + uptoBulkEntries r
def uptoBulkEntry {H : Type} : Lit × DataW H → Nat
  | (.string bytes, d) => bytes.length + uptoBulk d + 1
  | (_, d) => uptoBulk d + 1
 end
def uptoSmall : (H : Type) → List (DataW H) → Bool := fun _ ds => decide (uptoBulkAll ds ≤ 1048576)
def OpenSpec.upto (s : _root_.Go.ChangeSpec) : _root_.Go.OpenSpec := { _root_.Go.OpenSpec.ofChange s with cond := some uptoSmall }

/-- 'bartizanlaw13.SecretShelves', WHERE WHAT IT READS IS OF BULK AT MOST 1048576: true; the input reads as it did. -/
def secretShelvesUptoRow : OpenClaim := { program := "ytdhfiamgmokfbaa", sum := "aef7ed3b02374ef6fa0760585a9208b21db4d3bdf22de9809e42c0e134887384", func := "bartizan/bartizanlaw13.SecretShelves", spec := "secretShelves", apart := false, narrowed := true }
def SecretShelvesUptoSaid : Prop := secretShelvesUptoRow.holds Try.pinned (OpenSpec.upto secretShelvesSpec)

/-- 'bartizanlaw04.LamportSigns', WHERE WHAT IT READS IS OF BULK AT MOST 1048576: true; the input reads as it did. -/
def lamportSignsUptoRow : OpenClaim := { program := "ytdhfiamgmokfbaa", sum := "aef7ed3b02374ef6fa0760585a9208b21db4d3bdf22de9809e42c0e134887384", func := "bartizan/bartizanlaw04.LamportSigns", spec := "lamportSigns", apart := false, narrowed := true }
def LamportSignsUptoSaid : Prop := lamportSignsUptoRow.holds Try.pinned (OpenSpec.upto lamportSignsSpec)

/-- 'bartizanlaw04.LamportBacks', WHERE WHAT IT READS IS OF BULK AT MOST 1048576: true; the input reads as it did. -/
def lamportBacksUptoRow : OpenClaim := { program := "ytdhfiamgmokfbaa", sum := "aef7ed3b02374ef6fa0760585a9208b21db4d3bdf22de9809e42c0e134887384", func := "bartizan/bartizanlaw04.LamportBacks", spec := "lamportBacks", apart := false, narrowed := true }
def LamportBacksUptoSaid : Prop := lamportBacksUptoRow.holds Try.pinned (OpenSpec.upto lamportBacksSpec)

/-- 'bartizanlaw04.LamportSecrets', WHERE WHAT IT READS IS OF BULK AT MOST 1048576: true; the input reads as it did. -/
def lamportSecretsUptoRow : OpenClaim := { program := "ytdhfiamgmokfbaa", sum := "aef7ed3b02374ef6fa0760585a9208b21db4d3bdf22de9809e42c0e134887384", func := "bartizan/bartizanlaw04.LamportSecrets", spec := "lamportSecrets", apart := false, narrowed := true }
def LamportSecretsUptoSaid : Prop := lamportSecretsUptoRow.holds Try.pinned (OpenSpec.upto lamportSecretsSpec)

/-- 'bartizanlaw03.MerkleClimbs', WHERE WHAT IT READS IS OF BULK AT MOST 1048576: true; the input reads as it did. -/
def merkleClimbsUptoRow : OpenClaim := { program := "ytdhfiamgmokfbaa", sum := "aef7ed3b02374ef6fa0760585a9208b21db4d3bdf22de9809e42c0e134887384", func := "bartizan/bartizanlaw03.MerkleClimbs", spec := "merkleClimbs", apart := false, narrowed := true }
def MerkleClimbsUptoSaid : Prop := merkleClimbsUptoRow.holds Try.pinned (OpenSpec.upto merkleClimbsSpec)

/-- 'bartizanlaw03.MerkleRoots', WHERE WHAT IT READS IS OF BULK AT MOST 1048576: true; the input reads as it did. -/
def merkleRootsUptoRow : OpenClaim := { program := "ytdhfiamgmokfbaa", sum := "aef7ed3b02374ef6fa0760585a9208b21db4d3bdf22de9809e42c0e134887384", func := "bartizan/bartizanlaw03.MerkleRoots", spec := "merkleRoots", recurses := true, apart := false, narrowed := true }
def MerkleRootsUptoSaid : Prop := merkleRootsUptoRow.holds Try.pinned (OpenSpec.upto merkleRootsSpec)

/-- 'bartizanlaw03.MerkleChecks', WHERE WHAT IT READS IS OF BULK AT MOST 1048576: true; the input reads as it did. -/
def merkleChecksUptoRow : OpenClaim := { program := "ytdhfiamgmokfbaa", sum := "aef7ed3b02374ef6fa0760585a9208b21db4d3bdf22de9809e42c0e134887384", func := "bartizan/bartizanlaw03.MerkleChecks", spec := "merkleChecks", apart := false, narrowed := true }
def MerkleChecksUptoSaid : Prop := merkleChecksUptoRow.holds Try.pinned (OpenSpec.upto merkleChecksSpec)

/-- 'bartizanlaw19.BlockRights', WHERE WHAT IT READS IS OF BULK AT MOST 1048576: true; the input reads as it did. -/
def blockRightsUptoRow : OpenClaim := { program := "ytdhfiamgmokfbaa", sum := "aef7ed3b02374ef6fa0760585a9208b21db4d3bdf22de9809e42c0e134887384", func := "bartizan/bartizanlaw19.BlockRights", spec := "blockRights", apart := false, narrowed := true }
def BlockRightsUptoSaid : Prop := blockRightsUptoRow.holds Try.pinned (OpenSpec.upto blockRightsSpec)

/-- 'bartizanlaw19.BlockFull', WHERE WHAT IT READS IS OF BULK AT MOST 1048576: true; the input reads as it did. -/
def blockFullUptoRow : OpenClaim := { program := "ytdhfiamgmokfbaa", sum := "aef7ed3b02374ef6fa0760585a9208b21db4d3bdf22de9809e42c0e134887384", func := "bartizan/bartizanlaw19.BlockFull", spec := "blockFull", apart := false, narrowed := true }
def BlockFullUptoSaid : Prop := blockFullUptoRow.holds Try.pinned (OpenSpec.upto blockFullSpec)

/-- 'bartizanlaw19.BlockMakes', WHERE WHAT IT READS IS OF BULK AT MOST 1048576: true; the input reads as it did. -/
def blockMakesUptoRow : OpenClaim := { program := "ytdhfiamgmokfbaa", sum := "aef7ed3b02374ef6fa0760585a9208b21db4d3bdf22de9809e42c0e134887384", func := "bartizan/bartizanlaw19.BlockMakes", spec := "blockMakes", apart := false, narrowed := true }
def BlockMakesUptoSaid : Prop := blockMakesUptoRow.holds Try.pinned (OpenSpec.upto blockMakesSpec)

/-- 'bartizanlaw19.BlockPaths', WHERE WHAT IT READS IS OF BULK AT MOST 1048576: true; the input reads as it did. -/
def blockPathsUptoRow : OpenClaim := { program := "ytdhfiamgmokfbaa", sum := "aef7ed3b02374ef6fa0760585a9208b21db4d3bdf22de9809e42c0e134887384", func := "bartizan/bartizanlaw19.BlockPaths", spec := "blockPaths", apart := false, narrowed := true }
def BlockPathsUptoSaid : Prop := blockPathsUptoRow.holds Try.pinned (OpenSpec.upto blockPathsSpec)

/-- 'bartizanlaw05.ManySigns', WHERE WHAT IT READS IS OF BULK AT MOST 1048576: true; the input reads as it did. -/
def manySignsUptoRow : OpenClaim := { program := "ytdhfiamgmokfbaa", sum := "aef7ed3b02374ef6fa0760585a9208b21db4d3bdf22de9809e42c0e134887384", func := "bartizan/bartizanlaw05.ManySigns", spec := "manySigns", apart := false, narrowed := true }
def ManySignsUptoSaid : Prop := manySignsUptoRow.holds Try.pinned (OpenSpec.upto manySignsSpec)

/-- 'bartizanlaw05.ManyNews', WHERE WHAT IT READS IS OF BULK AT MOST 1048576: true; the input reads as it did. -/
def manyNewsUptoRow : OpenClaim := { program := "ytdhfiamgmokfbaa", sum := "aef7ed3b02374ef6fa0760585a9208b21db4d3bdf22de9809e42c0e134887384", func := "bartizan/bartizanlaw05.ManyNews", spec := "manyNews", apart := false, narrowed := true }
def ManyNewsUptoSaid : Prop := manyNewsUptoRow.holds Try.pinned (OpenSpec.upto manyNewsSpec)

/-- 'bartizanlaw05.ManyNobody', WHERE WHAT IT READS IS OF BULK AT MOST 1048576: true; the input reads as it did. -/
def manyNobodyUptoRow : OpenClaim := { program := "ytdhfiamgmokfbaa", sum := "aef7ed3b02374ef6fa0760585a9208b21db4d3bdf22de9809e42c0e134887384", func := "bartizan/bartizanlaw05.ManyNobody", spec := "manyNobody", apart := false, narrowed := true }
def ManyNobodyUptoSaid : Prop := manyNobodyUptoRow.holds Try.pinned (OpenSpec.upto manyNobodySpec)

/-- 'bartizanlaw12.ReceiptSigns', WHERE WHAT IT READS IS OF BULK AT MOST 1048576: true; the input reads as it did. -/
def receiptSignsUptoRow : OpenClaim := { program := "ytdhfiamgmokfbaa", sum := "aef7ed3b02374ef6fa0760585a9208b21db4d3bdf22de9809e42c0e134887384", func := "bartizan/bartizanlaw12.ReceiptSigns", spec := "receiptSigns", apart := false, narrowed := true }
def ReceiptSignsUptoSaid : Prop := receiptSignsUptoRow.holds Try.pinned (OpenSpec.upto receiptSignsSpec)

end Rows
end Go.Proofs.Ytdhfiamgmokfbaa
