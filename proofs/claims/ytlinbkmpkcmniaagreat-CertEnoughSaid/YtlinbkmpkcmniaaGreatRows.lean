/-
  No cell of these rows narrows 'for every input' (looked for: loops, veiled, ifaces, maps, wideKeys, modest, calm, conditions, laid).
  DERIVED. THE GIVEN ROWS OF THIS SEAT. 14 by the template 'for every input the law returns true; each argument reads behind the call as it read before'; 0 by the template 'total and deterministic' (their statements: YtlinbkmpkcmniaaGreatTotals.lean).
  GIVEN WITH THE SEED: the statements are not yours to turn. If you find one false, say at which input.
  Laid BY PROGRAM, IN A SANDBOX (cutbox-rows.mjs): the forced cells as the released guide's own fill.sh prints them over the translation 30502e22b1a082e9… (all of the seat's roots in one cut). By AI agents, Wed Nov 11 2026. No macro, syntax, notation, axiom, sorry.
-/
import Derived.Test.YtlinbkmpkcmniaaGreatChecked
import GoSem.Claim
import GoSem.ClaimJoined
import GoSem.ClaimMapViews
import Derived.JoinedTies
import Derived.KernelRfl
namespace Go.Proofs.YtlinbkmpkcmniaaGreat
/- THE CELL 'sum', in the pinned program and in every row, IS THE sha256 OF THE DUMP (.gsa) THAT YtlinbkmpkcmniaaGreatProg.lean LOADS. Nothing in Lean hashes anything: it is a label: what it is worth is what the hold of that sum in a sandbox is worth. -/
noncomputable def Tryz.pinned : Pinned := { name := "ytlinbkmpkcmniaagreat", sum := "30502e22b1a082e9f95e871254ad98a97cb36da86d3585499dd74a8c7b3c62fe", checked := Tryz.checked }
namespace Rows
def none {H : Type} : Left H := { results := [], args := [] }

/-- 'meniscuslaw07.CertTells': WHATEVER THE INPUT: true; the input reads as it did. -/
def certTellsSpec : ChangeSpec := { name := "certTells", fn := fun _ => fun
  | [d1, d2, d3, d4] => { results := [.lit (.bool true)], args := [d1, d2, d3, d4] }
  | _ => none }
def certTellsRow : OpenClaim := { program := "ytlinbkmpkcmniaagreat", sum := "30502e22b1a082e9f95e871254ad98a97cb36da86d3585499dd74a8c7b3c62fe", func := "meniscus/meniscuslaw07.CertTells", spec := "certTells", unfollowed := true, recurses := true, plainKeys := false, apart := false }
def CertTellsSaid : Prop := certTellsRow.holds Tryz.pinned (OpenSpec.ofChange certTellsSpec)

/-- ITS FALSE NEIGHBOUR: 'it returns false'. Refute it at one input. -/
def certTellsWrong : ChangeSpec := { name := "certTells", fn := fun _ => fun
  | [d1, d2, d3, d4] => { results := [.lit (.bool false)], args := [d1, d2, d3, d4] }
  | _ => none }
def CertTellsWrongFalsely : Prop := certTellsRow.holds Tryz.pinned (OpenSpec.ofChange certTellsWrong)

/-- 'meniscuslaw07.CertTruth': WHATEVER THE INPUT: true; the input reads as it did. -/
def certTruthSpec : ChangeSpec := { name := "certTruth", fn := fun _ => fun
  | [d1, d2, d3, d4, d5, d6] => { results := [.lit (.bool true)], args := [d1, d2, d3, d4, d5, d6] }
  | _ => none }
def certTruthRow : OpenClaim := { program := "ytlinbkmpkcmniaagreat", sum := "30502e22b1a082e9f95e871254ad98a97cb36da86d3585499dd74a8c7b3c62fe", func := "meniscus/meniscuslaw07.CertTruth", spec := "certTruth", unfollowed := true, recurses := true, plainKeys := false, apart := false }
def CertTruthSaid : Prop := certTruthRow.holds Tryz.pinned (OpenSpec.ofChange certTruthSpec)

/-- ITS FALSE NEIGHBOUR: 'it returns false'. Refute it at one input. -/
def certTruthWrong : ChangeSpec := { name := "certTruth", fn := fun _ => fun
  | [d1, d2, d3, d4, d5, d6] => { results := [.lit (.bool false)], args := [d1, d2, d3, d4, d5, d6] }
  | _ => none }
def CertTruthWrongFalsely : Prop := certTruthRow.holds Tryz.pinned (OpenSpec.ofChange certTruthWrong)

/-- 'meniscuslaw07.CertEven': WHATEVER THE INPUT: true; the input reads as it did. -/
def certEvenSpec : ChangeSpec := { name := "certEven", fn := fun _ => fun
  | [d1, d2, d3, d4] => { results := [.lit (.bool true)], args := [d1, d2, d3, d4] }
  | _ => none }
def certEvenRow : OpenClaim := { program := "ytlinbkmpkcmniaagreat", sum := "30502e22b1a082e9f95e871254ad98a97cb36da86d3585499dd74a8c7b3c62fe", func := "meniscus/meniscuslaw07.CertEven", spec := "certEven", unfollowed := true, recurses := true, plainKeys := false, apart := false }
def CertEvenSaid : Prop := certEvenRow.holds Tryz.pinned (OpenSpec.ofChange certEvenSpec)

/-- ITS FALSE NEIGHBOUR: 'it returns false'. Refute it at one input. -/
def certEvenWrong : ChangeSpec := { name := "certEven", fn := fun _ => fun
  | [d1, d2, d3, d4] => { results := [.lit (.bool false)], args := [d1, d2, d3, d4] }
  | _ => none }
def CertEvenWrongFalsely : Prop := certEvenRow.holds Tryz.pinned (OpenSpec.ofChange certEvenWrong)

/-- 'meniscuslaw07.CertScales': WHATEVER THE INPUT: true; the input reads as it did. -/
def certScalesSpec : ChangeSpec := { name := "certScales", fn := fun _ => fun
  | [d1, d2, d3, d4, d5, d6, d7] => { results := [.lit (.bool true)], args := [d1, d2, d3, d4, d5, d6, d7] }
  | _ => none }
def certScalesRow : OpenClaim := { program := "ytlinbkmpkcmniaagreat", sum := "30502e22b1a082e9f95e871254ad98a97cb36da86d3585499dd74a8c7b3c62fe", func := "meniscus/meniscuslaw07.CertScales", spec := "certScales", unfollowed := true, recurses := true, plainKeys := false, apart := false }
def CertScalesSaid : Prop := certScalesRow.holds Tryz.pinned (OpenSpec.ofChange certScalesSpec)

/-- ITS FALSE NEIGHBOUR: 'it returns false'. Refute it at one input. -/
def certScalesWrong : ChangeSpec := { name := "certScales", fn := fun _ => fun
  | [d1, d2, d3, d4, d5, d6, d7] => { results := [.lit (.bool false)], args := [d1, d2, d3, d4, d5, d6, d7] }
  | _ => none }
def CertScalesWrongFalsely : Prop := certScalesRow.holds Tryz.pinned (OpenSpec.ofChange certScalesWrong)

/-- 'meniscuslaw07.CertHeights': WHATEVER THE INPUT: true; the input reads as it did. -/
def certHeightsSpec : ChangeSpec := { name := "certHeights", fn := fun _ => fun
  | [d1, d2] => { results := [.lit (.bool true)], args := [d1, d2] }
  | _ => none }
def certHeightsRow : OpenClaim := { program := "ytlinbkmpkcmniaagreat", sum := "30502e22b1a082e9f95e871254ad98a97cb36da86d3585499dd74a8c7b3c62fe", func := "meniscus/meniscuslaw07.CertHeights", spec := "certHeights", unfollowed := true, recurses := true, plainKeys := false, apart := false }
def CertHeightsSaid : Prop := certHeightsRow.holds Tryz.pinned (OpenSpec.ofChange certHeightsSpec)

/-- ITS FALSE NEIGHBOUR: 'it returns false'. Refute it at one input. -/
def certHeightsWrong : ChangeSpec := { name := "certHeights", fn := fun _ => fun
  | [d1, d2] => { results := [.lit (.bool false)], args := [d1, d2] }
  | _ => none }
def CertHeightsWrongFalsely : Prop := certHeightsRow.holds Tryz.pinned (OpenSpec.ofChange certHeightsWrong)

/-- 'meniscuslaw07.CertKeeps': WHATEVER THE INPUT: true; the input reads as it did. -/
def certKeepsSpec : ChangeSpec := { name := "certKeeps", fn := fun _ => fun
  | [d1, d2, d3] => { results := [.lit (.bool true)], args := [d1, d2, d3] }
  | _ => none }
def certKeepsRow : OpenClaim := { program := "ytlinbkmpkcmniaagreat", sum := "30502e22b1a082e9f95e871254ad98a97cb36da86d3585499dd74a8c7b3c62fe", func := "meniscus/meniscuslaw07.CertKeeps", spec := "certKeeps", unfollowed := true, recurses := true, plainKeys := false, apart := false }
def CertKeepsSaid : Prop := certKeepsRow.holds Tryz.pinned (OpenSpec.ofChange certKeepsSpec)

/-- ITS FALSE NEIGHBOUR: 'it returns false'. Refute it at one input. -/
def certKeepsWrong : ChangeSpec := { name := "certKeeps", fn := fun _ => fun
  | [d1, d2, d3] => { results := [.lit (.bool false)], args := [d1, d2, d3] }
  | _ => none }
def CertKeepsWrongFalsely : Prop := certKeepsRow.holds Tryz.pinned (OpenSpec.ofChange certKeepsWrong)

/-- 'meniscuslaw07.CertDays': WHATEVER THE INPUT: true; the input reads as it did. -/
def certDaysSpec : ChangeSpec := { name := "certDays", fn := fun _ => fun
  | [d1, d2, d3, d4, d5] => { results := [.lit (.bool true)], args := [d1, d2, d3, d4, d5] }
  | _ => none }
def certDaysRow : OpenClaim := { program := "ytlinbkmpkcmniaagreat", sum := "30502e22b1a082e9f95e871254ad98a97cb36da86d3585499dd74a8c7b3c62fe", func := "meniscus/meniscuslaw07.CertDays", spec := "certDays", unfollowed := true, recurses := true, plainKeys := false, apart := false }
def CertDaysSaid : Prop := certDaysRow.holds Tryz.pinned (OpenSpec.ofChange certDaysSpec)

/-- ITS FALSE NEIGHBOUR: 'it returns false'. Refute it at one input. -/
def certDaysWrong : ChangeSpec := { name := "certDays", fn := fun _ => fun
  | [d1, d2, d3, d4, d5] => { results := [.lit (.bool false)], args := [d1, d2, d3, d4, d5] }
  | _ => none }
def CertDaysWrongFalsely : Prop := certDaysRow.holds Tryz.pinned (OpenSpec.ofChange certDaysWrong)

/-- 'meniscuslaw07.CertEasier': WHATEVER THE INPUT: true; the input reads as it did. -/
def certEasierSpec : ChangeSpec := { name := "certEasier", fn := fun _ => fun
  | [d1, d2, d3, d4, d5, d6] => { results := [.lit (.bool true)], args := [d1, d2, d3, d4, d5, d6] }
  | _ => none }
def certEasierRow : OpenClaim := { program := "ytlinbkmpkcmniaagreat", sum := "30502e22b1a082e9f95e871254ad98a97cb36da86d3585499dd74a8c7b3c62fe", func := "meniscus/meniscuslaw07.CertEasier", spec := "certEasier", unfollowed := true, recurses := true, plainKeys := false, apart := false }
def CertEasierSaid : Prop := certEasierRow.holds Tryz.pinned (OpenSpec.ofChange certEasierSpec)

/-- ITS FALSE NEIGHBOUR: 'it returns false'. Refute it at one input. -/
def certEasierWrong : ChangeSpec := { name := "certEasier", fn := fun _ => fun
  | [d1, d2, d3, d4, d5, d6] => { results := [.lit (.bool false)], args := [d1, d2, d3, d4, d5, d6] }
  | _ => none }
def CertEasierWrongFalsely : Prop := certEasierRow.holds Tryz.pinned (OpenSpec.ofChange certEasierWrong)

/-- 'meniscuslaw07.CertMore': WHATEVER THE INPUT: true; the input reads as it did. -/
def certMoreSpec : ChangeSpec := { name := "certMore", fn := fun _ => fun
  | [d1, d2, d3, d4, d5, d6] => { results := [.lit (.bool true)], args := [d1, d2, d3, d4, d5, d6] }
  | _ => none }
def certMoreRow : OpenClaim := { program := "ytlinbkmpkcmniaagreat", sum := "30502e22b1a082e9f95e871254ad98a97cb36da86d3585499dd74a8c7b3c62fe", func := "meniscus/meniscuslaw07.CertMore", spec := "certMore", unfollowed := true, recurses := true, plainKeys := false, apart := false }
def CertMoreSaid : Prop := certMoreRow.holds Tryz.pinned (OpenSpec.ofChange certMoreSpec)

/-- ITS FALSE NEIGHBOUR: 'it returns false'. Refute it at one input. -/
def certMoreWrong : ChangeSpec := { name := "certMore", fn := fun _ => fun
  | [d1, d2, d3, d4, d5, d6] => { results := [.lit (.bool false)], args := [d1, d2, d3, d4, d5, d6] }
  | _ => none }
def CertMoreWrongFalsely : Prop := certMoreRow.holds Tryz.pinned (OpenSpec.ofChange certMoreWrong)

/-- 'meniscuslaw07.CertEnds': WHATEVER THE INPUT: true; the input reads as it did. -/
def certEndsSpec : ChangeSpec := { name := "certEnds", fn := fun _ => fun
  | [d1, d2, d3, d4] => { results := [.lit (.bool true)], args := [d1, d2, d3, d4] }
  | _ => none }
def certEndsRow : OpenClaim := { program := "ytlinbkmpkcmniaagreat", sum := "30502e22b1a082e9f95e871254ad98a97cb36da86d3585499dd74a8c7b3c62fe", func := "meniscus/meniscuslaw07.CertEnds", spec := "certEnds", unfollowed := true, recurses := true, plainKeys := false, apart := false }
def CertEndsSaid : Prop := certEndsRow.holds Tryz.pinned (OpenSpec.ofChange certEndsSpec)

/-- ITS FALSE NEIGHBOUR: 'it returns false'. Refute it at one input. -/
def certEndsWrong : ChangeSpec := { name := "certEnds", fn := fun _ => fun
  | [d1, d2, d3, d4] => { results := [.lit (.bool false)], args := [d1, d2, d3, d4] }
  | _ => none }
def CertEndsWrongFalsely : Prop := certEndsRow.holds Tryz.pinned (OpenSpec.ofChange certEndsWrong)

/-- 'meniscuslaw07.CertBests': WHATEVER THE INPUT: true; the input reads as it did. -/
def certBestsSpec : ChangeSpec := { name := "certBests", fn := fun _ => fun
  | [d1, d2, d3] => { results := [.lit (.bool true)], args := [d1, d2, d3] }
  | _ => none }
def certBestsRow : OpenClaim := { program := "ytlinbkmpkcmniaagreat", sum := "30502e22b1a082e9f95e871254ad98a97cb36da86d3585499dd74a8c7b3c62fe", func := "meniscus/meniscuslaw07.CertBests", spec := "certBests", unfollowed := true, recurses := true, plainKeys := false, apart := false }
def CertBestsSaid : Prop := certBestsRow.holds Tryz.pinned (OpenSpec.ofChange certBestsSpec)

/-- ITS FALSE NEIGHBOUR: 'it returns false'. Refute it at one input. -/
def certBestsWrong : ChangeSpec := { name := "certBests", fn := fun _ => fun
  | [d1, d2, d3] => { results := [.lit (.bool false)], args := [d1, d2, d3] }
  | _ => none }
def CertBestsWrongFalsely : Prop := certBestsRow.holds Tryz.pinned (OpenSpec.ofChange certBestsWrong)

/-- 'meniscuslaw07.CertBest': WHATEVER THE INPUT: true; the input reads as it did. -/
def certBestSpec : ChangeSpec := { name := "certBest", fn := fun _ => fun
  | [d1, d2, d3, d4, d5] => { results := [.lit (.bool true)], args := [d1, d2, d3, d4, d5] }
  | _ => none }
def certBestRow : OpenClaim := { program := "ytlinbkmpkcmniaagreat", sum := "30502e22b1a082e9f95e871254ad98a97cb36da86d3585499dd74a8c7b3c62fe", func := "meniscus/meniscuslaw07.CertBest", spec := "certBest", unfollowed := true, recurses := true, plainKeys := false, apart := false }
def CertBestSaid : Prop := certBestRow.holds Tryz.pinned (OpenSpec.ofChange certBestSpec)

/-- ITS FALSE NEIGHBOUR: 'it returns false'. Refute it at one input. -/
def certBestWrong : ChangeSpec := { name := "certBest", fn := fun _ => fun
  | [d1, d2, d3, d4, d5] => { results := [.lit (.bool false)], args := [d1, d2, d3, d4, d5] }
  | _ => none }
def CertBestWrongFalsely : Prop := certBestRow.holds Tryz.pinned (OpenSpec.ofChange certBestWrong)

/-- 'meniscuslaw07.CertHangs': WHATEVER THE INPUT: true; the input reads as it did. -/
def certHangsSpec : ChangeSpec := { name := "certHangs", fn := fun _ => fun
  | [d1, d2, d3] => { results := [.lit (.bool true)], args := [d1, d2, d3] }
  | _ => none }
def certHangsRow : OpenClaim := { program := "ytlinbkmpkcmniaagreat", sum := "30502e22b1a082e9f95e871254ad98a97cb36da86d3585499dd74a8c7b3c62fe", func := "meniscus/meniscuslaw07.CertHangs", spec := "certHangs", unfollowed := true, recurses := true, plainKeys := false, apart := false }
def CertHangsSaid : Prop := certHangsRow.holds Tryz.pinned (OpenSpec.ofChange certHangsSpec)

/-- ITS FALSE NEIGHBOUR: 'it returns false'. Refute it at one input. -/
def certHangsWrong : ChangeSpec := { name := "certHangs", fn := fun _ => fun
  | [d1, d2, d3] => { results := [.lit (.bool false)], args := [d1, d2, d3] }
  | _ => none }
def CertHangsWrongFalsely : Prop := certHangsRow.holds Tryz.pinned (OpenSpec.ofChange certHangsWrong)

/-- 'meniscuslaw07.CertEnough': WHATEVER THE INPUT: true; the input reads as it did. -/
def certEnoughSpec : ChangeSpec := { name := "certEnough", fn := fun _ => fun
  | [d1, d2, d3, d4, d5, d6] => { results := [.lit (.bool true)], args := [d1, d2, d3, d4, d5, d6] }
  | _ => none }
def certEnoughRow : OpenClaim := { program := "ytlinbkmpkcmniaagreat", sum := "30502e22b1a082e9f95e871254ad98a97cb36da86d3585499dd74a8c7b3c62fe", func := "meniscus/meniscuslaw07.CertEnough", spec := "certEnough", unfollowed := true, recurses := true, plainKeys := false, apart := false }
def CertEnoughSaid : Prop := certEnoughRow.holds Tryz.pinned (OpenSpec.ofChange certEnoughSpec)

/-- ITS FALSE NEIGHBOUR: 'it returns false'. Refute it at one input. -/
def certEnoughWrong : ChangeSpec := { name := "certEnough", fn := fun _ => fun
  | [d1, d2, d3, d4, d5, d6] => { results := [.lit (.bool false)], args := [d1, d2, d3, d4, d5, d6] }
  | _ => none }
def CertEnoughWrongFalsely : Prop := certEnoughRow.holds Tryz.pinned (OpenSpec.ofChange certEnoughWrong)

/- THE SECOND FORM. 'bulk': how many values and letters a reading holds, each counted each time it is reached (what is shared counts as often as it is met; a slice's spare places count too). A statement '..UptoSaid' is the law's where the arguments, and the package variables that the reading takes, are together of bulk at most 1048576: NARROWER than '..Said'. Prove '..Said' where nothing that the law and all that it calls make is longer than what came in: it says more and counts as full. Else prove '..UptoSaid'. A law counts once. -/
mutual
def uptoBulk {H : Type} : DataW H → Nat
  | .lit (.string bytes) => bytes.length + 1
  | .lit _ => 1
  | .nil => 1
  | .ptr d => uptoBulk d + 1
  | .slice elems spare => uptoBulkAll elems + uptoBulkAll spare + 1
  | .agg parts => uptoBulkAll parts + 1
  | .iface _ d => uptoBulk d + 1
  | .map entries => uptoBulkEntries entries + 1
  | .held _ => 1
def uptoBulkAll {H : Type} : List (DataW H) → Nat
  | [] => 0
  | d :: r => uptoBulk d + uptoBulkAll r
def uptoBulkEntries {H : Type} : List (Lit × DataW H) → Nat
  | [] => 0
  | x :: r => uptoBulkEntry x + uptoBulkEntries r
def uptoBulkEntry {H : Type} : Lit × DataW H → Nat
  | (.string bytes, d) => bytes.length + uptoBulk d + 1
  | (_, d) => uptoBulk d + 1
 end
def uptoSmall : (H : Type) → List (DataW H) → Bool := fun _ ds => decide (uptoBulkAll ds ≤ 1048576)
def OpenSpec.upto (s : _root_.Go.ChangeSpec) : _root_.Go.OpenSpec := { _root_.Go.OpenSpec.ofChange s with cond := some uptoSmall }

/-- 'meniscuslaw07.CertTells', WHERE WHAT IT READS IS OF BULK AT MOST 1048576: true; the input reads as it did. -/
def certTellsUptoRow : OpenClaim := { program := "ytlinbkmpkcmniaagreat", sum := "30502e22b1a082e9f95e871254ad98a97cb36da86d3585499dd74a8c7b3c62fe", func := "meniscus/meniscuslaw07.CertTells", spec := "certTells", unfollowed := true, recurses := true, plainKeys := false, apart := false, narrowed := true }
def CertTellsUptoSaid : Prop := certTellsUptoRow.holds Tryz.pinned (OpenSpec.upto certTellsSpec)

/-- 'meniscuslaw07.CertTruth', WHERE WHAT IT READS IS OF BULK AT MOST 1048576: true; the input reads as it did. -/
def certTruthUptoRow : OpenClaim := { program := "ytlinbkmpkcmniaagreat", sum := "30502e22b1a082e9f95e871254ad98a97cb36da86d3585499dd74a8c7b3c62fe", func := "meniscus/meniscuslaw07.CertTruth", spec := "certTruth", unfollowed := true, recurses := true, plainKeys := false, apart := false, narrowed := true }
def CertTruthUptoSaid : Prop := certTruthUptoRow.holds Tryz.pinned (OpenSpec.upto certTruthSpec)

/-- 'meniscuslaw07.CertEven', WHERE WHAT IT READS IS OF BULK AT MOST 1048576: true; the input reads as it did. -/
def certEvenUptoRow : OpenClaim := { program := "ytlinbkmpkcmniaagreat", sum := "30502e22b1a082e9f95e871254ad98a97cb36da86d3585499dd74a8c7b3c62fe", func := "meniscus/meniscuslaw07.CertEven", spec := "certEven", unfollowed := true, recurses := true, plainKeys := false, apart := false, narrowed := true }
def CertEvenUptoSaid : Prop := certEvenUptoRow.holds Tryz.pinned (OpenSpec.upto certEvenSpec)

/-- 'meniscuslaw07.CertScales', WHERE WHAT IT READS IS OF BULK AT MOST 1048576: true; the input reads as it did. -/
def certScalesUptoRow : OpenClaim := { program := "ytlinbkmpkcmniaagreat", sum := "30502e22b1a082e9f95e871254ad98a97cb36da86d3585499dd74a8c7b3c62fe", func := "meniscus/meniscuslaw07.CertScales", spec := "certScales", unfollowed := true, recurses := true, plainKeys := false, apart := false, narrowed := true }
def CertScalesUptoSaid : Prop := certScalesUptoRow.holds Tryz.pinned (OpenSpec.upto certScalesSpec)

/-- 'meniscuslaw07.CertHeights', WHERE WHAT IT READS IS OF BULK AT MOST 1048576: true; the input reads as it did. -/
def certHeightsUptoRow : OpenClaim := { program := "ytlinbkmpkcmniaagreat", sum := "30502e22b1a082e9f95e871254ad98a97cb36da86d3585499dd74a8c7b3c62fe", func := "meniscus/meniscuslaw07.CertHeights", spec := "certHeights", unfollowed := true, recurses := true, plainKeys := false, apart := false, narrowed := true }
def CertHeightsUptoSaid : Prop := certHeightsUptoRow.holds Tryz.pinned (OpenSpec.upto certHeightsSpec)

/-- 'meniscuslaw07.CertKeeps', WHERE WHAT IT READS IS OF BULK AT MOST 1048576: true; the input reads as it did. -/
def certKeepsUptoRow : OpenClaim := { program := "ytlinbkmpkcmniaagreat", sum := "30502e22b1a082e9f95e871254ad98a97cb36da86d3585499dd74a8c7b3c62fe", func := "meniscus/meniscuslaw07.CertKeeps", spec := "certKeeps", unfollowed := true, recurses := true, plainKeys := false, apart := false, narrowed := true }
def CertKeepsUptoSaid : Prop := certKeepsUptoRow.holds Tryz.pinned (OpenSpec.upto certKeepsSpec)

/-- 'meniscuslaw07.CertDays', WHERE WHAT IT READS IS OF BULK AT MOST 1048576: true; the input reads as it did. -/
def certDaysUptoRow : OpenClaim := { program := "ytlinbkmpkcmniaagreat", sum := "30502e22b1a082e9f95e871254ad98a97cb36da86d3585499dd74a8c7b3c62fe", func := "meniscus/meniscuslaw07.CertDays", spec := "certDays", unfollowed := true, recurses := true, plainKeys := false, apart := false, narrowed := true }
def CertDaysUptoSaid : Prop := certDaysUptoRow.holds Tryz.pinned (OpenSpec.upto certDaysSpec)

/-- 'meniscuslaw07.CertEasier', WHERE WHAT IT READS IS OF BULK AT MOST 1048576: true; the input reads as it did. -/
def certEasierUptoRow : OpenClaim := { program := "ytlinbkmpkcmniaagreat", sum := "30502e22b1a082e9f95e871254ad98a97cb36da86d3585499dd74a8c7b3c62fe", func := "meniscus/meniscuslaw07.CertEasier", spec := "certEasier", unfollowed := true, recurses := true, plainKeys := false, apart := false, narrowed := true }
def CertEasierUptoSaid : Prop := certEasierUptoRow.holds Tryz.pinned (OpenSpec.upto certEasierSpec)

/-- 'meniscuslaw07.CertMore', WHERE WHAT IT READS IS OF BULK AT MOST 1048576: true; the input reads as it did. -/
def certMoreUptoRow : OpenClaim := { program := "ytlinbkmpkcmniaagreat", sum := "30502e22b1a082e9f95e871254ad98a97cb36da86d3585499dd74a8c7b3c62fe", func := "meniscus/meniscuslaw07.CertMore", spec := "certMore", unfollowed := true, recurses := true, plainKeys := false, apart := false, narrowed := true }
def CertMoreUptoSaid : Prop := certMoreUptoRow.holds Tryz.pinned (OpenSpec.upto certMoreSpec)

/-- 'meniscuslaw07.CertEnds', WHERE WHAT IT READS IS OF BULK AT MOST 1048576: true; the input reads as it did. -/
def certEndsUptoRow : OpenClaim := { program := "ytlinbkmpkcmniaagreat", sum := "30502e22b1a082e9f95e871254ad98a97cb36da86d3585499dd74a8c7b3c62fe", func := "meniscus/meniscuslaw07.CertEnds", spec := "certEnds", unfollowed := true, recurses := true, plainKeys := false, apart := false, narrowed := true }
def CertEndsUptoSaid : Prop := certEndsUptoRow.holds Tryz.pinned (OpenSpec.upto certEndsSpec)

/-- 'meniscuslaw07.CertBests', WHERE WHAT IT READS IS OF BULK AT MOST 1048576: true; the input reads as it did. -/
def certBestsUptoRow : OpenClaim := { program := "ytlinbkmpkcmniaagreat", sum := "30502e22b1a082e9f95e871254ad98a97cb36da86d3585499dd74a8c7b3c62fe", func := "meniscus/meniscuslaw07.CertBests", spec := "certBests", unfollowed := true, recurses := true, plainKeys := false, apart := false, narrowed := true }
def CertBestsUptoSaid : Prop := certBestsUptoRow.holds Tryz.pinned (OpenSpec.upto certBestsSpec)

/-- 'meniscuslaw07.CertBest', WHERE WHAT IT READS IS OF BULK AT MOST 1048576: true; the input reads as it did. -/
def certBestUptoRow : OpenClaim := { program := "ytlinbkmpkcmniaagreat", sum := "30502e22b1a082e9f95e871254ad98a97cb36da86d3585499dd74a8c7b3c62fe", func := "meniscus/meniscuslaw07.CertBest", spec := "certBest", unfollowed := true, recurses := true, plainKeys := false, apart := false, narrowed := true }
def CertBestUptoSaid : Prop := certBestUptoRow.holds Tryz.pinned (OpenSpec.upto certBestSpec)

/-- 'meniscuslaw07.CertHangs', WHERE WHAT IT READS IS OF BULK AT MOST 1048576: true; the input reads as it did. -/
def certHangsUptoRow : OpenClaim := { program := "ytlinbkmpkcmniaagreat", sum := "30502e22b1a082e9f95e871254ad98a97cb36da86d3585499dd74a8c7b3c62fe", func := "meniscus/meniscuslaw07.CertHangs", spec := "certHangs", unfollowed := true, recurses := true, plainKeys := false, apart := false, narrowed := true }
def CertHangsUptoSaid : Prop := certHangsUptoRow.holds Tryz.pinned (OpenSpec.upto certHangsSpec)

/-- 'meniscuslaw07.CertEnough', WHERE WHAT IT READS IS OF BULK AT MOST 1048576: true; the input reads as it did. -/
def certEnoughUptoRow : OpenClaim := { program := "ytlinbkmpkcmniaagreat", sum := "30502e22b1a082e9f95e871254ad98a97cb36da86d3585499dd74a8c7b3c62fe", func := "meniscus/meniscuslaw07.CertEnough", spec := "certEnough", unfollowed := true, recurses := true, plainKeys := false, apart := false, narrowed := true }
def CertEnoughUptoSaid : Prop := certEnoughUptoRow.holds Tryz.pinned (OpenSpec.upto certEnoughSpec)

end Rows
end Go.Proofs.YtlinbkmpkcmniaaGreat
