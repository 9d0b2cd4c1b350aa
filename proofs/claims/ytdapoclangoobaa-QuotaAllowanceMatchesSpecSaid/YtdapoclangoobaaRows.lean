/-
  No cell of these rows narrows 'for every input' (looked for: loops, veiled, ifaces, maps, wideKeys, modest, calm, conditions, laid).
  DERIVED. THE GIVEN ROWS OF THIS SEAT. 7 by the template 'for every input the law returns true; each argument reads behind the call as it read before'; 0 by the template 'total and deterministic' (their statements: YtdapoclangoobaaTotals.lean).
  GIVEN WITH THE SEED: the statements are not yours to turn. If you find one false, say at which input.
  Laid BY PROGRAM, IN A SANDBOX (cutbox-rows.mjs): the forced cells as the released guide's own fill.sh prints them over the translation b20cb498d3469444… (all of the seat's roots in one cut). By AI agents, Wed Nov 11 2026. No macro, syntax, notation, axiom, sorry.
-/
import Derived.Test.YtdapoclangoobaaChecked
import GoSem.Claim
import GoSem.ClaimJoined
import GoSem.ClaimMapViews
import Derived.JoinedTies
import Derived.KernelRfl
namespace Go.Proofs.Ytdapoclangoobaa
/- THE CELL 'sum', in the pinned program and in every row, IS THE sha256 OF THE DUMP (.gsa) THAT YtdapoclangoobaaProg.lean LOADS. Nothing in Lean hashes anything: it is a label: what it is worth is what the hold of that sum in a sandbox is worth. -/
noncomputable def Try.pinned : Pinned := { name := "ytdapoclangoobaa", sum := "b20cb498d34694445d3ae5cf0fe8e83f78f8d7acad48b3a9a8b7d5efa5290467", checked := Try.checked }
namespace Rows
def none {H : Type} : Left H := { results := [], args := [] }

/-- 'solventlaw32.QuotaDecideMatchesSpec': WHATEVER THE INPUT: true; the input reads as it did. -/
def quotaDecideMatchesSpecSpec : ChangeSpec := { name := "quotaDecideMatchesSpec", fn := fun _ => fun
  | [d] => { results := [.lit (.bool true)], args := [d] }
  | _ => none }
def quotaDecideMatchesSpecRow : OpenClaim := { program := "ytdapoclangoobaa", sum := "b20cb498d34694445d3ae5cf0fe8e83f78f8d7acad48b3a9a8b7d5efa5290467", func := "solvent/solventlaw32.QuotaDecideMatchesSpec", spec := "quotaDecideMatchesSpec", unfollowed := true, recurses := true, apart := false }
def QuotaDecideMatchesSpecSaid : Prop := quotaDecideMatchesSpecRow.holds Try.pinned (OpenSpec.ofChange quotaDecideMatchesSpecSpec)

/-- ITS FALSE NEIGHBOUR: 'it returns false'. Refute it at one input. -/
def quotaDecideMatchesSpecWrong : ChangeSpec := { name := "quotaDecideMatchesSpec", fn := fun _ => fun
  | [d] => { results := [.lit (.bool false)], args := [d] }
  | _ => none }
def QuotaDecideMatchesSpecWrongFalsely : Prop := quotaDecideMatchesSpecRow.holds Try.pinned (OpenSpec.ofChange quotaDecideMatchesSpecWrong)

/-- 'solventlaw32.QuotaAllowanceMatchesSpec': WHATEVER THE INPUT: true; the input reads as it did. -/
def quotaAllowanceMatchesSpecSpec : ChangeSpec := { name := "quotaAllowanceMatchesSpec", fn := fun _ => fun
  | [d1, d2] => { results := [.lit (.bool true)], args := [d1, d2] }
  | _ => none }
def quotaAllowanceMatchesSpecRow : OpenClaim := { program := "ytdapoclangoobaa", sum := "b20cb498d34694445d3ae5cf0fe8e83f78f8d7acad48b3a9a8b7d5efa5290467", func := "solvent/solventlaw32.QuotaAllowanceMatchesSpec", spec := "quotaAllowanceMatchesSpec", unfollowed := true, recurses := true, apart := false }
def QuotaAllowanceMatchesSpecSaid : Prop := quotaAllowanceMatchesSpecRow.holds Try.pinned (OpenSpec.ofChange quotaAllowanceMatchesSpecSpec)

/-- ITS FALSE NEIGHBOUR: 'it returns false'. Refute it at one input. -/
def quotaAllowanceMatchesSpecWrong : ChangeSpec := { name := "quotaAllowanceMatchesSpec", fn := fun _ => fun
  | [d1, d2] => { results := [.lit (.bool false)], args := [d1, d2] }
  | _ => none }
def QuotaAllowanceMatchesSpecWrongFalsely : Prop := quotaAllowanceMatchesSpecRow.holds Try.pinned (OpenSpec.ofChange quotaAllowanceMatchesSpecWrong)

/-- 'solventlaw32.QuotaGuaranteeIsGranted': WHATEVER THE INPUT: true; the input reads as it did. -/
def quotaGuaranteeIsGrantedSpec : ChangeSpec := { name := "quotaGuaranteeIsGranted", fn := fun _ => fun
  | [d1, d2, d3] => { results := [.lit (.bool true)], args := [d1, d2, d3] }
  | _ => none }
def quotaGuaranteeIsGrantedRow : OpenClaim := { program := "ytdapoclangoobaa", sum := "b20cb498d34694445d3ae5cf0fe8e83f78f8d7acad48b3a9a8b7d5efa5290467", func := "solvent/solventlaw32.QuotaGuaranteeIsGranted", spec := "quotaGuaranteeIsGranted", unfollowed := true, recurses := true, apart := false }
def QuotaGuaranteeIsGrantedSaid : Prop := quotaGuaranteeIsGrantedRow.holds Try.pinned (OpenSpec.ofChange quotaGuaranteeIsGrantedSpec)

/-- ITS FALSE NEIGHBOUR: 'it returns false'. Refute it at one input. -/
def quotaGuaranteeIsGrantedWrong : ChangeSpec := { name := "quotaGuaranteeIsGranted", fn := fun _ => fun
  | [d1, d2, d3] => { results := [.lit (.bool false)], args := [d1, d2, d3] }
  | _ => none }
def QuotaGuaranteeIsGrantedWrongFalsely : Prop := quotaGuaranteeIsGrantedRow.holds Try.pinned (OpenSpec.ofChange quotaGuaranteeIsGrantedWrong)

/-- 'solventlaw32.QuotaNeedGrowsByBurst': WHATEVER THE INPUT: true; the input reads as it did. -/
def quotaNeedGrowsByBurstSpec : ChangeSpec := { name := "quotaNeedGrowsByBurst", fn := fun _ => fun
  | [d] => { results := [.lit (.bool true)], args := [d] }
  | _ => none }
def quotaNeedGrowsByBurstRow : OpenClaim := { program := "ytdapoclangoobaa", sum := "b20cb498d34694445d3ae5cf0fe8e83f78f8d7acad48b3a9a8b7d5efa5290467", func := "solvent/solventlaw32.QuotaNeedGrowsByBurst", spec := "quotaNeedGrowsByBurst", unfollowed := true, recurses := true, apart := false }
def QuotaNeedGrowsByBurstSaid : Prop := quotaNeedGrowsByBurstRow.holds Try.pinned (OpenSpec.ofChange quotaNeedGrowsByBurstSpec)

/-- ITS FALSE NEIGHBOUR: 'it returns false'. Refute it at one input. -/
def quotaNeedGrowsByBurstWrong : ChangeSpec := { name := "quotaNeedGrowsByBurst", fn := fun _ => fun
  | [d] => { results := [.lit (.bool false)], args := [d] }
  | _ => none }
def QuotaNeedGrowsByBurstWrongFalsely : Prop := quotaNeedGrowsByBurstRow.holds Try.pinned (OpenSpec.ofChange quotaNeedGrowsByBurstWrong)

/-- 'solventlaw32.QuotaAllowanceIsFair': WHATEVER THE INPUT: true; the input reads as it did. -/
def quotaAllowanceIsFairSpec : ChangeSpec := { name := "quotaAllowanceIsFair", fn := fun _ => fun
  | [d1, d2] => { results := [.lit (.bool true)], args := [d1, d2] }
  | _ => none }
def quotaAllowanceIsFairRow : OpenClaim := { program := "ytdapoclangoobaa", sum := "b20cb498d34694445d3ae5cf0fe8e83f78f8d7acad48b3a9a8b7d5efa5290467", func := "solvent/solventlaw32.QuotaAllowanceIsFair", spec := "quotaAllowanceIsFair", unfollowed := true, recurses := true, apart := false }
def QuotaAllowanceIsFairSaid : Prop := quotaAllowanceIsFairRow.holds Try.pinned (OpenSpec.ofChange quotaAllowanceIsFairSpec)

/-- ITS FALSE NEIGHBOUR: 'it returns false'. Refute it at one input. -/
def quotaAllowanceIsFairWrong : ChangeSpec := { name := "quotaAllowanceIsFair", fn := fun _ => fun
  | [d1, d2] => { results := [.lit (.bool false)], args := [d1, d2] }
  | _ => none }
def QuotaAllowanceIsFairWrongFalsely : Prop := quotaAllowanceIsFairRow.holds Try.pinned (OpenSpec.ofChange quotaAllowanceIsFairWrong)

/-- 'solventlaw32.QuotaMoreIsNotLess': WHATEVER THE INPUT: true; the input reads as it did. -/
def quotaMoreIsNotLessSpec : ChangeSpec := { name := "quotaMoreIsNotLess", fn := fun _ => fun
  | [d1, d2] => { results := [.lit (.bool true)], args := [d1, d2] }
  | _ => none }
def quotaMoreIsNotLessRow : OpenClaim := { program := "ytdapoclangoobaa", sum := "b20cb498d34694445d3ae5cf0fe8e83f78f8d7acad48b3a9a8b7d5efa5290467", func := "solvent/solventlaw32.QuotaMoreIsNotLess", spec := "quotaMoreIsNotLess", unfollowed := true, recurses := true, apart := false }
def QuotaMoreIsNotLessSaid : Prop := quotaMoreIsNotLessRow.holds Try.pinned (OpenSpec.ofChange quotaMoreIsNotLessSpec)

/-- ITS FALSE NEIGHBOUR: 'it returns false'. Refute it at one input. -/
def quotaMoreIsNotLessWrong : ChangeSpec := { name := "quotaMoreIsNotLess", fn := fun _ => fun
  | [d1, d2] => { results := [.lit (.bool false)], args := [d1, d2] }
  | _ => none }
def QuotaMoreIsNotLessWrongFalsely : Prop := quotaMoreIsNotLessRow.holds Try.pinned (OpenSpec.ofChange quotaMoreIsNotLessWrong)

/-- 'solventlaw32.QuotaInParts': WHATEVER THE INPUT: true; the input reads as it did. -/
def quotaInPartsSpec : ChangeSpec := { name := "quotaInParts", fn := fun _ => fun
  | [d1, d2, d3] => { results := [.lit (.bool true)], args := [d1, d2, d3] }
  | _ => none }
def quotaInPartsRow : OpenClaim := { program := "ytdapoclangoobaa", sum := "b20cb498d34694445d3ae5cf0fe8e83f78f8d7acad48b3a9a8b7d5efa5290467", func := "solvent/solventlaw32.QuotaInParts", spec := "quotaInParts", unfollowed := true, recurses := true, apart := false }
def QuotaInPartsSaid : Prop := quotaInPartsRow.holds Try.pinned (OpenSpec.ofChange quotaInPartsSpec)

/-- ITS FALSE NEIGHBOUR: 'it returns false'. Refute it at one input. -/
def quotaInPartsWrong : ChangeSpec := { name := "quotaInParts", fn := fun _ => fun
  | [d1, d2, d3] => { results := [.lit (.bool false)], args := [d1, d2, d3] }
  | _ => none }
def QuotaInPartsWrongFalsely : Prop := quotaInPartsRow.holds Try.pinned (OpenSpec.ofChange quotaInPartsWrong)

/- THE SECOND FORM. 'bulk': how many values and letters a reading holds, each counted each time it is reached (what is shared counts as often as it is met; a slice's spare places count too). A statement '..UptoSaid' is the law's where the arguments, and the package variables that the reading takes, are together of bulk at most 1048576: NARROWER than '..Said'. Prove '..Said' where nothing that the law and all that it calls make is longer than what came in: it says more and counts as full. Else prove '..UptoSaid'. A law counts once. -/
mutual
def uptoBulk {H : Type} : DataW H → Nat
  | .lit (.string bytes) => bytes.length + 1
  | .lit _ => 1
  | .nil => 1
  | .ptr d => uptoBulk d + 1
  | .slice elems spare => uptoBulkAll elems + uptoBulkAll spare + 1
  | .agg parts => uptoBulkAll parts + 1
  | .iface _ d => uptoBulk d + 1
  | .map entries => uptoBulkEntries entries + 1
  | .held _ => 1
def uptoBulkAll {H : Type} : List (DataW H) → Nat
  | [] => 0
  | d :: r => uptoBulk d + uptoBulkAll r
def uptoBulkEntries {H : Type} : List (Lit × DataW H) → Nat
  | [] => 0
  | x :: r => uptoBulkEntry x + uptoBulkEntries r
def uptoBulkEntry {H : Type} : Lit × DataW H → Nat
  | (.string bytes, d) => bytes.length + uptoBulk d + 1
  | (_, d) => uptoBulk d + 1
 end
def uptoSmall : (H : Type) → List (DataW H) → Bool := fun _ ds => decide (uptoBulkAll ds ≤ 1048576)
def OpenSpec.upto (s : _root_.Go.ChangeSpec) : _root_.Go.OpenSpec := { _root_.Go.OpenSpec.ofChange s with cond := some uptoSmall }

/-- 'solventlaw32.QuotaDecideMatchesSpec', WHERE WHAT IT READS IS OF BULK AT MOST 1048576: true; the input reads as it did. -/
def quotaDecideMatchesSpecUptoRow : OpenClaim := { program := "ytdapoclangoobaa", sum := "b20cb498d34694445d3ae5cf0fe8e83f78f8d7acad48b3a9a8b7d5efa5290467", func := "solvent/solventlaw32.QuotaDecideMatchesSpec", spec := "quotaDecideMatchesSpec", unfollowed := true, recurses := true, apart := false, narrowed := true }
def QuotaDecideMatchesSpecUptoSaid : Prop := quotaDecideMatchesSpecUptoRow.holds Try.pinned (OpenSpec.upto quotaDecideMatchesSpecSpec)

/-- 'solventlaw32.QuotaAllowanceMatchesSpec', WHERE WHAT IT READS IS OF BULK AT MOST 1048576: true; the input reads as it did. -/
def quotaAllowanceMatchesSpecUptoRow : OpenClaim := { program := "ytdapoclangoobaa", sum := "b20cb498d34694445d3ae5cf0fe8e83f78f8d7acad48b3a9a8b7d5efa5290467", func := "solvent/solventlaw32.QuotaAllowanceMatchesSpec", spec := "quotaAllowanceMatchesSpec", unfollowed := true, recurses := true, apart := false, narrowed := true }
def QuotaAllowanceMatchesSpecUptoSaid : Prop := quotaAllowanceMatchesSpecUptoRow.holds Try.pinned (OpenSpec.upto quotaAllowanceMatchesSpecSpec)

/-- 'solventlaw32.QuotaGuaranteeIsGranted', WHERE WHAT IT READS IS OF BULK AT MOST 1048576: true; the input reads as it did. -/
def quotaGuaranteeIsGrantedUptoRow : OpenClaim := { program := "ytdapoclangoobaa", sum := "b20cb498d34694445d3ae5cf0fe8e83f78f8d7acad48b3a9a8b7d5efa5290467", func := "solvent/solventlaw32.QuotaGuaranteeIsGranted", spec := "quotaGuaranteeIsGranted", unfollowed := true, recurses := true, apart := false, narrowed := true }
def QuotaGuaranteeIsGrantedUptoSaid : Prop := quotaGuaranteeIsGrantedUptoRow.holds Try.pinned (OpenSpec.upto quotaGuaranteeIsGrantedSpec)

/-- 'solventlaw32.QuotaNeedGrowsByBurst', WHERE WHAT IT READS IS OF BULK AT MOST 1048576: true; the input reads as it did. -/
def quotaNeedGrowsByBurstUptoRow : OpenClaim := { program := "ytdapoclangoobaa", sum := "b20cb498d34694445d3ae5cf0fe8e83f78f8d7acad48b3a9a8b7d5efa5290467", func := "solvent/solventlaw32.QuotaNeedGrowsByBurst", spec := "quotaNeedGrowsByBurst", unfollowed := true, recurses := true, apart := false, narrowed := true }
def QuotaNeedGrowsByBurstUptoSaid : Prop := quotaNeedGrowsByBurstUptoRow.holds Try.pinned (OpenSpec.upto quotaNeedGrowsByBurstSpec)

/-- 'solventlaw32.QuotaAllowanceIsFair', WHERE WHAT IT READS IS OF BULK AT MOST 1048576: true; the input reads as it did. -/
def quotaAllowanceIsFairUptoRow : OpenClaim := { program := "ytdapoclangoobaa", sum := "b20cb498d34694445d3ae5cf0fe8e83f78f8d7acad48b3a9a8b7d5efa5290467", func := "solvent/solventlaw32.QuotaAllowanceIsFair", spec := "quotaAllowanceIsFair", unfollowed := true, recurses := true, apart := false, narrowed := true }
def QuotaAllowanceIsFairUptoSaid : Prop := quotaAllowanceIsFairUptoRow.holds Try.pinned (OpenSpec.upto quotaAllowanceIsFairSpec)

/-- 'solventlaw32.QuotaMoreIsNotLess', WHERE WHAT IT READS IS OF BULK AT MOST 1048576: true; the input reads as it did. -/
def quotaMoreIsNotLessUptoRow : OpenClaim := { program := "ytdapoclangoobaa", sum := "b20cb498d34694445d3ae5cf0fe8e83f78f8d7acad48b3a9a8b7d5efa5290467", func := "solvent/solventlaw32.QuotaMoreIsNotLess", spec := "quotaMoreIsNotLess", unfollowed := true, recurses := true, apart := false, narrowed := true }
def QuotaMoreIsNotLessUptoSaid : Prop := quotaMoreIsNotLessUptoRow.holds Try.pinned (OpenSpec.upto quotaMoreIsNotLessSpec)

/-- 'solventlaw32.QuotaInParts', WHERE WHAT IT READS IS OF BULK AT MOST 1048576: true; the input reads as it did. -/
def quotaInPartsUptoRow : OpenClaim := { program := "ytdapoclangoobaa", sum := "b20cb498d34694445d3ae5cf0fe8e83f78f8d7acad48b3a9a8b7d5efa5290467", func := "solvent/solventlaw32.QuotaInParts", spec := "quotaInParts", unfollowed := true, recurses := true, apart := false, narrowed := true }
def QuotaInPartsUptoSaid : Prop := quotaInPartsUptoRow.holds Try.pinned (OpenSpec.upto quotaInPartsSpec)

end Rows
end Go.Proofs.Ytdapoclangoobaa
