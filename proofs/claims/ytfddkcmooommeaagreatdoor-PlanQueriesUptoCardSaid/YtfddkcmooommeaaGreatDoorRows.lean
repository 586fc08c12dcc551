/-
  NARROWER THAN 'FOR EVERY INPUT', by the rows' own cells (each row's printed sentence says how): PlanStands: laid · PlanRules: laid · PlanLooks: laid · PlanFull: laid · PlanQueries: laid.
  DERIVED. THE GIVEN ROWS OF THIS SEAT. 5 by the template 'for every input the law returns true; each argument reads behind the call as it read before'; 0 by the template 'total and deterministic' (their statements: YtfddkcmooommeaaGreatDoorTotals.lean).
  GIVEN WITH THE SEED: the statements are not yours to turn. If you find one false, say at which input.
  Laid BY PROGRAM, IN A SANDBOX (cutbox-rows.mjs): the forced cells as the released guide's own fill.sh prints them over the translation a24dab1941f7c9d9… (all of the seat's roots in one cut). By AI agents, Wed Nov 11 2026. No macro, syntax, notation, axiom, sorry.
-/
import Derived.Test.YtfddkcmooommeaaGreatDoorChecked
import GoSem.PinnedTables
import GoSem.Claim
import GoSem.ClaimJoined
import GoSem.ClaimMapViews
import Derived.JoinedTies
import Derived.KernelRfl
namespace Go.Proofs.YtfddkcmooommeaaGreatDoor
/- THE CELL 'sum', in the pinned program and in every row, IS THE sha256 OF THE DUMP (.gsa) THAT YtfddkcmooommeaaGreatDoorProg.lean LOADS. Nothing in Lean hashes anything: it is a label: what it is worth is what the hold of that sum in a sandbox is worth. -/
noncomputable def Tryz.pinned : Pinned := { name := "ytfddkcmooommeaagreatdoor", sum := "a24dab1941f7c9d9452c8bc9b028330f2ec173df9bf98397310fb88dadc9d0b6", checked := Tryz.checked }
namespace Rows
def none {H : Type} : Left H := { results := [], args := [] }

/- WHAT THE LISTED PACKAGE-LEVEL VARIABLES READ AS WHEN THE CALL BEGINS. Each datum BY PROGRAM (the guide's laid-datum.mjs) off the statement by which the dump's own 'gosem.cut.vars' lays the variable. In a bare row this is a premise. The card (YtfddkcmooommeaaGreatDoorCards.lean) ties it to the program's text. -/
def laid_unicode_utf8_acceptRanges {H : Type} : DataW H := .agg [.agg [.lit (.int .u8 128), .lit (.int .u8 191)], .agg [.lit (.int .u8 160), .lit (.int .u8 191)], .agg [.lit (.int .u8 128), .lit (.int .u8 159)], .agg [.lit (.int .u8 144), .lit (.int .u8 191)], .agg [.lit (.int .u8 128), .lit (.int .u8 143)], .agg [.lit (.int .u8 0), .lit (.int .u8 0)], .agg [.lit (.int .u8 0), .lit (.int .u8 0)], .agg [.lit (.int .u8 0), .lit (.int .u8 0)], .agg [.lit (.int .u8 0), .lit (.int .u8 0)], .agg [.lit (.int .u8 0), .lit (.int .u8 0)], .agg [.lit (.int .u8 0), .lit (.int .u8 0)], .agg [.lit (.int .u8 0), .lit (.int .u8 0)], .agg [.lit (.int .u8 0), .lit (.int .u8 0)], .agg [.lit (.int .u8 0), .lit (.int .u8 0)], .agg [.lit (.int .u8 0), .lit (.int .u8 0)], .agg [.lit (.int .u8 0), .lit (.int .u8 0)]]
/-- One of Go's own tables, pinned by name: the form's constant. -/
def laid_unicode_utf8_first : DataW Unit := Go.Pinned.utf8First

/-- 'rhizomelaw13.PlanStands': WHATEVER THE INPUT: true; the input reads as it did. -/
def planStandsSpec : ChangeSpec := { name := "planStands", fn := fun _ => fun
  | [d1, d2] => { results := [.lit (.bool true)], args := [d1, d2] }
  | _ => none }
def planStandsRow : OpenClaim := { program := "ytfddkcmooommeaagreatdoor", sum := "a24dab1941f7c9d9452c8bc9b028330f2ec173df9bf98397310fb88dadc9d0b6", func := "rhizome/rhizomelaw13.PlanStands", spec := "planStands", inPlace := ["internal/bytealg.IndexByteString", "internal/bytealg.CountString", "internal/bytealg.IndexString"], unfollowed := true, recurses := true, named := ["unicode/utf8.first", "unicode/utf8.acceptRanges", "internal/bytealg.MaxLen"], apart := false, laid := [("unicode/utf8.acceptRanges", laid_unicode_utf8_acceptRanges), ("unicode/utf8.first", laid_unicode_utf8_first)] }
def PlanStandsSaid : Prop := planStandsRow.holds Tryz.pinned (OpenSpec.ofChange planStandsSpec)

/-- ITS FALSE NEIGHBOUR: 'it returns false'. Refute it at one input. -/
def planStandsWrong : ChangeSpec := { name := "planStands", fn := fun _ => fun
  | [d1, d2] => { results := [.lit (.bool false)], args := [d1, d2] }
  | _ => none }
def PlanStandsWrongFalsely : Prop := planStandsRow.holds Tryz.pinned (OpenSpec.ofChange planStandsWrong)

/-- 'rhizomelaw13.PlanRules': WHATEVER THE INPUT: true; the input reads as it did. -/
def planRulesSpec : ChangeSpec := { name := "planRules", fn := fun _ => fun
  | [d1, d2, d3] => { results := [.lit (.bool true)], args := [d1, d2, d3] }
  | _ => none }
def planRulesRow : OpenClaim := { program := "ytfddkcmooommeaagreatdoor", sum := "a24dab1941f7c9d9452c8bc9b028330f2ec173df9bf98397310fb88dadc9d0b6", func := "rhizome/rhizomelaw13.PlanRules", spec := "planRules", inPlace := ["internal/bytealg.IndexByteString", "internal/bytealg.CountString", "internal/bytealg.IndexString"], unfollowed := true, recurses := true, named := ["unicode/utf8.first", "unicode/utf8.acceptRanges", "internal/bytealg.MaxLen"], apart := false, laid := [("unicode/utf8.acceptRanges", laid_unicode_utf8_acceptRanges), ("unicode/utf8.first", laid_unicode_utf8_first)] }
def PlanRulesSaid : Prop := planRulesRow.holds Tryz.pinned (OpenSpec.ofChange planRulesSpec)

/-- ITS FALSE NEIGHBOUR: 'it returns false'. Refute it at one input. -/
def planRulesWrong : ChangeSpec := { name := "planRules", fn := fun _ => fun
  | [d1, d2, d3] => { results := [.lit (.bool false)], args := [d1, d2, d3] }
  | _ => none }
def PlanRulesWrongFalsely : Prop := planRulesRow.holds Tryz.pinned (OpenSpec.ofChange planRulesWrong)

/-- 'rhizomelaw13.PlanLooks': WHATEVER THE INPUT: true; the input reads as it did. -/
def planLooksSpec : ChangeSpec := { name := "planLooks", fn := fun _ => fun
  | [d1, d2, d3] => { results := [.lit (.bool true)], args := [d1, d2, d3] }
  | _ => none }
def planLooksRow : OpenClaim := { program := "ytfddkcmooommeaagreatdoor", sum := "a24dab1941f7c9d9452c8bc9b028330f2ec173df9bf98397310fb88dadc9d0b6", func := "rhizome/rhizomelaw13.PlanLooks", spec := "planLooks", inPlace := ["internal/bytealg.IndexByteString", "internal/bytealg.CountString", "internal/bytealg.IndexString"], unfollowed := true, recurses := true, named := ["unicode/utf8.first", "unicode/utf8.acceptRanges", "internal/bytealg.MaxLen"], apart := false, laid := [("unicode/utf8.acceptRanges", laid_unicode_utf8_acceptRanges), ("unicode/utf8.first", laid_unicode_utf8_first)] }
def PlanLooksSaid : Prop := planLooksRow.holds Tryz.pinned (OpenSpec.ofChange planLooksSpec)

/-- ITS FALSE NEIGHBOUR: 'it returns false'. Refute it at one input. -/
def planLooksWrong : ChangeSpec := { name := "planLooks", fn := fun _ => fun
  | [d1, d2, d3] => { results := [.lit (.bool false)], args := [d1, d2, d3] }
  | _ => none }
def PlanLooksWrongFalsely : Prop := planLooksRow.holds Tryz.pinned (OpenSpec.ofChange planLooksWrong)

/-- 'rhizomelaw13.PlanFull': WHATEVER THE INPUT: true; the input reads as it did. -/
def planFullSpec : ChangeSpec := { name := "planFull", fn := fun _ => fun
  | [d1, d2] => { results := [.lit (.bool true)], args := [d1, d2] }
  | _ => none }
def planFullRow : OpenClaim := { program := "ytfddkcmooommeaagreatdoor", sum := "a24dab1941f7c9d9452c8bc9b028330f2ec173df9bf98397310fb88dadc9d0b6", func := "rhizome/rhizomelaw13.PlanFull", spec := "planFull", inPlace := ["internal/bytealg.IndexByteString", "internal/bytealg.CountString", "internal/bytealg.IndexString"], unfollowed := true, recurses := true, named := ["unicode/utf8.first", "unicode/utf8.acceptRanges", "internal/bytealg.MaxLen"], apart := false, laid := [("unicode/utf8.acceptRanges", laid_unicode_utf8_acceptRanges), ("unicode/utf8.first", laid_unicode_utf8_first)] }
def PlanFullSaid : Prop := planFullRow.holds Tryz.pinned (OpenSpec.ofChange planFullSpec)

/-- ITS FALSE NEIGHBOUR: 'it returns false'. Refute it at one input. -/
def planFullWrong : ChangeSpec := { name := "planFull", fn := fun _ => fun
  | [d1, d2] => { results := [.lit (.bool false)], args := [d1, d2] }
  | _ => none }
def PlanFullWrongFalsely : Prop := planFullRow.holds Tryz.pinned (OpenSpec.ofChange planFullWrong)

/-- 'rhizomelaw13.PlanQueries': WHATEVER THE INPUT: true; the input reads as it did. -/
def planQueriesSpec : ChangeSpec := { name := "planQueries", fn := fun _ => fun
  | [d1, d2, d3] => { results := [.lit (.bool true)], args := [d1, d2, d3] }
  | _ => none }
def planQueriesRow : OpenClaim := { program := "ytfddkcmooommeaagreatdoor", sum := "a24dab1941f7c9d9452c8bc9b028330f2ec173df9bf98397310fb88dadc9d0b6", func := "rhizome/rhizomelaw13.PlanQueries", spec := "planQueries", inPlace := ["internal/bytealg.IndexByteString", "internal/bytealg.CountString", "internal/bytealg.IndexString"], unfollowed := true, recurses := true, named := ["unicode/utf8.first", "unicode/utf8.acceptRanges", "internal/bytealg.MaxLen"], apart := false, laid := [("unicode/utf8.acceptRanges", laid_unicode_utf8_acceptRanges), ("unicode/utf8.first", laid_unicode_utf8_first)] }
def PlanQueriesSaid : Prop := planQueriesRow.holds Tryz.pinned (OpenSpec.ofChange planQueriesSpec)

/-- ITS FALSE NEIGHBOUR: 'it returns false'. Refute it at one input. -/
def planQueriesWrong : ChangeSpec := { name := "planQueries", fn := fun _ => fun
  | [d1, d2, d3] => { results := [.lit (.bool false)], args := [d1, d2, d3] }
  | _ => none }
def PlanQueriesWrongFalsely : Prop := planQueriesRow.holds Tryz.pinned (OpenSpec.ofChange planQueriesWrong)

/- THE SECOND FORM. 'bulk': how many values and letters a reading holds, each counted each time it is reached (what is shared counts as often as it is met; a slice's spare places count too). A statement '..UptoSaid' is the law's where the arguments, and the package variables that the reading takes, are together of bulk at most 1048576: NARROWER than '..Said'. Prove '..Said' where nothing that the law and all that it calls make is longer than what came in: it says more and counts as full. Else prove '..UptoSaid'. A law counts once. -/
mutual
def uptoBulk {H : Type} : DataW H → Nat
  | .lit (.string bytes) => bytes.length + 1
  | .lit _ => 1
  | .nil => 1
  | .ptr d => uptoBulk d + 1
  | .slice elems spare => uptoBulkAll elems + uptoBulkAll spare + 1
  | .agg parts => uptoBulkAll parts + 1
  | .iface _ d => uptoBulk d + 1
  | .map entries => uptoBulkEntries entries + 1
  | .held _ => 1
def uptoBulkAll {H : Type} : List (DataW H) → Nat
  | [] => 0
  | d :: r => uptoBulk d + uptoBulkAll r
def uptoBulkEntries {H : Type} : List (Lit × DataW H) → Nat
  | [] => 0
  | x :: r => uptoBulkEntry x + uptoBulkEntries r
def uptoBulkEntry {H : Type} : Lit × DataW H → Nat
  | (.string bytes, d) => bytes.length + uptoBulk d + 1
  | (_, d) => uptoBulk d + 1
 end
def uptoSmall : (H : Type) → List (DataW H) → Bool := fun _ ds => decide (uptoBulkAll ds ≤ 1048576)
def OpenSpec.upto (s : _root_.Go.ChangeSpec) : _root_.Go.OpenSpec := { _root_.Go.OpenSpec.ofChange s with cond := some uptoSmall }

/-- 'rhizomelaw13.PlanStands', WHERE WHAT IT READS IS OF BULK AT MOST 1048576: true; the input reads as it did. -/
def planStandsUptoRow : OpenClaim := { program := "ytfddkcmooommeaagreatdoor", sum := "a24dab1941f7c9d9452c8bc9b028330f2ec173df9bf98397310fb88dadc9d0b6", func := "rhizome/rhizomelaw13.PlanStands", spec := "planStands", inPlace := ["internal/bytealg.IndexByteString", "internal/bytealg.CountString", "internal/bytealg.IndexString"], unfollowed := true, recurses := true, named := ["unicode/utf8.first", "unicode/utf8.acceptRanges", "internal/bytealg.MaxLen"], apart := false, laid := [("unicode/utf8.acceptRanges", laid_unicode_utf8_acceptRanges), ("unicode/utf8.first", laid_unicode_utf8_first)], narrowed := true }
def PlanStandsUptoSaid : Prop := planStandsUptoRow.holds Tryz.pinned (OpenSpec.upto planStandsSpec)

/-- 'rhizomelaw13.PlanRules', WHERE WHAT IT READS IS OF BULK AT MOST 1048576: true; the input reads as it did. -/
def planRulesUptoRow : OpenClaim := { program := "ytfddkcmooommeaagreatdoor", sum := "a24dab1941f7c9d9452c8bc9b028330f2ec173df9bf98397310fb88dadc9d0b6", func := "rhizome/rhizomelaw13.PlanRules", spec := "planRules", inPlace := ["internal/bytealg.IndexByteString", "internal/bytealg.CountString", "internal/bytealg.IndexString"], unfollowed := true, recurses := true, named := ["unicode/utf8.first", "unicode/utf8.acceptRanges", "internal/bytealg.MaxLen"], apart := false, laid := [("unicode/utf8.acceptRanges", laid_unicode_utf8_acceptRanges), ("unicode/utf8.first", laid_unicode_utf8_first)], narrowed := true }
def PlanRulesUptoSaid : Prop := planRulesUptoRow.holds Tryz.pinned (OpenSpec.upto planRulesSpec)

/-- 'rhizomelaw13.PlanLooks', WHERE WHAT IT READS IS OF BULK AT MOST 1048576: true; the input reads as it did. -/
def planLooksUptoRow : OpenClaim := { program := "ytfddkcmooommeaagreatdoor", sum := "a24dab1941f7c9d9452c8bc9b028330f2ec173df9bf98397310fb88dadc9d0b6", func := "rhizome/rhizomelaw13.PlanLooks", spec := "planLooks", inPlace := ["internal/bytealg.IndexByteString", "internal/bytealg.CountString", "internal/bytealg.IndexString"], unfollowed := true, recurses := true, named := ["unicode/utf8.first", "unicode/utf8.acceptRanges", "internal/bytealg.MaxLen"], apart := false, laid := [("unicode/utf8.acceptRanges", laid_unicode_utf8_acceptRanges), ("unicode/utf8.first", laid_unicode_utf8_first)], narrowed := true }
def PlanLooksUptoSaid : Prop := planLooksUptoRow.holds Tryz.pinned (OpenSpec.upto planLooksSpec)

/-- 'rhizomelaw13.PlanFull', WHERE WHAT IT READS IS OF BULK AT MOST 1048576: true; the input reads as it did. -/
def planFullUptoRow : OpenClaim := { program := "ytfddkcmooommeaagreatdoor", sum := "a24dab1941f7c9d9452c8bc9b028330f2ec173df9bf98397310fb88dadc9d0b6", func := "rhizome/rhizomelaw13.PlanFull", spec := "planFull", inPlace := ["internal/bytealg.IndexByteString", "internal/bytealg.CountString", "internal/bytealg.IndexString"], unfollowed := true, recurses := true, named := ["unicode/utf8.first", "unicode/utf8.acceptRanges", "internal/bytealg.MaxLen"], apart := false, laid := [("unicode/utf8.acceptRanges", laid_unicode_utf8_acceptRanges), ("unicode/utf8.first", laid_unicode_utf8_first)], narrowed := true }
def PlanFullUptoSaid : Prop := planFullUptoRow.holds Tryz.pinned (OpenSpec.upto planFullSpec)

/-- 'rhizomelaw13.PlanQueries', WHERE WHAT IT READS IS OF BULK AT MOST 1048576: true; the input reads as it did. -/
def planQueriesUptoRow : OpenClaim := { program := "ytfddkcmooommeaagreatdoor", sum := "a24dab1941f7c9d9452c8bc9b028330f2ec173df9bf98397310fb88dadc9d0b6", func := "rhizome/rhizomelaw13.PlanQueries", spec := "planQueries", inPlace := ["internal/bytealg.IndexByteString", "internal/bytealg.CountString", "internal/bytealg.IndexString"], unfollowed := true, recurses := true, named := ["unicode/utf8.first", "unicode/utf8.acceptRanges", "internal/bytealg.MaxLen"], apart := false, laid := [("unicode/utf8.acceptRanges", laid_unicode_utf8_acceptRanges), ("unicode/utf8.first", laid_unicode_utf8_first)], narrowed := true }
def PlanQueriesUptoSaid : Prop := planQueriesUptoRow.holds Tryz.pinned (OpenSpec.upto planQueriesSpec)

end Rows
end Go.Proofs.YtfddkcmooommeaaGreatDoor
