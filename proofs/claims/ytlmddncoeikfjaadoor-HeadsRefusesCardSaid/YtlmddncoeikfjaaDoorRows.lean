/-
  NARROWER THAN 'FOR EVERY INPUT', by the rows' own cells (each row's printed sentence says how): HeadsRefuses: laid · MedusaCalls: laid · MedusaShape: laid · MedusaBegins: laid · MedusaLine: laid · MedusaClean: laid.
  DERIVED. THE GIVEN ROWS OF THIS SEAT. 6 by the template 'for every input the law returns true; each argument reads behind the call as it read before'; 0 by the template 'total and deterministic' (their statements: YtlmddncoeikfjaaDoorTotals.lean).
  GIVEN WITH THE SEED: the statements are not yours to turn. If you find one false, say at which input.
  Laid BY PROGRAM, IN A SANDBOX (cutbox-rows.mjs): the forced cells as the released guide's own fill.sh prints them over the translation fc7ebd64bfa717d5… (all of the seat's roots in one cut). By AI agents, Wed Nov 11 2026. No macro, syntax, notation, axiom, sorry.
-/
import Derived.Test.YtlmddncoeikfjaaDoorChecked
import GoSem.Claim
import GoSem.ClaimJoined
import GoSem.ClaimMapViews
import Derived.JoinedTies
import Derived.KernelRfl
namespace Go.Proofs.YtlmddncoeikfjaaDoor
/- THE CELL 'sum', in the pinned program and in every row, IS THE sha256 OF THE DUMP (.gsa) THAT YtlmddncoeikfjaaDoorProg.lean LOADS. Nothing in Lean hashes anything: it is a label: what it is worth is what the hold of that sum in a sandbox is worth. -/
noncomputable def Tryd.pinned : Pinned := { name := "ytlmddncoeikfjaadoor", sum := "fc7ebd64bfa717d54943ca2475dc77be13bfeb0e81ceb3a654d84e0071e4297f", checked := Tryd.checked }
namespace Rows
def none {H : Type} : Left H := { results := [], args := [] }

/- WHAT THE LISTED PACKAGE-LEVEL VARIABLES READ AS WHEN THE CALL BEGINS. Each datum BY PROGRAM (the guide's laid-datum.mjs) off the statement by which the dump's own 'gosem.cut.vars' lays the variable. In a bare row this is a premise. The card (YtlmddncoeikfjaaDoorCards.lean) ties it to the program's text. -/
def laid_augur_model_sides {H : Type} : DataW H := .agg [.agg [.lit (.int .i64 0), .lit (.int .i64 0)], .agg [.lit (.int .i64 1), .lit (.int .i64 0)], .agg [.lit (.int .i64 1), .lit (.int .i64 0)], .agg [.lit (.int .i64 0), .lit (.int .i64 0)], .agg [.lit (.int .i64 2), .lit (.int .i64 0)], .agg [.lit (.int .i64 2), .lit (.int .i64 0)], .agg [.lit (.int .i64 0), .lit (.int .i64 2)]]

/-- 'augurlaw09.HeadsRefuses': WHATEVER THE INPUT: true; the input reads as it did. -/
def headsRefusesSpec : ChangeSpec := { name := "headsRefuses", fn := fun _ => fun
  | [d1, d2] => { results := [.lit (.bool true)], args := [d1, d2] }
  | _ => none }
def headsRefusesRow : OpenClaim := { program := "ytlmddncoeikfjaadoor", sum := "fc7ebd64bfa717d54943ca2475dc77be13bfeb0e81ceb3a654d84e0071e4297f", func := "augur/augurlaw09.HeadsRefuses", spec := "headsRefuses", unfollowed := true, recurses := true, named := ["augur/model.sides"], plainKeys := false, apart := false, laid := [("augur/model.sides", laid_augur_model_sides)] }
def HeadsRefusesSaid : Prop := headsRefusesRow.holds Tryd.pinned (OpenSpec.ofChange headsRefusesSpec)

/-- ITS FALSE NEIGHBOUR: 'it returns false'. Refute it at one input. -/
def headsRefusesWrong : ChangeSpec := { name := "headsRefuses", fn := fun _ => fun
  | [d1, d2] => { results := [.lit (.bool false)], args := [d1, d2] }
  | _ => none }
def HeadsRefusesWrongFalsely : Prop := headsRefusesRow.holds Tryd.pinned (OpenSpec.ofChange headsRefusesWrong)

/-- 'augurlaw15.MedusaCalls': WHATEVER THE INPUT: true; the input reads as it did. -/
def medusaCallsSpec : ChangeSpec := { name := "medusaCalls", fn := fun _ => fun
  | [d1, d2] => { results := [.lit (.bool true)], args := [d1, d2] }
  | _ => none }
def medusaCallsRow : OpenClaim := { program := "ytlmddncoeikfjaadoor", sum := "fc7ebd64bfa717d54943ca2475dc77be13bfeb0e81ceb3a654d84e0071e4297f", func := "augur/augurlaw15.MedusaCalls", spec := "medusaCalls", unfollowed := true, recurses := true, named := ["augur/model.sides"], plainKeys := false, apart := false, laid := [("augur/model.sides", laid_augur_model_sides)] }
def MedusaCallsSaid : Prop := medusaCallsRow.holds Tryd.pinned (OpenSpec.ofChange medusaCallsSpec)

/-- ITS FALSE NEIGHBOUR: 'it returns false'. Refute it at one input. -/
def medusaCallsWrong : ChangeSpec := { name := "medusaCalls", fn := fun _ => fun
  | [d1, d2] => { results := [.lit (.bool false)], args := [d1, d2] }
  | _ => none }
def MedusaCallsWrongFalsely : Prop := medusaCallsRow.holds Tryd.pinned (OpenSpec.ofChange medusaCallsWrong)

/-- 'augurlaw15.MedusaShape': WHATEVER THE INPUT: true; the input reads as it did. -/
def medusaShapeSpec : ChangeSpec := { name := "medusaShape", fn := fun _ => fun
  | [d1, d2, d3] => { results := [.lit (.bool true)], args := [d1, d2, d3] }
  | _ => none }
def medusaShapeRow : OpenClaim := { program := "ytlmddncoeikfjaadoor", sum := "fc7ebd64bfa717d54943ca2475dc77be13bfeb0e81ceb3a654d84e0071e4297f", func := "augur/augurlaw15.MedusaShape", spec := "medusaShape", unfollowed := true, recurses := true, named := ["augur/model.sides"], plainKeys := false, apart := false, laid := [("augur/model.sides", laid_augur_model_sides)] }
def MedusaShapeSaid : Prop := medusaShapeRow.holds Tryd.pinned (OpenSpec.ofChange medusaShapeSpec)

/-- ITS FALSE NEIGHBOUR: 'it returns false'. Refute it at one input. -/
def medusaShapeWrong : ChangeSpec := { name := "medusaShape", fn := fun _ => fun
  | [d1, d2, d3] => { results := [.lit (.bool false)], args := [d1, d2, d3] }
  | _ => none }
def MedusaShapeWrongFalsely : Prop := medusaShapeRow.holds Tryd.pinned (OpenSpec.ofChange medusaShapeWrong)

/-- 'augurlaw15.MedusaBegins': WHATEVER THE INPUT: true; the input reads as it did. -/
def medusaBeginsSpec : ChangeSpec := { name := "medusaBegins", fn := fun _ => fun
  | [d1, d2, d3, d4] => { results := [.lit (.bool true)], args := [d1, d2, d3, d4] }
  | _ => none }
def medusaBeginsRow : OpenClaim := { program := "ytlmddncoeikfjaadoor", sum := "fc7ebd64bfa717d54943ca2475dc77be13bfeb0e81ceb3a654d84e0071e4297f", func := "augur/augurlaw15.MedusaBegins", spec := "medusaBegins", unfollowed := true, recurses := true, named := ["augur/model.sides"], plainKeys := false, apart := false, laid := [("augur/model.sides", laid_augur_model_sides)] }
def MedusaBeginsSaid : Prop := medusaBeginsRow.holds Tryd.pinned (OpenSpec.ofChange medusaBeginsSpec)

/-- ITS FALSE NEIGHBOUR: 'it returns false'. Refute it at one input. -/
def medusaBeginsWrong : ChangeSpec := { name := "medusaBegins", fn := fun _ => fun
  | [d1, d2, d3, d4] => { results := [.lit (.bool false)], args := [d1, d2, d3, d4] }
  | _ => none }
def MedusaBeginsWrongFalsely : Prop := medusaBeginsRow.holds Tryd.pinned (OpenSpec.ofChange medusaBeginsWrong)

/-- 'augurlaw15.MedusaLine': WHATEVER THE INPUT: true; the input reads as it did. -/
def medusaLineSpec : ChangeSpec := { name := "medusaLine", fn := fun _ => fun
  | [d1, d2, d3] => { results := [.lit (.bool true)], args := [d1, d2, d3] }
  | _ => none }
def medusaLineRow : OpenClaim := { program := "ytlmddncoeikfjaadoor", sum := "fc7ebd64bfa717d54943ca2475dc77be13bfeb0e81ceb3a654d84e0071e4297f", func := "augur/augurlaw15.MedusaLine", spec := "medusaLine", unfollowed := true, recurses := true, named := ["augur/model.sides"], plainKeys := false, apart := false, laid := [("augur/model.sides", laid_augur_model_sides)] }
def MedusaLineSaid : Prop := medusaLineRow.holds Tryd.pinned (OpenSpec.ofChange medusaLineSpec)

/-- ITS FALSE NEIGHBOUR: 'it returns false'. Refute it at one input. -/
def medusaLineWrong : ChangeSpec := { name := "medusaLine", fn := fun _ => fun
  | [d1, d2, d3] => { results := [.lit (.bool false)], args := [d1, d2, d3] }
  | _ => none }
def MedusaLineWrongFalsely : Prop := medusaLineRow.holds Tryd.pinned (OpenSpec.ofChange medusaLineWrong)

/-- 'augurlaw15.MedusaClean': WHATEVER THE INPUT: true; the input reads as it did. -/
def medusaCleanSpec : ChangeSpec := { name := "medusaClean", fn := fun _ => fun
  | [d1, d2, d3, d4] => { results := [.lit (.bool true)], args := [d1, d2, d3, d4] }
  | _ => none }
def medusaCleanRow : OpenClaim := { program := "ytlmddncoeikfjaadoor", sum := "fc7ebd64bfa717d54943ca2475dc77be13bfeb0e81ceb3a654d84e0071e4297f", func := "augur/augurlaw15.MedusaClean", spec := "medusaClean", unfollowed := true, recurses := true, named := ["augur/model.sides"], plainKeys := false, apart := false, laid := [("augur/model.sides", laid_augur_model_sides)] }
def MedusaCleanSaid : Prop := medusaCleanRow.holds Tryd.pinned (OpenSpec.ofChange medusaCleanSpec)

/-- ITS FALSE NEIGHBOUR: 'it returns false'. Refute it at one input. -/
def medusaCleanWrong : ChangeSpec := { name := "medusaClean", fn := fun _ => fun
  | [d1, d2, d3, d4] => { results := [.lit (.bool false)], args := [d1, d2, d3, d4] }
  | _ => none }
def MedusaCleanWrongFalsely : Prop := medusaCleanRow.holds Tryd.pinned (OpenSpec.ofChange medusaCleanWrong)

/- THE SECOND FORM. 'bulk': how many values and letters a reading holds, each counted each time it is reached (what is shared counts as often as it is met; a slice's spare places count too). A statement '..UptoSaid' is the law's where the arguments, and the package variables that the reading takes, are together of bulk at most 1048576: NARROWER than '..Said'. Prove '..Said' where nothing that the law and all that it calls make is longer than what came in: it says more and counts as full. Else prove '..UptoSaid'. A law counts once. -/
mutual
def uptoBulk {H : Type} : DataW H → Nat
  | .lit (.string bytes) => bytes.length + 1
  | .lit _ => 1
  | .nil => 1
  | .ptr d => uptoBulk d + 1
  | .slice elems spare => uptoBulkAll elems + uptoBulkAll spare + 1
  | .agg parts => uptoBulkAll parts + 1
  | .iface _ d => uptoBulk d + 1
  | .map entries => uptoBulkEntries entries + 1
  | .held _ => 1
def uptoBulkAll {H : Type} : List (DataW H) → Nat
  | [] => 0
  | d :: r => uptoBulk d + uptoBulkAll r
def uptoBulkEntries {H : Type} : List (Lit × DataW H) → Nat
  | [] => 0
  | x :: r => uptoBulkEntry x + uptoBulkEntries r
def uptoBulkEntry {H : Type} : Lit × DataW H → Nat
  | (.string bytes, d) => bytes.length + uptoBulk d + 1
  | (_, d) => uptoBulk d + 1
 end
def uptoSmall : (H : Type) → List (DataW H) → Bool := fun _ ds => decide (uptoBulkAll ds ≤ 1048576)
def OpenSpec.upto (s : _root_.Go.ChangeSpec) : _root_.Go.OpenSpec := { _root_.Go.OpenSpec.ofChange s with cond := some uptoSmall }

/-- 'augurlaw09.HeadsRefuses', WHERE WHAT IT READS IS OF BULK AT MOST 1048576: true; the input reads as it did. -/
def headsRefusesUptoRow : OpenClaim := { program := "ytlmddncoeikfjaadoor", sum := "fc7ebd64bfa717d54943ca2475dc77be13bfeb0e81ceb3a654d84e0071e4297f", func := "augur/augurlaw09.HeadsRefuses", spec := "headsRefuses", unfollowed := true, recurses := true, named := ["augur/model.sides"], plainKeys := false, apart := false, laid := [("augur/model.sides", laid_augur_model_sides)], narrowed := true }
def HeadsRefusesUptoSaid : Prop := headsRefusesUptoRow.holds Tryd.pinned (OpenSpec.upto headsRefusesSpec)

/-- 'augurlaw15.MedusaCalls', WHERE WHAT IT READS IS OF BULK AT MOST 1048576: true; the input reads as it did. -/
def medusaCallsUptoRow : OpenClaim := { program := "ytlmddncoeikfjaadoor", sum := "fc7ebd64bfa717d54943ca2475dc77be13bfeb0e81ceb3a654d84e0071e4297f", func := "augur/augurlaw15.MedusaCalls", spec := "medusaCalls", unfollowed := true, recurses := true, named := ["augur/model.sides"], plainKeys := false, apart := false, laid := [("augur/model.sides", laid_augur_model_sides)], narrowed := true }
def MedusaCallsUptoSaid : Prop := medusaCallsUptoRow.holds Tryd.pinned (OpenSpec.upto medusaCallsSpec)

/-- 'augurlaw15.MedusaShape', WHERE WHAT IT READS IS OF BULK AT MOST 1048576: true; the input reads as it did. -/
def medusaShapeUptoRow : OpenClaim := { program := "ytlmddncoeikfjaadoor", sum := "fc7ebd64bfa717d54943ca2475dc77be13bfeb0e81ceb3a654d84e0071e4297f", func := "augur/augurlaw15.MedusaShape", spec := "medusaShape", unfollowed := true, recurses := true, named := ["augur/model.sides"], plainKeys := false, apart := false, laid := [("augur/model.sides", laid_augur_model_sides)], narrowed := true }
def MedusaShapeUptoSaid : Prop := medusaShapeUptoRow.holds Tryd.pinned (OpenSpec.upto medusaShapeSpec)

/-- 'augurlaw15.MedusaBegins', WHERE WHAT IT READS IS OF BULK AT MOST 1048576: true; the input reads as it did. -/
def medusaBeginsUptoRow : OpenClaim := { program := "ytlmddncoeikfjaadoor", sum := "fc7ebd64bfa717d54943ca2475dc77be13bfeb0e81ceb3a654d84e0071e4297f", func := "augur/augurlaw15.MedusaBegins", spec := "medusaBegins", unfollowed := true, recurses := true, named := ["augur/model.sides"], plainKeys := false, apart := false, laid := [("augur/model.sides", laid_augur_model_sides)], narrowed := true }
def MedusaBeginsUptoSaid : Prop := medusaBeginsUptoRow.holds Tryd.pinned (OpenSpec.upto medusaBeginsSpec)

/-- 'augurlaw15.MedusaLine', WHERE WHAT IT READS IS OF BULK AT MOST 1048576: true; the input reads as it did. -/
def medusaLineUptoRow : OpenClaim := { program := "ytlmddncoeikfjaadoor", sum := "fc7ebd64bfa717d54943ca2475dc77be13bfeb0e81ceb3a654d84e0071e4297f", func := "augur/augurlaw15.MedusaLine", spec := "medusaLine", unfollowed := true, recurses := true, named := ["augur/model.sides"], plainKeys := false, apart := false, laid := [("augur/model.sides", laid_augur_model_sides)], narrowed := true }
def MedusaLineUptoSaid : Prop := medusaLineUptoRow.holds Tryd.pinned (OpenSpec.upto medusaLineSpec)

/-- 'augurlaw15.MedusaClean', WHERE WHAT IT READS IS OF BULK AT MOST 1048576: true; the input reads as it did. -/
def medusaCleanUptoRow : OpenClaim := { program := "ytlmddncoeikfjaadoor", sum := "fc7ebd64bfa717d54943ca2475dc77be13bfeb0e81ceb3a654d84e0071e4297f", func := "augur/augurlaw15.MedusaClean", spec := "medusaClean", unfollowed := true, recurses := true, named := ["augur/model.sides"], plainKeys := false, apart := false, laid := [("augur/model.sides", laid_augur_model_sides)], narrowed := true }
def MedusaCleanUptoSaid : Prop := medusaCleanUptoRow.holds Tryd.pinned (OpenSpec.upto medusaCleanSpec)

end Rows
end Go.Proofs.YtlmddncoeikfjaaDoor
