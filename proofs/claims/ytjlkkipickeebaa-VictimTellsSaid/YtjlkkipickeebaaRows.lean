/-
  No cell of these rows narrows 'for every input' (looked for: loops, veiled, ifaces, maps, wideKeys, modest, calm, conditions, laid).
  DERIVED. THE GIVEN ROWS OF THIS SEAT. 12 by the template 'for every input the law returns true; each argument reads behind the call as it read before'; 0 by the template 'total and deterministic' (their statements: YtjlkkipickeebaaTotals.lean).
  GIVEN WITH THE SEED: the statements are not yours to turn. If you find one false, say at which input.
  Laid BY PROGRAM, IN A SANDBOX (cutbox-rows.mjs): the forced cells as the released guide's own fill.sh prints them over the translation 9ef4b2db1d5b3fa2… (all of the seat's roots in one cut). By AI agents, Wed Nov 11 2026. No macro, syntax, notation, axiom, sorry.
-/
import Derived.Test.YtjlkkipickeebaaChecked
import GoSem.Claim
import GoSem.ClaimJoined
import GoSem.ClaimMapViews
import Derived.JoinedTies
import Derived.KernelRfl
namespace Go.Proofs.Ytjlkkipickeebaa
/- THE CELL 'sum', in the pinned program and in every row, IS THE sha256 OF THE DUMP (.gsa) THAT YtjlkkipickeebaaProg.lean LOADS. Nothing in Lean hashes anything: it is a label: what it is worth is what the hold of that sum in a sandbox is worth. -/
noncomputable def Try.pinned : Pinned := { name := "ytjlkkipickeebaa", sum := "9ef4b2db1d5b3fa2c73447b45fe20c1cd2df7e47049f5d72d4abafe0c1f5a003", checked := Try.checked }
namespace Rows
def none {H : Type} : Left H := { results := [], args := [] }

/-- 'croftlaw06.RectAreas': WHATEVER THE INPUT: true; the input reads as it did. -/
def rectAreasSpec : ChangeSpec := { name := "rectAreas", fn := fun _ => fun
  | [d1, d2] => { results := [.lit (.bool true)], args := [d1, d2] }
  | _ => none }
def rectAreasRow : OpenClaim := { program := "ytjlkkipickeebaa", sum := "9ef4b2db1d5b3fa2c73447b45fe20c1cd2df7e47049f5d72d4abafe0c1f5a003", func := "croft/croftlaw06.RectAreas", spec := "rectAreas", apart := false }
def RectAreasSaid : Prop := rectAreasRow.holds Try.pinned (OpenSpec.ofChange rectAreasSpec)

/-- ITS FALSE NEIGHBOUR: 'it returns false'. Refute it at one input. -/
def rectAreasWrong : ChangeSpec := { name := "rectAreas", fn := fun _ => fun
  | [d1, d2] => { results := [.lit (.bool false)], args := [d1, d2] }
  | _ => none }
def RectAreasWrongFalsely : Prop := rectAreasRow.holds Try.pinned (OpenSpec.ofChange rectAreasWrong)

/-- 'croftlaw27.VictimOrders': WHATEVER THE INPUT: true; the input reads as it did. -/
def victimOrdersSpec : ChangeSpec := { name := "victimOrders", fn := fun _ => fun
  | [d1, d2, d3, d4] => { results := [.lit (.bool true)], args := [d1, d2, d3, d4] }
  | _ => none }
def victimOrdersRow : OpenClaim := { program := "ytjlkkipickeebaa", sum := "9ef4b2db1d5b3fa2c73447b45fe20c1cd2df7e47049f5d72d4abafe0c1f5a003", func := "croft/croftlaw27.VictimOrders", spec := "victimOrders", apart := false }
def VictimOrdersSaid : Prop := victimOrdersRow.holds Try.pinned (OpenSpec.ofChange victimOrdersSpec)

/-- ITS FALSE NEIGHBOUR: 'it returns false'. Refute it at one input. -/
def victimOrdersWrong : ChangeSpec := { name := "victimOrders", fn := fun _ => fun
  | [d1, d2, d3, d4] => { results := [.lit (.bool false)], args := [d1, d2, d3, d4] }
  | _ => none }
def VictimOrdersWrongFalsely : Prop := victimOrdersRow.holds Try.pinned (OpenSpec.ofChange victimOrdersWrong)

/-- 'croftlaw27.VictimAges': WHATEVER THE INPUT: true; the input reads as it did. -/
def victimAgesSpec : ChangeSpec := { name := "victimAges", fn := fun _ => fun
  | [d1, d2, d3, d4] => { results := [.lit (.bool true)], args := [d1, d2, d3, d4] }
  | _ => none }
def victimAgesRow : OpenClaim := { program := "ytjlkkipickeebaa", sum := "9ef4b2db1d5b3fa2c73447b45fe20c1cd2df7e47049f5d72d4abafe0c1f5a003", func := "croft/croftlaw27.VictimAges", spec := "victimAges", apart := false }
def VictimAgesSaid : Prop := victimAgesRow.holds Try.pinned (OpenSpec.ofChange victimAgesSpec)

/-- ITS FALSE NEIGHBOUR: 'it returns false'. Refute it at one input. -/
def victimAgesWrong : ChangeSpec := { name := "victimAges", fn := fun _ => fun
  | [d1, d2, d3, d4] => { results := [.lit (.bool false)], args := [d1, d2, d3, d4] }
  | _ => none }
def VictimAgesWrongFalsely : Prop := victimAgesRow.holds Try.pinned (OpenSpec.ofChange victimAgesWrong)

/-- 'croftlaw04.CellNested': WHATEVER THE INPUT: true; the input reads as it did. -/
def cellNestedSpec : ChangeSpec := { name := "cellNested", fn := fun _ => fun
  | [d1, d2, d3, d4, d5, d6] => { results := [.lit (.bool true)], args := [d1, d2, d3, d4, d5, d6] }
  | _ => none }
def cellNestedRow : OpenClaim := { program := "ytjlkkipickeebaa", sum := "9ef4b2db1d5b3fa2c73447b45fe20c1cd2df7e47049f5d72d4abafe0c1f5a003", func := "croft/croftlaw04.CellNested", spec := "cellNested", apart := false }
def CellNestedSaid : Prop := cellNestedRow.holds Try.pinned (OpenSpec.ofChange cellNestedSpec)

/-- ITS FALSE NEIGHBOUR: 'it returns false'. Refute it at one input. -/
def cellNestedWrong : ChangeSpec := { name := "cellNested", fn := fun _ => fun
  | [d1, d2, d3, d4, d5, d6] => { results := [.lit (.bool false)], args := [d1, d2, d3, d4, d5, d6] }
  | _ => none }
def CellNestedWrongFalsely : Prop := cellNestedRow.holds Try.pinned (OpenSpec.ofChange cellNestedWrong)

/-- 'croftlaw04.CellTells': WHATEVER THE INPUT: true; the input reads as it did. -/
def cellTellsSpec : ChangeSpec := { name := "cellTells", fn := fun _ => fun
  | [d1, d2, d3, d4] => { results := [.lit (.bool true)], args := [d1, d2, d3, d4] }
  | _ => none }
def cellTellsRow : OpenClaim := { program := "ytjlkkipickeebaa", sum := "9ef4b2db1d5b3fa2c73447b45fe20c1cd2df7e47049f5d72d4abafe0c1f5a003", func := "croft/croftlaw04.CellTells", spec := "cellTells", apart := false }
def CellTellsSaid : Prop := cellTellsRow.holds Try.pinned (OpenSpec.ofChange cellTellsSpec)

/-- ITS FALSE NEIGHBOUR: 'it returns false'. Refute it at one input. -/
def cellTellsWrong : ChangeSpec := { name := "cellTells", fn := fun _ => fun
  | [d1, d2, d3, d4] => { results := [.lit (.bool false)], args := [d1, d2, d3, d4] }
  | _ => none }
def CellTellsWrongFalsely : Prop := cellTellsRow.holds Try.pinned (OpenSpec.ofChange cellTellsWrong)

/-- 'croftlaw06.RectCovers': WHATEVER THE INPUT: true; the input reads as it did. -/
def rectCoversSpec : ChangeSpec := { name := "rectCovers", fn := fun _ => fun
  | [d] => { results := [.lit (.bool true)], args := [d] }
  | _ => none }
def rectCoversRow : OpenClaim := { program := "ytjlkkipickeebaa", sum := "9ef4b2db1d5b3fa2c73447b45fe20c1cd2df7e47049f5d72d4abafe0c1f5a003", func := "croft/croftlaw06.RectCovers", spec := "rectCovers", apart := false }
def RectCoversSaid : Prop := rectCoversRow.holds Try.pinned (OpenSpec.ofChange rectCoversSpec)

/-- ITS FALSE NEIGHBOUR: 'it returns false'. Refute it at one input. -/
def rectCoversWrong : ChangeSpec := { name := "rectCovers", fn := fun _ => fun
  | [d] => { results := [.lit (.bool false)], args := [d] }
  | _ => none }
def RectCoversWrongFalsely : Prop := rectCoversRow.holds Try.pinned (OpenSpec.ofChange rectCoversWrong)

/-- 'croftlaw06.RectTells': WHATEVER THE INPUT: true; the input reads as it did. -/
def rectTellsSpec : ChangeSpec := { name := "rectTells", fn := fun _ => fun
  | [d1, d2, d3, d4] => { results := [.lit (.bool true)], args := [d1, d2, d3, d4] }
  | _ => none }
def rectTellsRow : OpenClaim := { program := "ytjlkkipickeebaa", sum := "9ef4b2db1d5b3fa2c73447b45fe20c1cd2df7e47049f5d72d4abafe0c1f5a003", func := "croft/croftlaw06.RectTells", spec := "rectTells", unfollowed := true, recurses := true, apart := false }
def RectTellsSaid : Prop := rectTellsRow.holds Try.pinned (OpenSpec.ofChange rectTellsSpec)

/-- ITS FALSE NEIGHBOUR: 'it returns false'. Refute it at one input. -/
def rectTellsWrong : ChangeSpec := { name := "rectTells", fn := fun _ => fun
  | [d1, d2, d3, d4] => { results := [.lit (.bool false)], args := [d1, d2, d3, d4] }
  | _ => none }
def RectTellsWrongFalsely : Prop := rectTellsRow.holds Try.pinned (OpenSpec.ofChange rectTellsWrong)

/-- 'croftlaw03.WideAdds': WHATEVER THE INPUT: true; the input reads as it did. -/
def wideAddsSpec : ChangeSpec := { name := "wideAdds", fn := fun _ => fun
  | [d1, d2] => { results := [.lit (.bool true)], args := [d1, d2] }
  | _ => none }
def wideAddsRow : OpenClaim := { program := "ytjlkkipickeebaa", sum := "9ef4b2db1d5b3fa2c73447b45fe20c1cd2df7e47049f5d72d4abafe0c1f5a003", func := "croft/croftlaw03.WideAdds", spec := "wideAdds", inPlace := ["math/bits.Add64"], apart := false }
def WideAddsSaid : Prop := wideAddsRow.holds Try.pinned (OpenSpec.ofChange wideAddsSpec)

/-- ITS FALSE NEIGHBOUR: 'it returns false'. Refute it at one input. -/
def wideAddsWrong : ChangeSpec := { name := "wideAdds", fn := fun _ => fun
  | [d1, d2] => { results := [.lit (.bool false)], args := [d1, d2] }
  | _ => none }
def WideAddsWrongFalsely : Prop := wideAddsRow.holds Try.pinned (OpenSpec.ofChange wideAddsWrong)

/-- 'croftlaw04.CellQuarters': WHATEVER THE INPUT: true; the input reads as it did. -/
def cellQuartersSpec : ChangeSpec := { name := "cellQuarters", fn := fun _ => fun
  | [d1, d2, d3, d4] => { results := [.lit (.bool true)], args := [d1, d2, d3, d4] }
  | _ => none }
def cellQuartersRow : OpenClaim := { program := "ytjlkkipickeebaa", sum := "9ef4b2db1d5b3fa2c73447b45fe20c1cd2df7e47049f5d72d4abafe0c1f5a003", func := "croft/croftlaw04.CellQuarters", spec := "cellQuarters", apart := false }
def CellQuartersSaid : Prop := cellQuartersRow.holds Try.pinned (OpenSpec.ofChange cellQuartersSpec)

/-- ITS FALSE NEIGHBOUR: 'it returns false'. Refute it at one input. -/
def cellQuartersWrong : ChangeSpec := { name := "cellQuarters", fn := fun _ => fun
  | [d1, d2, d3, d4] => { results := [.lit (.bool false)], args := [d1, d2, d3, d4] }
  | _ => none }
def CellQuartersWrongFalsely : Prop := cellQuartersRow.holds Try.pinned (OpenSpec.ofChange cellQuartersWrong)

/-- 'croftlaw27.VictimTells': WHATEVER THE INPUT: true; the input reads as it did. -/
def victimTellsSpec : ChangeSpec := { name := "victimTells", fn := fun _ => fun
  | [d1, d2, d3, d4, d5] => { results := [.lit (.bool true)], args := [d1, d2, d3, d4, d5] }
  | _ => none }
def victimTellsRow : OpenClaim := { program := "ytjlkkipickeebaa", sum := "9ef4b2db1d5b3fa2c73447b45fe20c1cd2df7e47049f5d72d4abafe0c1f5a003", func := "croft/croftlaw27.VictimTells", spec := "victimTells", apart := false }
def VictimTellsSaid : Prop := victimTellsRow.holds Try.pinned (OpenSpec.ofChange victimTellsSpec)

/-- ITS FALSE NEIGHBOUR: 'it returns false'. Refute it at one input. -/
def victimTellsWrong : ChangeSpec := { name := "victimTells", fn := fun _ => fun
  | [d1, d2, d3, d4, d5] => { results := [.lit (.bool false)], args := [d1, d2, d3, d4, d5] }
  | _ => none }
def VictimTellsWrongFalsely : Prop := victimTellsRow.holds Try.pinned (OpenSpec.ofChange victimTellsWrong)

/-- 'croftlaw03.WideTells': WHATEVER THE INPUT: true; the input reads as it did. -/
def wideTellsSpec : ChangeSpec := { name := "wideTells", fn := fun _ => fun
  | [d1, d2, d3, d4, d5, d6] => { results := [.lit (.bool true)], args := [d1, d2, d3, d4, d5, d6] }
  | _ => none }
def wideTellsRow : OpenClaim := { program := "ytjlkkipickeebaa", sum := "9ef4b2db1d5b3fa2c73447b45fe20c1cd2df7e47049f5d72d4abafe0c1f5a003", func := "croft/croftlaw03.WideTells", spec := "wideTells", inPlace := ["math/bits.Add64"], apart := false }
def WideTellsSaid : Prop := wideTellsRow.holds Try.pinned (OpenSpec.ofChange wideTellsSpec)

/-- ITS FALSE NEIGHBOUR: 'it returns false'. Refute it at one input. -/
def wideTellsWrong : ChangeSpec := { name := "wideTells", fn := fun _ => fun
  | [d1, d2, d3, d4, d5, d6] => { results := [.lit (.bool false)], args := [d1, d2, d3, d4, d5, d6] }
  | _ => none }
def WideTellsWrongFalsely : Prop := wideTellsRow.holds Try.pinned (OpenSpec.ofChange wideTellsWrong)

/-- 'croftlaw03.WideRect': WHATEVER THE INPUT: true; the input reads as it did. -/
def wideRectSpec : ChangeSpec := { name := "wideRect", fn := fun _ => fun
  | [d1, d2, d3, d4, d5] => { results := [.lit (.bool true)], args := [d1, d2, d3, d4, d5] }
  | _ => none }
def wideRectRow : OpenClaim := { program := "ytjlkkipickeebaa", sum := "9ef4b2db1d5b3fa2c73447b45fe20c1cd2df7e47049f5d72d4abafe0c1f5a003", func := "croft/croftlaw03.WideRect", spec := "wideRect", inPlace := ["math/bits.Add64"], apart := false }
def WideRectSaid : Prop := wideRectRow.holds Try.pinned (OpenSpec.ofChange wideRectSpec)

/-- ITS FALSE NEIGHBOUR: 'it returns false'. Refute it at one input. -/
def wideRectWrong : ChangeSpec := { name := "wideRect", fn := fun _ => fun
  | [d1, d2, d3, d4, d5] => { results := [.lit (.bool false)], args := [d1, d2, d3, d4, d5] }
  | _ => none }
def WideRectWrongFalsely : Prop := wideRectRow.holds Try.pinned (OpenSpec.ofChange wideRectWrong)

/- THE SECOND FORM. 'bulk': how many values and letters a reading holds, each counted each time it is reached (what is shared counts as often as it is met; a slice's spare places count too). A statement '..UptoSaid' is the law's where the arguments, and the package variables that the reading takes, are together of bulk at most 1048576: NARROWER than '..Said'. Prove '..Said' where nothing that the law and all that it calls make is longer than what came in: it says more and counts as full. Else prove '..UptoSaid'. A law counts once. -/
mutual
def uptoBulk {H : Type} : DataW H → Nat
  | .lit (.string bytes) => bytes.length + 1
  | .lit _ => 1
  | .nil => 1
  | .ptr d => uptoBulk d + 1
  | .slice elems spare => uptoBulkAll elems + uptoBulkAll spare + 1
  | .agg parts => uptoBulkAll parts + 1
  | .iface _ d => uptoBulk d + 1
  | .map entries => uptoBulkEntries entries + 1
  | .held _ => 1
def uptoBulkAll {H : Type} : List (DataW H) → Nat
  | [] => 0
  | d :: r => uptoBulk d + uptoBulkAll r
def uptoBulkEntries {H : Type} : List (Lit × DataW H) → Nat
  | [] => 0
  | x :: r => uptoBulkEntry x + uptoBulkEntries r
def uptoBulkEntry {H : Type} : Lit × DataW H → Nat
  | (.string bytes, d) => bytes.length + uptoBulk d + 1
  | (_, d) => uptoBulk d + 1
 end
def uptoSmall : (H : Type) → List (DataW H) → Bool := fun _ ds => decide (uptoBulkAll ds ≤ 1048576)
def OpenSpec.upto (s : _root_.Go.ChangeSpec) : _root_.Go.OpenSpec := { _root_.Go.OpenSpec.ofChange s with cond := some uptoSmall }

/-- 'croftlaw06.RectAreas', WHERE WHAT IT READS IS OF BULK AT MOST 1048576: true; the input reads as it did. -/
def rectAreasUptoRow : OpenClaim := { program := "ytjlkkipickeebaa", sum := "9ef4b2db1d5b3fa2c73447b45fe20c1cd2df7e47049f5d72d4abafe0c1f5a003", func := "croft/croftlaw06.RectAreas", spec := "rectAreas", apart := false, narrowed := true }
def RectAreasUptoSaid : Prop := rectAreasUptoRow.holds Try.pinned (OpenSpec.upto rectAreasSpec)

/-- 'croftlaw27.VictimOrders', WHERE WHAT IT READS IS OF BULK AT MOST 1048576: true; the input reads as it did. -/
def victimOrdersUptoRow : OpenClaim := { program := "ytjlkkipickeebaa", sum := "9ef4b2db1d5b3fa2c73447b45fe20c1cd2df7e47049f5d72d4abafe0c1f5a003", func := "croft/croftlaw27.VictimOrders", spec := "victimOrders", apart := false, narrowed := true }
def VictimOrdersUptoSaid : Prop := victimOrdersUptoRow.holds Try.pinned (OpenSpec.upto victimOrdersSpec)

/-- 'croftlaw27.VictimAges', WHERE WHAT IT READS IS OF BULK AT MOST 1048576: true; the input reads as it did. -/
def victimAgesUptoRow : OpenClaim := { program := "ytjlkkipickeebaa", sum := "9ef4b2db1d5b3fa2c73447b45fe20c1cd2df7e47049f5d72d4abafe0c1f5a003", func := "croft/croftlaw27.VictimAges", spec := "victimAges", apart := false, narrowed := true }
def VictimAgesUptoSaid : Prop := victimAgesUptoRow.holds Try.pinned (OpenSpec.upto victimAgesSpec)

/-- 'croftlaw04.CellNested', WHERE WHAT IT READS IS OF BULK AT MOST 1048576: true; the input reads as it did. -/
def cellNestedUptoRow : OpenClaim := { program := "ytjlkkipickeebaa", sum := "9ef4b2db1d5b3fa2c73447b45fe20c1cd2df7e47049f5d72d4abafe0c1f5a003", func := "croft/croftlaw04.CellNested", spec := "cellNested", apart := false, narrowed := true }
def CellNestedUptoSaid : Prop := cellNestedUptoRow.holds Try.pinned (OpenSpec.upto cellNestedSpec)

/-- 'croftlaw04.CellTells', WHERE WHAT IT READS IS OF BULK AT MOST 1048576: true; the input reads as it did. -/
def cellTellsUptoRow : OpenClaim := { program := "ytjlkkipickeebaa", sum := "9ef4b2db1d5b3fa2c73447b45fe20c1cd2df7e47049f5d72d4abafe0c1f5a003", func := "croft/croftlaw04.CellTells", spec := "cellTells", apart := false, narrowed := true }
def CellTellsUptoSaid : Prop := cellTellsUptoRow.holds Try.pinned (OpenSpec.upto cellTellsSpec)

/-- 'croftlaw06.RectCovers', WHERE WHAT IT READS IS OF BULK AT MOST 1048576: true; the input reads as it did. -/
def rectCoversUptoRow : OpenClaim := { program := "ytjlkkipickeebaa", sum := "9ef4b2db1d5b3fa2c73447b45fe20c1cd2df7e47049f5d72d4abafe0c1f5a003", func := "croft/croftlaw06.RectCovers", spec := "rectCovers", apart := false, narrowed := true }
def RectCoversUptoSaid : Prop := rectCoversUptoRow.holds Try.pinned (OpenSpec.upto rectCoversSpec)

/-- 'croftlaw06.RectTells', WHERE WHAT IT READS IS OF BULK AT MOST 1048576: true; the input reads as it did. -/
def rectTellsUptoRow : OpenClaim := { program := "ytjlkkipickeebaa", sum := "9ef4b2db1d5b3fa2c73447b45fe20c1cd2df7e47049f5d72d4abafe0c1f5a003", func := "croft/croftlaw06.RectTells", spec := "rectTells", unfollowed := true, recurses := true, apart := false, narrowed := true }
def RectTellsUptoSaid : Prop := rectTellsUptoRow.holds Try.pinned (OpenSpec.upto rectTellsSpec)

/-- 'croftlaw03.WideAdds', WHERE WHAT IT READS IS OF BULK AT MOST 1048576: true; the input reads as it did. -/
def wideAddsUptoRow : OpenClaim := { program := "ytjlkkipickeebaa", sum := "9ef4b2db1d5b3fa2c73447b45fe20c1cd2df7e47049f5d72d4abafe0c1f5a003", func := "croft/croftlaw03.WideAdds", spec := "wideAdds", inPlace := ["math/bits.Add64"], apart := false, narrowed := true }
def WideAddsUptoSaid : Prop := wideAddsUptoRow.holds Try.pinned (OpenSpec.upto wideAddsSpec)

/-- 'croftlaw04.CellQuarters', WHERE WHAT IT READS IS OF BULK AT MOST 1048576: true; the input reads as it did. -/
def cellQuartersUptoRow : OpenClaim := { program := "ytjlkkipickeebaa", sum := "9ef4b2db1d5b3fa2c73447b45fe20c1cd2df7e47049f5d72d4abafe0c1f5a003", func := "croft/croftlaw04.CellQuarters", spec := "cellQuarters", apart := false, narrowed := true }
def CellQuartersUptoSaid : Prop := cellQuartersUptoRow.holds Try.pinned (OpenSpec.upto cellQuartersSpec)

/-- 'croftlaw27.VictimTells', WHERE WHAT IT READS IS OF BULK AT MOST 1048576: true; the input reads as it did. -/
def victimTellsUptoRow : OpenClaim := { program := "ytjlkkipickeebaa", sum := "9ef4b2db1d5b3fa2c73447b45fe20c1cd2df7e47049f5d72d4abafe0c1f5a003", func := "croft/croftlaw27.VictimTells", spec := "victimTells", apart := false, narrowed := true }
def VictimTellsUptoSaid : Prop := victimTellsUptoRow.holds Try.pinned (OpenSpec.upto victimTellsSpec)

/-- 'croftlaw03.WideTells', WHERE WHAT IT READS IS OF BULK AT MOST 1048576: true; the input reads as it did. -/
def wideTellsUptoRow : OpenClaim := { program := "ytjlkkipickeebaa", sum := "9ef4b2db1d5b3fa2c73447b45fe20c1cd2df7e47049f5d72d4abafe0c1f5a003", func := "croft/croftlaw03.WideTells", spec := "wideTells", inPlace := ["math/bits.Add64"], apart := false, narrowed := true }
def WideTellsUptoSaid : Prop := wideTellsUptoRow.holds Try.pinned (OpenSpec.upto wideTellsSpec)

/-- 'croftlaw03.WideRect', WHERE WHAT IT READS IS OF BULK AT MOST 1048576: true; the input reads as it did. -/
def wideRectUptoRow : OpenClaim := { program := "ytjlkkipickeebaa", sum := "9ef4b2db1d5b3fa2c73447b45fe20c1cd2df7e47049f5d72d4abafe0c1f5a003", func := "croft/croftlaw03.WideRect", spec := "wideRect", inPlace := ["math/bits.Add64"], apart := false, narrowed := true }
def WideRectUptoSaid : Prop := wideRectUptoRow.holds Try.pinned (OpenSpec.upto wideRectSpec)

end Rows
end Go.Proofs.Ytjlkkipickeebaa
