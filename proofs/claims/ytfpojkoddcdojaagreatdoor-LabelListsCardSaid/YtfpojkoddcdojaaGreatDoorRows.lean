/-
  NARROWER THAN 'FOR EVERY INPUT', by the rows' own cells (each row's printed sentence says how): ListsGrows: laid · ListsExpires: laid · ListsAll: laid · LabelCounts: laid · LabelLists: laid · CircleFresh: laid · CircleEpochs: laid · ReachReaders: laid.
  DERIVED. THE GIVEN ROWS OF THIS SEAT. 8 by the template 'for every input the law returns true; each argument reads behind the call as it read before'; 0 by the template 'total and deterministic' (their statements: YtfpojkoddcdojaaGreatDoorTotals.lean).
  GIVEN WITH THE SEED: the statements are not yours to turn. If you find one false, say at which input.
  Laid BY PROGRAM, IN A SANDBOX (cutbox-rows.mjs): the forced cells as the released guide's own fill.sh prints them over the translation 7f848d4b744e0912… (all of the seat's roots in one cut). By AI agents, Wed Nov 11 2026. No macro, syntax, notation, axiom, sorry.
-/
import Derived.Test.YtfpojkoddcdojaaGreatDoorChecked
import GoSem.Claim
import GoSem.ClaimJoined
import GoSem.ClaimMapViews
import Derived.JoinedTies
import Derived.KernelRfl
namespace Go.Proofs.YtfpojkoddcdojaaGreatDoor
/- THE CELL 'sum', in the pinned program and in every row, IS THE sha256 OF THE DUMP (.gsa) THAT YtfpojkoddcdojaaGreatDoorProg.lean LOADS. Nothing in Lean hashes anything: it is a label: what it is worth is what the hold of that sum in a sandbox is worth. -/
noncomputable def Tryz.pinned : Pinned := { name := "ytfpojkoddcdojaagreatdoor", sum := "7f848d4b744e0912ca9ea788a032b4d6044787fdb77e55f305ad68ed07cb4d78", checked := Tryz.checked }
namespace Rows
def none {H : Type} : Left H := { results := [], args := [] }

/- WHAT THE LISTED PACKAGE-LEVEL VARIABLES READ AS WHEN THE CALL BEGINS. Each datum BY PROGRAM (the guide's laid-datum.mjs) off the statement by which the dump's own 'gosem.cut.vars' lays the variable. In a bare row this is a premise. The card (YtfpojkoddcdojaaGreatDoorCards.lean) ties it to the program's text. -/
def laid_agora_sum_constants {H : Type} : DataW H := .agg [.lit (.int .u32 1116352408), .lit (.int .u32 1899447441), .lit (.int .u32 3049323471), .lit (.int .u32 3921009573), .lit (.int .u32 961987163), .lit (.int .u32 1508970993), .lit (.int .u32 2453635748), .lit (.int .u32 2870763221), .lit (.int .u32 3624381080), .lit (.int .u32 310598401), .lit (.int .u32 607225278), .lit (.int .u32 1426881987), .lit (.int .u32 1925078388), .lit (.int .u32 2162078206), .lit (.int .u32 2614888103), .lit (.int .u32 3248222580), .lit (.int .u32 3835390401), .lit (.int .u32 4022224774), .lit (.int .u32 264347078), .lit (.int .u32 604807628), .lit (.int .u32 770255983), .lit (.int .u32 1249150122), .lit (.int .u32 1555081692), .lit (.int .u32 1996064986), .lit (.int .u32 2554220882), .lit (.int .u32 2821834349), .lit (.int .u32 2952996808), .lit (.int .u32 3210313671), .lit (.int .u32 3336571891), .lit (.int .u32 3584528711), .lit (.int .u32 113926993), .lit (.int .u32 338241895), .lit (.int .u32 666307205), .lit (.int .u32 773529912), .lit (.int .u32 1294757372), .lit (.int .u32 1396182291), .lit (.int .u32 1695183700), .lit (.int .u32 1986661051), .lit (.int .u32 2177026350), .lit (.int .u32 2456956037), .lit (.int .u32 2730485921), .lit (.int .u32 2820302411), .lit (.int .u32 3259730800), .lit (.int .u32 3345764771), .lit (.int .u32 3516065817), .lit (.int .u32 3600352804), .lit (.int .u32 4094571909), .lit (.int .u32 275423344), .lit (.int .u32 430227734), .lit (.int .u32 506948616), .lit (.int .u32 659060556), .lit (.int .u32 883997877), .lit (.int .u32 958139571), .lit (.int .u32 1322822218), .lit (.int .u32 1537002063), .lit (.int .u32 1747873779), .lit (.int .u32 1955562222), .lit (.int .u32 2024104815), .lit (.int .u32 2227730452), .lit (.int .u32 2361852424), .lit (.int .u32 2428436474), .lit (.int .u32 2756734187), .lit (.int .u32 3204031479), .lit (.int .u32 3329325298)]
def laid_agora_sum_initial {H : Type} : DataW H := .agg [.lit (.int .u32 1779033703), .lit (.int .u32 3144134277), .lit (.int .u32 1013904242), .lit (.int .u32 2773480762), .lit (.int .u32 1359893119), .lit (.int .u32 2600822924), .lit (.int .u32 528734635), .lit (.int .u32 1541459225)]

/-- 'agoralaw37.ListsGrows': WHATEVER THE INPUT: true; the input reads as it did. -/
def listsGrowsSpec : ChangeSpec := { name := "listsGrows", fn := fun _ => fun
  | [d1, d2, d3] => { results := [.lit (.bool true)], args := [d1, d2, d3] }
  | _ => none }
def listsGrowsRow : OpenClaim := { program := "ytfpojkoddcdojaagreatdoor", sum := "7f848d4b744e0912ca9ea788a032b4d6044787fdb77e55f305ad68ed07cb4d78", func := "agora/agoralaw37.ListsGrows", spec := "listsGrows", unfollowed := true, recurses := true, named := ["agora/sum.initial", "agora/sum.constants"], apart := false, laid := [("agora/sum.constants", laid_agora_sum_constants), ("agora/sum.initial", laid_agora_sum_initial)] }
def ListsGrowsSaid : Prop := listsGrowsRow.holds Tryz.pinned (OpenSpec.ofChange listsGrowsSpec)

/-- ITS FALSE NEIGHBOUR: 'it returns false'. Refute it at one input. -/
def listsGrowsWrong : ChangeSpec := { name := "listsGrows", fn := fun _ => fun
  | [d1, d2, d3] => { results := [.lit (.bool false)], args := [d1, d2, d3] }
  | _ => none }
def ListsGrowsWrongFalsely : Prop := listsGrowsRow.holds Tryz.pinned (OpenSpec.ofChange listsGrowsWrong)

/-- 'agoralaw37.ListsExpires': WHATEVER THE INPUT: true; the input reads as it did. -/
def listsExpiresSpec : ChangeSpec := { name := "listsExpires", fn := fun _ => fun
  | [d1, d2, d3, d4] => { results := [.lit (.bool true)], args := [d1, d2, d3, d4] }
  | _ => none }
def listsExpiresRow : OpenClaim := { program := "ytfpojkoddcdojaagreatdoor", sum := "7f848d4b744e0912ca9ea788a032b4d6044787fdb77e55f305ad68ed07cb4d78", func := "agora/agoralaw37.ListsExpires", spec := "listsExpires", unfollowed := true, recurses := true, named := ["agora/sum.initial", "agora/sum.constants"], apart := false, laid := [("agora/sum.constants", laid_agora_sum_constants), ("agora/sum.initial", laid_agora_sum_initial)] }
def ListsExpiresSaid : Prop := listsExpiresRow.holds Tryz.pinned (OpenSpec.ofChange listsExpiresSpec)

/-- ITS FALSE NEIGHBOUR: 'it returns false'. Refute it at one input. -/
def listsExpiresWrong : ChangeSpec := { name := "listsExpires", fn := fun _ => fun
  | [d1, d2, d3, d4] => { results := [.lit (.bool false)], args := [d1, d2, d3, d4] }
  | _ => none }
def ListsExpiresWrongFalsely : Prop := listsExpiresRow.holds Tryz.pinned (OpenSpec.ofChange listsExpiresWrong)

/-- 'agoralaw37.ListsAll': WHATEVER THE INPUT: true; the input reads as it did. -/
def listsAllSpec : ChangeSpec := { name := "listsAll", fn := fun _ => fun
  | [d1, d2, d3] => { results := [.lit (.bool true)], args := [d1, d2, d3] }
  | _ => none }
def listsAllRow : OpenClaim := { program := "ytfpojkoddcdojaagreatdoor", sum := "7f848d4b744e0912ca9ea788a032b4d6044787fdb77e55f305ad68ed07cb4d78", func := "agora/agoralaw37.ListsAll", spec := "listsAll", unfollowed := true, recurses := true, named := ["agora/sum.initial", "agora/sum.constants"], apart := false, laid := [("agora/sum.constants", laid_agora_sum_constants), ("agora/sum.initial", laid_agora_sum_initial)] }
def ListsAllSaid : Prop := listsAllRow.holds Tryz.pinned (OpenSpec.ofChange listsAllSpec)

/-- ITS FALSE NEIGHBOUR: 'it returns false'. Refute it at one input. -/
def listsAllWrong : ChangeSpec := { name := "listsAll", fn := fun _ => fun
  | [d1, d2, d3] => { results := [.lit (.bool false)], args := [d1, d2, d3] }
  | _ => none }
def ListsAllWrongFalsely : Prop := listsAllRow.holds Tryz.pinned (OpenSpec.ofChange listsAllWrong)

/-- 'agoralaw34.LabelCounts': WHATEVER THE INPUT: true; the input reads as it did. -/
def labelCountsSpec : ChangeSpec := { name := "labelCounts", fn := fun _ => fun
  | [d1, d2, d3, d4] => { results := [.lit (.bool true)], args := [d1, d2, d3, d4] }
  | _ => none }
def labelCountsRow : OpenClaim := { program := "ytfpojkoddcdojaagreatdoor", sum := "7f848d4b744e0912ca9ea788a032b4d6044787fdb77e55f305ad68ed07cb4d78", func := "agora/agoralaw34.LabelCounts", spec := "labelCounts", unfollowed := true, recurses := true, named := ["agora/sum.initial", "agora/sum.constants"], apart := false, laid := [("agora/sum.constants", laid_agora_sum_constants), ("agora/sum.initial", laid_agora_sum_initial)] }
def LabelCountsSaid : Prop := labelCountsRow.holds Tryz.pinned (OpenSpec.ofChange labelCountsSpec)

/-- ITS FALSE NEIGHBOUR: 'it returns false'. Refute it at one input. -/
def labelCountsWrong : ChangeSpec := { name := "labelCounts", fn := fun _ => fun
  | [d1, d2, d3, d4] => { results := [.lit (.bool false)], args := [d1, d2, d3, d4] }
  | _ => none }
def LabelCountsWrongFalsely : Prop := labelCountsRow.holds Tryz.pinned (OpenSpec.ofChange labelCountsWrong)

/-- 'agoralaw34.LabelLists': WHATEVER THE INPUT: true; the input reads as it did. -/
def labelListsSpec : ChangeSpec := { name := "labelLists", fn := fun _ => fun
  | [d1, d2, d3] => { results := [.lit (.bool true)], args := [d1, d2, d3] }
  | _ => none }
def labelListsRow : OpenClaim := { program := "ytfpojkoddcdojaagreatdoor", sum := "7f848d4b744e0912ca9ea788a032b4d6044787fdb77e55f305ad68ed07cb4d78", func := "agora/agoralaw34.LabelLists", spec := "labelLists", unfollowed := true, recurses := true, named := ["agora/sum.initial", "agora/sum.constants"], apart := false, laid := [("agora/sum.constants", laid_agora_sum_constants), ("agora/sum.initial", laid_agora_sum_initial)] }
def LabelListsSaid : Prop := labelListsRow.holds Tryz.pinned (OpenSpec.ofChange labelListsSpec)

/-- ITS FALSE NEIGHBOUR: 'it returns false'. Refute it at one input. -/
def labelListsWrong : ChangeSpec := { name := "labelLists", fn := fun _ => fun
  | [d1, d2, d3] => { results := [.lit (.bool false)], args := [d1, d2, d3] }
  | _ => none }
def LabelListsWrongFalsely : Prop := labelListsRow.holds Tryz.pinned (OpenSpec.ofChange labelListsWrong)

/-- 'agoralaw22.CircleFresh': WHATEVER THE INPUT: true; the input reads as it did. -/
def circleFreshSpec : ChangeSpec := { name := "circleFresh", fn := fun _ => fun
  | [d1, d2, d3, d4, d5, d6, d7] => { results := [.lit (.bool true)], args := [d1, d2, d3, d4, d5, d6, d7] }
  | _ => none }
def circleFreshRow : OpenClaim := { program := "ytfpojkoddcdojaagreatdoor", sum := "7f848d4b744e0912ca9ea788a032b4d6044787fdb77e55f305ad68ed07cb4d78", func := "agora/agoralaw22.CircleFresh", spec := "circleFresh", unfollowed := true, recurses := true, named := ["agora/sum.initial", "agora/sum.constants"], apart := false, laid := [("agora/sum.constants", laid_agora_sum_constants), ("agora/sum.initial", laid_agora_sum_initial)] }
def CircleFreshSaid : Prop := circleFreshRow.holds Tryz.pinned (OpenSpec.ofChange circleFreshSpec)

/-- ITS FALSE NEIGHBOUR: 'it returns false'. Refute it at one input. -/
def circleFreshWrong : ChangeSpec := { name := "circleFresh", fn := fun _ => fun
  | [d1, d2, d3, d4, d5, d6, d7] => { results := [.lit (.bool false)], args := [d1, d2, d3, d4, d5, d6, d7] }
  | _ => none }
def CircleFreshWrongFalsely : Prop := circleFreshRow.holds Tryz.pinned (OpenSpec.ofChange circleFreshWrong)

/-- 'agoralaw22.CircleEpochs': WHATEVER THE INPUT: true; the input reads as it did. -/
def circleEpochsSpec : ChangeSpec := { name := "circleEpochs", fn := fun _ => fun
  | [d1, d2, d3] => { results := [.lit (.bool true)], args := [d1, d2, d3] }
  | _ => none }
def circleEpochsRow : OpenClaim := { program := "ytfpojkoddcdojaagreatdoor", sum := "7f848d4b744e0912ca9ea788a032b4d6044787fdb77e55f305ad68ed07cb4d78", func := "agora/agoralaw22.CircleEpochs", spec := "circleEpochs", unfollowed := true, recurses := true, named := ["agora/sum.initial", "agora/sum.constants"], apart := false, laid := [("agora/sum.constants", laid_agora_sum_constants), ("agora/sum.initial", laid_agora_sum_initial)] }
def CircleEpochsSaid : Prop := circleEpochsRow.holds Tryz.pinned (OpenSpec.ofChange circleEpochsSpec)

/-- ITS FALSE NEIGHBOUR: 'it returns false'. Refute it at one input. -/
def circleEpochsWrong : ChangeSpec := { name := "circleEpochs", fn := fun _ => fun
  | [d1, d2, d3] => { results := [.lit (.bool false)], args := [d1, d2, d3] }
  | _ => none }
def CircleEpochsWrongFalsely : Prop := circleEpochsRow.holds Tryz.pinned (OpenSpec.ofChange circleEpochsWrong)

/-- 'agoralaw25.ReachReaders': WHATEVER THE INPUT: true; the input reads as it did. -/
def reachReadersSpec : ChangeSpec := { name := "reachReaders", fn := fun _ => fun
  | [d1, d2, d3] => { results := [.lit (.bool true)], args := [d1, d2, d3] }
  | _ => none }
def reachReadersRow : OpenClaim := { program := "ytfpojkoddcdojaagreatdoor", sum := "7f848d4b744e0912ca9ea788a032b4d6044787fdb77e55f305ad68ed07cb4d78", func := "agora/agoralaw25.ReachReaders", spec := "reachReaders", unfollowed := true, recurses := true, named := ["agora/sum.initial", "agora/sum.constants"], apart := false, laid := [("agora/sum.constants", laid_agora_sum_constants), ("agora/sum.initial", laid_agora_sum_initial)] }
def ReachReadersSaid : Prop := reachReadersRow.holds Tryz.pinned (OpenSpec.ofChange reachReadersSpec)

/-- ITS FALSE NEIGHBOUR: 'it returns false'. Refute it at one input. -/
def reachReadersWrong : ChangeSpec := { name := "reachReaders", fn := fun _ => fun
  | [d1, d2, d3] => { results := [.lit (.bool false)], args := [d1, d2, d3] }
  | _ => none }
def ReachReadersWrongFalsely : Prop := reachReadersRow.holds Tryz.pinned (OpenSpec.ofChange reachReadersWrong)

/- THE SECOND FORM. 'bulk': how many values and letters a reading holds, each counted each time it is reached (what is shared counts as often as it is met; a slice's spare places count too). A statement '..UptoSaid' is the law's where the arguments, and the package variables that the reading takes, are together of bulk at most 1048576: NARROWER than '..Said'. Prove '..Said' where nothing that the law and all that it calls make is longer than what came in: it says more and counts as full. Else prove '..UptoSaid'. A law counts once. -/
mutual
def uptoBulk {H : Type} : DataW H → Nat
  | .lit (.string bytes) => bytes.length + 1
  | .lit _ => 1
  | .nil => 1
  | .ptr d => uptoBulk d + 1
  | .slice elems spare => uptoBulkAll elems + uptoBulkAll spare + 1
  | .agg parts => uptoBulkAll parts + 1
  | .iface _ d => uptoBulk d + 1
  | .map entries => uptoBulkEntries entries + 1
  | .held _ => 1
def uptoBulkAll {H : Type} : List (DataW H) → Nat
  | [] => 0
  | d :: r => uptoBulk d + uptoBulkAll r
def uptoBulkEntries {H : Type} : List (Lit × DataW H) → Nat
  | [] => 0
  | x :: r => uptoBulkEntry x + uptoBulkEntries r
def uptoBulkEntry {H : Type} : Lit × DataW H → Nat
  | (.string bytes, d) => bytes.length + uptoBulk d + 1
  | (_, d) => uptoBulk d + 1
 end
def uptoSmall : (H : Type) → List (DataW H) → Bool := fun _ ds => decide (uptoBulkAll ds ≤ 1048576)
def OpenSpec.upto (s : _root_.Go.ChangeSpec) : _root_.Go.OpenSpec := { _root_.Go.OpenSpec.ofChange s with cond := some uptoSmall }

/-- 'agoralaw37.ListsGrows', WHERE WHAT IT READS IS OF BULK AT MOST 1048576: true; the input reads as it did. -/
def listsGrowsUptoRow : OpenClaim := { program := "ytfpojkoddcdojaagreatdoor", sum := "7f848d4b744e0912ca9ea788a032b4d6044787fdb77e55f305ad68ed07cb4d78", func := "agora/agoralaw37.ListsGrows", spec := "listsGrows", unfollowed := true, recurses := true, named := ["agora/sum.initial", "agora/sum.constants"], apart := false, laid := [("agora/sum.constants", laid_agora_sum_constants), ("agora/sum.initial", laid_agora_sum_initial)], narrowed := true }
def ListsGrowsUptoSaid : Prop := listsGrowsUptoRow.holds Tryz.pinned (OpenSpec.upto listsGrowsSpec)

/-- 'agoralaw37.ListsExpires', WHERE WHAT IT READS IS OF BULK AT MOST 1048576: true; the input reads as it did. -/
def listsExpiresUptoRow : OpenClaim := { program := "ytfpojkoddcdojaagreatdoor", sum := "7f848d4b744e0912ca9ea788a032b4d6044787fdb77e55f305ad68ed07cb4d78", func := "agora/agoralaw37.ListsExpires", spec := "listsExpires", unfollowed := true, recurses := true, named := ["agora/sum.initial", "agora/sum.constants"], apart := false, laid := [("agora/sum.constants", laid_agora_sum_constants), ("agora/sum.initial", laid_agora_sum_initial)], narrowed := true }
def ListsExpiresUptoSaid : Prop := listsExpiresUptoRow.holds Tryz.pinned (OpenSpec.upto listsExpiresSpec)

/-- 'agoralaw37.ListsAll', WHERE WHAT IT READS IS OF BULK AT MOST 1048576: true; the input reads as it did. -/
def listsAllUptoRow : OpenClaim := { program := "ytfpojkoddcdojaagreatdoor", sum := "7f848d4b744e0912ca9ea788a032b4d6044787fdb77e55f305ad68ed07cb4d78", func := "agora/agoralaw37.ListsAll", spec := "listsAll", unfollowed := true, recurses := true, named := ["agora/sum.initial", "agora/sum.constants"], apart := false, laid := [("agora/sum.constants", laid_agora_sum_constants), ("agora/sum.initial", laid_agora_sum_initial)], narrowed := true }
def ListsAllUptoSaid : Prop := listsAllUptoRow.holds Tryz.pinned (OpenSpec.upto listsAllSpec)

/-- 'agoralaw34.LabelCounts', WHERE WHAT IT READS IS OF BULK AT MOST 1048576: true; the input reads as it did. -/
def labelCountsUptoRow : OpenClaim := { program := "ytfpojkoddcdojaagreatdoor", sum := "7f848d4b744e0912ca9ea788a032b4d6044787fdb77e55f305ad68ed07cb4d78", func := "agora/agoralaw34.LabelCounts", spec := "labelCounts", unfollowed := true, recurses := true, named := ["agora/sum.initial", "agora/sum.constants"], apart := false, laid := [("agora/sum.constants", laid_agora_sum_constants), ("agora/sum.initial", laid_agora_sum_initial)], narrowed := true }
def LabelCountsUptoSaid : Prop := labelCountsUptoRow.holds Tryz.pinned (OpenSpec.upto labelCountsSpec)

/-- 'agoralaw34.LabelLists', WHERE WHAT IT READS IS OF BULK AT MOST 1048576: true; the input reads as it did. -/
def labelListsUptoRow : OpenClaim := { program := "ytfpojkoddcdojaagreatdoor", sum := "7f848d4b744e0912ca9ea788a032b4d6044787fdb77e55f305ad68ed07cb4d78", func := "agora/agoralaw34.LabelLists", spec := "labelLists", unfollowed := true, recurses := true, named := ["agora/sum.initial", "agora/sum.constants"], apart := false, laid := [("agora/sum.constants", laid_agora_sum_constants), ("agora/sum.initial", laid_agora_sum_initial)], narrowed := true }
def LabelListsUptoSaid : Prop := labelListsUptoRow.holds Tryz.pinned (OpenSpec.upto labelListsSpec)

/-- 'agoralaw22.CircleFresh', WHERE WHAT IT READS IS OF BULK AT MOST 1048576: true; the input reads as it did. -/
def circleFreshUptoRow : OpenClaim := { program := "ytfpojkoddcdojaagreatdoor", sum := "7f848d4b744e0912ca9ea788a032b4d6044787fdb77e55f305ad68ed07cb4d78", func := "agora/agoralaw22.CircleFresh", spec := "circleFresh", unfollowed := true, recurses := true, named := ["agora/sum.initial", "agora/sum.constants"], apart := false, laid := [("agora/sum.constants", laid_agora_sum_constants), ("agora/sum.initial", laid_agora_sum_initial)], narrowed := true }
def CircleFreshUptoSaid : Prop := circleFreshUptoRow.holds Tryz.pinned (OpenSpec.upto circleFreshSpec)

/-- 'agoralaw22.CircleEpochs', WHERE WHAT IT READS IS OF BULK AT MOST 1048576: true; the input reads as it did. -/
def circleEpochsUptoRow : OpenClaim := { program := "ytfpojkoddcdojaagreatdoor", sum := "7f848d4b744e0912ca9ea788a032b4d6044787fdb77e55f305ad68ed07cb4d78", func := "agora/agoralaw22.CircleEpochs", spec := "circleEpochs", unfollowed := true, recurses := true, named := ["agora/sum.initial", "agora/sum.constants"], apart := false, laid := [("agora/sum.constants", laid_agora_sum_constants), ("agora/sum.initial", laid_agora_sum_initial)], narrowed := true }
def CircleEpochsUptoSaid : Prop := circleEpochsUptoRow.holds Tryz.pinned (OpenSpec.upto circleEpochsSpec)

/-- 'agoralaw25.ReachReaders', WHERE WHAT IT READS IS OF BULK AT MOST 1048576: true; the input reads as it did. -/
def reachReadersUptoRow : OpenClaim := { program := "ytfpojkoddcdojaagreatdoor", sum := "7f848d4b744e0912ca9ea788a032b4d6044787fdb77e55f305ad68ed07cb4d78", func := "agora/agoralaw25.ReachReaders", spec := "reachReaders", unfollowed := true, recurses := true, named := ["agora/sum.initial", "agora/sum.constants"], apart := false, laid := [("agora/sum.constants", laid_agora_sum_constants), ("agora/sum.initial", laid_agora_sum_initial)], narrowed := true }
def ReachReadersUptoSaid : Prop := reachReadersUptoRow.holds Tryz.pinned (OpenSpec.upto reachReadersSpec)

end Rows
end Go.Proofs.YtfpojkoddcdojaaGreatDoor
