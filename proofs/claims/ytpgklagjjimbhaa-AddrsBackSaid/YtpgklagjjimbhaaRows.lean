/-
  No cell of these rows narrows 'for every input' (looked for: loops, veiled, ifaces, maps, wideKeys, modest, calm, conditions, laid).
  DERIVED. THE GIVEN ROWS OF THIS SEAT. 23 by the template 'for every input the law returns true; each argument reads behind the call as it read before'; 0 by the template 'total and deterministic' (their statements: YtpgklagjjimbhaaTotals.lean).
  GIVEN WITH THE SEED: the statements are not yours to turn. If you find one false, say at which input.
  Laid BY PROGRAM, IN A SANDBOX (cutbox-rows.mjs): the forced cells as the released guide's own fill.sh prints them over the translation 5a46c0b68ec56859… (all of the seat's roots in one cut). By AI agents, Wed Nov 11 2026. No macro, syntax, notation, axiom, sorry.
-/
import Derived.Test.YtpgklagjjimbhaaChecked
import GoSem.Claim
import GoSem.ClaimJoined
import GoSem.ClaimMapViews
import Derived.JoinedTies
import Derived.KernelRfl
namespace Go.Proofs.Ytpgklagjjimbhaa
/- THE CELL 'sum', in the pinned program and in every row, IS THE sha256 OF THE DUMP (.gsa) THAT YtpgklagjjimbhaaProg.lean LOADS. Nothing in Lean hashes anything: it is a label: what it is worth is what the hold of that sum in a sandbox is worth. -/
noncomputable def Try.pinned : Pinned := { name := "ytpgklagjjimbhaa", sum := "5a46c0b68ec56859516117648d3b4a1021353cc8b98047729a4bd5b3e0952fd2", checked := Try.checked }
namespace Rows
def none {H : Type} : Left H := { results := [], args := [] }

/-- 'umpirelaw12.OptionPuts': WHATEVER THE INPUT: true; the input reads as it did. -/
def optionPutsSpec : ChangeSpec := { name := "optionPuts", fn := fun _ => fun
  | [d] => { results := [.lit (.bool true)], args := [d] }
  | _ => none }
def optionPutsRow : OpenClaim := { program := "ytpgklagjjimbhaa", sum := "5a46c0b68ec56859516117648d3b4a1021353cc8b98047729a4bd5b3e0952fd2", func := "umpire/umpirelaw12.OptionPuts", spec := "optionPuts", unfollowed := true, recurses := true, apart := false }
def OptionPutsSaid : Prop := optionPutsRow.holds Try.pinned (OpenSpec.ofChange optionPutsSpec)

/-- ITS FALSE NEIGHBOUR: 'it returns false'. Refute it at one input. -/
def optionPutsWrong : ChangeSpec := { name := "optionPuts", fn := fun _ => fun
  | [d] => { results := [.lit (.bool false)], args := [d] }
  | _ => none }
def OptionPutsWrongFalsely : Prop := optionPutsRow.holds Try.pinned (OpenSpec.ofChange optionPutsWrong)

/-- 'umpirelaw12.OptionReads': WHATEVER THE INPUT: true; the input reads as it did. -/
def optionReadsSpec : ChangeSpec := { name := "optionReads", fn := fun _ => fun
  | [d] => { results := [.lit (.bool true)], args := [d] }
  | _ => none }
def optionReadsRow : OpenClaim := { program := "ytpgklagjjimbhaa", sum := "5a46c0b68ec56859516117648d3b4a1021353cc8b98047729a4bd5b3e0952fd2", func := "umpire/umpirelaw12.OptionReads", spec := "optionReads", unfollowed := true, recurses := true, apart := false }
def OptionReadsSaid : Prop := optionReadsRow.holds Try.pinned (OpenSpec.ofChange optionReadsSpec)

/-- ITS FALSE NEIGHBOUR: 'it returns false'. Refute it at one input. -/
def optionReadsWrong : ChangeSpec := { name := "optionReads", fn := fun _ => fun
  | [d] => { results := [.lit (.bool false)], args := [d] }
  | _ => none }
def OptionReadsWrongFalsely : Prop := optionReadsRow.holds Try.pinned (OpenSpec.ofChange optionReadsWrong)

/-- 'umpirelaw12.OptionBack': WHATEVER THE INPUT: true; the input reads as it did. -/
def optionBackSpec : ChangeSpec := { name := "optionBack", fn := fun _ => fun
  | [d1, d2, d3] => { results := [.lit (.bool true)], args := [d1, d2, d3] }
  | _ => none }
def optionBackRow : OpenClaim := { program := "ytpgklagjjimbhaa", sum := "5a46c0b68ec56859516117648d3b4a1021353cc8b98047729a4bd5b3e0952fd2", func := "umpire/umpirelaw12.OptionBack", spec := "optionBack", unfollowed := true, recurses := true, apart := false }
def OptionBackSaid : Prop := optionBackRow.holds Try.pinned (OpenSpec.ofChange optionBackSpec)

/-- ITS FALSE NEIGHBOUR: 'it returns false'. Refute it at one input. -/
def optionBackWrong : ChangeSpec := { name := "optionBack", fn := fun _ => fun
  | [d1, d2, d3] => { results := [.lit (.bool false)], args := [d1, d2, d3] }
  | _ => none }
def OptionBackWrongFalsely : Prop := optionBackRow.holds Try.pinned (OpenSpec.ofChange optionBackWrong)

/-- 'umpirelaw12.OptionFinds': WHATEVER THE INPUT: true; the input reads as it did. -/
def optionFindsSpec : ChangeSpec := { name := "optionFinds", fn := fun _ => fun
  | [d1, d2, d3] => { results := [.lit (.bool true)], args := [d1, d2, d3] }
  | _ => none }
def optionFindsRow : OpenClaim := { program := "ytpgklagjjimbhaa", sum := "5a46c0b68ec56859516117648d3b4a1021353cc8b98047729a4bd5b3e0952fd2", func := "umpire/umpirelaw12.OptionFinds", spec := "optionFinds", unfollowed := true, recurses := true, apart := false }
def OptionFindsSaid : Prop := optionFindsRow.holds Try.pinned (OpenSpec.ofChange optionFindsSpec)

/-- ITS FALSE NEIGHBOUR: 'it returns false'. Refute it at one input. -/
def optionFindsWrong : ChangeSpec := { name := "optionFinds", fn := fun _ => fun
  | [d1, d2, d3] => { results := [.lit (.bool false)], args := [d1, d2, d3] }
  | _ => none }
def OptionFindsWrongFalsely : Prop := optionFindsRow.holds Try.pinned (OpenSpec.ofChange optionFindsWrong)

/-- 'umpirelaw12.OptionTaken': WHATEVER THE INPUT: true; the input reads as it did. -/
def optionTakenSpec : ChangeSpec := { name := "optionTaken", fn := fun _ => fun
  | [d1, d2] => { results := [.lit (.bool true)], args := [d1, d2] }
  | _ => none }
def optionTakenRow : OpenClaim := { program := "ytpgklagjjimbhaa", sum := "5a46c0b68ec56859516117648d3b4a1021353cc8b98047729a4bd5b3e0952fd2", func := "umpire/umpirelaw12.OptionTaken", spec := "optionTaken", unfollowed := true, recurses := true, apart := false }
def OptionTakenSaid : Prop := optionTakenRow.holds Try.pinned (OpenSpec.ofChange optionTakenSpec)

/-- ITS FALSE NEIGHBOUR: 'it returns false'. Refute it at one input. -/
def optionTakenWrong : ChangeSpec := { name := "optionTaken", fn := fun _ => fun
  | [d1, d2] => { results := [.lit (.bool false)], args := [d1, d2] }
  | _ => none }
def OptionTakenWrongFalsely : Prop := optionTakenRow.holds Try.pinned (OpenSpec.ofChange optionTakenWrong)

/-- 'umpirelaw12.OptionKeeps': WHATEVER THE INPUT: true; the input reads as it did. -/
def optionKeepsSpec : ChangeSpec := { name := "optionKeeps", fn := fun _ => fun
  | [d1, d2] => { results := [.lit (.bool true)], args := [d1, d2] }
  | _ => none }
def optionKeepsRow : OpenClaim := { program := "ytpgklagjjimbhaa", sum := "5a46c0b68ec56859516117648d3b4a1021353cc8b98047729a4bd5b3e0952fd2", func := "umpire/umpirelaw12.OptionKeeps", spec := "optionKeeps", unfollowed := true, recurses := true, apart := false }
def OptionKeepsSaid : Prop := optionKeepsRow.holds Try.pinned (OpenSpec.ofChange optionKeepsSpec)

/-- ITS FALSE NEIGHBOUR: 'it returns false'. Refute it at one input. -/
def optionKeepsWrong : ChangeSpec := { name := "optionKeeps", fn := fun _ => fun
  | [d1, d2] => { results := [.lit (.bool false)], args := [d1, d2] }
  | _ => none }
def OptionKeepsWrongFalsely : Prop := optionKeepsRow.holds Try.pinned (OpenSpec.ofChange optionKeepsWrong)

/-- 'umpirelaw13.PacketPuts': WHATEVER THE INPUT: true; the input reads as it did. -/
def packetPutsSpec : ChangeSpec := { name := "packetPuts", fn := fun _ => fun
  | [d] => { results := [.lit (.bool true)], args := [d] }
  | _ => none }
def packetPutsRow : OpenClaim := { program := "ytpgklagjjimbhaa", sum := "5a46c0b68ec56859516117648d3b4a1021353cc8b98047729a4bd5b3e0952fd2", func := "umpire/umpirelaw13.PacketPuts", spec := "packetPuts", apart := false }
def PacketPutsSaid : Prop := packetPutsRow.holds Try.pinned (OpenSpec.ofChange packetPutsSpec)

/-- ITS FALSE NEIGHBOUR: 'it returns false'. Refute it at one input. -/
def packetPutsWrong : ChangeSpec := { name := "packetPuts", fn := fun _ => fun
  | [d] => { results := [.lit (.bool false)], args := [d] }
  | _ => none }
def PacketPutsWrongFalsely : Prop := packetPutsRow.holds Try.pinned (OpenSpec.ofChange packetPutsWrong)

/-- 'umpirelaw13.PacketGets': WHATEVER THE INPUT: true; the input reads as it did. -/
def packetGetsSpec : ChangeSpec := { name := "packetGets", fn := fun _ => fun
  | [d] => { results := [.lit (.bool true)], args := [d] }
  | _ => none }
def packetGetsRow : OpenClaim := { program := "ytpgklagjjimbhaa", sum := "5a46c0b68ec56859516117648d3b4a1021353cc8b98047729a4bd5b3e0952fd2", func := "umpire/umpirelaw13.PacketGets", spec := "packetGets", apart := false }
def PacketGetsSaid : Prop := packetGetsRow.holds Try.pinned (OpenSpec.ofChange packetGetsSpec)

/-- ITS FALSE NEIGHBOUR: 'it returns false'. Refute it at one input. -/
def packetGetsWrong : ChangeSpec := { name := "packetGets", fn := fun _ => fun
  | [d] => { results := [.lit (.bool false)], args := [d] }
  | _ => none }
def PacketGetsWrongFalsely : Prop := packetGetsRow.holds Try.pinned (OpenSpec.ofChange packetGetsWrong)

/-- 'umpirelaw13.PacketBack': WHATEVER THE INPUT: true; the input reads as it did. -/
def packetBackSpec : ChangeSpec := { name := "packetBack", fn := fun _ => fun
  | [d1, d2, d3, d4] => { results := [.lit (.bool true)], args := [d1, d2, d3, d4] }
  | _ => none }
def packetBackRow : OpenClaim := { program := "ytpgklagjjimbhaa", sum := "5a46c0b68ec56859516117648d3b4a1021353cc8b98047729a4bd5b3e0952fd2", func := "umpire/umpirelaw13.PacketBack", spec := "packetBack", apart := false }
def PacketBackSaid : Prop := packetBackRow.holds Try.pinned (OpenSpec.ofChange packetBackSpec)

/-- ITS FALSE NEIGHBOUR: 'it returns false'. Refute it at one input. -/
def packetBackWrong : ChangeSpec := { name := "packetBack", fn := fun _ => fun
  | [d1, d2, d3, d4] => { results := [.lit (.bool false)], args := [d1, d2, d3, d4] }
  | _ => none }
def PacketBackWrongFalsely : Prop := packetBackRow.holds Try.pinned (OpenSpec.ofChange packetBackWrong)

/-- 'umpirelaw13.PacketParts': WHATEVER THE INPUT: true; the input reads as it did. -/
def packetPartsSpec : ChangeSpec := { name := "packetParts", fn := fun _ => fun
  | [d1, d2] => { results := [.lit (.bool true)], args := [d1, d2] }
  | _ => none }
def packetPartsRow : OpenClaim := { program := "ytpgklagjjimbhaa", sum := "5a46c0b68ec56859516117648d3b4a1021353cc8b98047729a4bd5b3e0952fd2", func := "umpire/umpirelaw13.PacketParts", spec := "packetParts", apart := false }
def PacketPartsSaid : Prop := packetPartsRow.holds Try.pinned (OpenSpec.ofChange packetPartsSpec)

/-- ITS FALSE NEIGHBOUR: 'it returns false'. Refute it at one input. -/
def packetPartsWrong : ChangeSpec := { name := "packetParts", fn := fun _ => fun
  | [d1, d2] => { results := [.lit (.bool false)], args := [d1, d2] }
  | _ => none }
def PacketPartsWrongFalsely : Prop := packetPartsRow.holds Try.pinned (OpenSpec.ofChange packetPartsWrong)

/-- 'umpirelaw13.PacketKeeps': WHATEVER THE INPUT: true; the input reads as it did. -/
def packetKeepsSpec : ChangeSpec := { name := "packetKeeps", fn := fun _ => fun
  | [d] => { results := [.lit (.bool true)], args := [d] }
  | _ => none }
def packetKeepsRow : OpenClaim := { program := "ytpgklagjjimbhaa", sum := "5a46c0b68ec56859516117648d3b4a1021353cc8b98047729a4bd5b3e0952fd2", func := "umpire/umpirelaw13.PacketKeeps", spec := "packetKeeps", apart := false }
def PacketKeepsSaid : Prop := packetKeepsRow.holds Try.pinned (OpenSpec.ofChange packetKeepsSpec)

/-- ITS FALSE NEIGHBOUR: 'it returns false'. Refute it at one input. -/
def packetKeepsWrong : ChangeSpec := { name := "packetKeeps", fn := fun _ => fun
  | [d] => { results := [.lit (.bool false)], args := [d] }
  | _ => none }
def PacketKeepsWrongFalsely : Prop := packetKeepsRow.holds Try.pinned (OpenSpec.ofChange packetKeepsWrong)

/-- 'umpirelaw15.AddrsRights': WHATEVER THE INPUT: true; the input reads as it did. -/
def addrsRightsSpec : ChangeSpec := { name := "addrsRights", fn := fun _ => fun
  | [d1, d2] => { results := [.lit (.bool true)], args := [d1, d2] }
  | _ => none }
def addrsRightsRow : OpenClaim := { program := "ytpgklagjjimbhaa", sum := "5a46c0b68ec56859516117648d3b4a1021353cc8b98047729a4bd5b3e0952fd2", func := "umpire/umpirelaw15.AddrsRights", spec := "addrsRights", unfollowed := true, recurses := true, apart := false }
def AddrsRightsSaid : Prop := addrsRightsRow.holds Try.pinned (OpenSpec.ofChange addrsRightsSpec)

/-- ITS FALSE NEIGHBOUR: 'it returns false'. Refute it at one input. -/
def addrsRightsWrong : ChangeSpec := { name := "addrsRights", fn := fun _ => fun
  | [d1, d2] => { results := [.lit (.bool false)], args := [d1, d2] }
  | _ => none }
def AddrsRightsWrongFalsely : Prop := addrsRightsRow.holds Try.pinned (OpenSpec.ofChange addrsRightsWrong)

/-- 'umpirelaw15.AddrsReads': WHATEVER THE INPUT: true; the input reads as it did. -/
def addrsReadsSpec : ChangeSpec := { name := "addrsReads", fn := fun _ => fun
  | [d1, d2] => { results := [.lit (.bool true)], args := [d1, d2] }
  | _ => none }
def addrsReadsRow : OpenClaim := { program := "ytpgklagjjimbhaa", sum := "5a46c0b68ec56859516117648d3b4a1021353cc8b98047729a4bd5b3e0952fd2", func := "umpire/umpirelaw15.AddrsReads", spec := "addrsReads", unfollowed := true, recurses := true, apart := false }
def AddrsReadsSaid : Prop := addrsReadsRow.holds Try.pinned (OpenSpec.ofChange addrsReadsSpec)

/-- ITS FALSE NEIGHBOUR: 'it returns false'. Refute it at one input. -/
def addrsReadsWrong : ChangeSpec := { name := "addrsReads", fn := fun _ => fun
  | [d1, d2] => { results := [.lit (.bool false)], args := [d1, d2] }
  | _ => none }
def AddrsReadsWrongFalsely : Prop := addrsReadsRow.holds Try.pinned (OpenSpec.ofChange addrsReadsWrong)

/-- 'umpirelaw15.AddrsPuts': WHATEVER THE INPUT: true; the input reads as it did. -/
def addrsPutsSpec : ChangeSpec := { name := "addrsPuts", fn := fun _ => fun
  | [d1, d2] => { results := [.lit (.bool true)], args := [d1, d2] }
  | _ => none }
def addrsPutsRow : OpenClaim := { program := "ytpgklagjjimbhaa", sum := "5a46c0b68ec56859516117648d3b4a1021353cc8b98047729a4bd5b3e0952fd2", func := "umpire/umpirelaw15.AddrsPuts", spec := "addrsPuts", unfollowed := true, recurses := true, apart := false }
def AddrsPutsSaid : Prop := addrsPutsRow.holds Try.pinned (OpenSpec.ofChange addrsPutsSpec)

/-- ITS FALSE NEIGHBOUR: 'it returns false'. Refute it at one input. -/
def addrsPutsWrong : ChangeSpec := { name := "addrsPuts", fn := fun _ => fun
  | [d1, d2] => { results := [.lit (.bool false)], args := [d1, d2] }
  | _ => none }
def AddrsPutsWrongFalsely : Prop := addrsPutsRow.holds Try.pinned (OpenSpec.ofChange addrsPutsWrong)

/-- 'umpirelaw15.AddrsBad': WHATEVER THE INPUT: true; the input reads as it did. -/
def addrsBadSpec : ChangeSpec := { name := "addrsBad", fn := fun _ => fun
  | [d1, d2] => { results := [.lit (.bool true)], args := [d1, d2] }
  | _ => none }
def addrsBadRow : OpenClaim := { program := "ytpgklagjjimbhaa", sum := "5a46c0b68ec56859516117648d3b4a1021353cc8b98047729a4bd5b3e0952fd2", func := "umpire/umpirelaw15.AddrsBad", spec := "addrsBad", unfollowed := true, recurses := true, apart := false }
def AddrsBadSaid : Prop := addrsBadRow.holds Try.pinned (OpenSpec.ofChange addrsBadSpec)

/-- ITS FALSE NEIGHBOUR: 'it returns false'. Refute it at one input. -/
def addrsBadWrong : ChangeSpec := { name := "addrsBad", fn := fun _ => fun
  | [d1, d2] => { results := [.lit (.bool false)], args := [d1, d2] }
  | _ => none }
def AddrsBadWrongFalsely : Prop := addrsBadRow.holds Try.pinned (OpenSpec.ofChange addrsBadWrong)

/-- 'umpirelaw15.AddrsBack': WHATEVER THE INPUT: true; the input reads as it did. -/
def addrsBackSpec : ChangeSpec := { name := "addrsBack", fn := fun _ => fun
  | [d1, d2, d3] => { results := [.lit (.bool true)], args := [d1, d2, d3] }
  | _ => none }
def addrsBackRow : OpenClaim := { program := "ytpgklagjjimbhaa", sum := "5a46c0b68ec56859516117648d3b4a1021353cc8b98047729a4bd5b3e0952fd2", func := "umpire/umpirelaw15.AddrsBack", spec := "addrsBack", unfollowed := true, recurses := true, apart := false }
def AddrsBackSaid : Prop := addrsBackRow.holds Try.pinned (OpenSpec.ofChange addrsBackSpec)

/-- ITS FALSE NEIGHBOUR: 'it returns false'. Refute it at one input. -/
def addrsBackWrong : ChangeSpec := { name := "addrsBack", fn := fun _ => fun
  | [d1, d2, d3] => { results := [.lit (.bool false)], args := [d1, d2, d3] }
  | _ => none }
def AddrsBackWrongFalsely : Prop := addrsBackRow.holds Try.pinned (OpenSpec.ofChange addrsBackWrong)

/-- 'umpirelaw15.AddrsKeeps': WHATEVER THE INPUT: true; the input reads as it did. -/
def addrsKeepsSpec : ChangeSpec := { name := "addrsKeeps", fn := fun _ => fun
  | [d1, d2] => { results := [.lit (.bool true)], args := [d1, d2] }
  | _ => none }
def addrsKeepsRow : OpenClaim := { program := "ytpgklagjjimbhaa", sum := "5a46c0b68ec56859516117648d3b4a1021353cc8b98047729a4bd5b3e0952fd2", func := "umpire/umpirelaw15.AddrsKeeps", spec := "addrsKeeps", unfollowed := true, recurses := true, apart := false }
def AddrsKeepsSaid : Prop := addrsKeepsRow.holds Try.pinned (OpenSpec.ofChange addrsKeepsSpec)

/-- ITS FALSE NEIGHBOUR: 'it returns false'. Refute it at one input. -/
def addrsKeepsWrong : ChangeSpec := { name := "addrsKeeps", fn := fun _ => fun
  | [d1, d2] => { results := [.lit (.bool false)], args := [d1, d2] }
  | _ => none }
def AddrsKeepsWrongFalsely : Prop := addrsKeepsRow.holds Try.pinned (OpenSpec.ofChange addrsKeepsWrong)

/-- 'umpirelaw18.ReplyJudges': WHATEVER THE INPUT: true; the input reads as it did. -/
def replyJudgesSpec : ChangeSpec := { name := "replyJudges", fn := fun _ => fun
  | [d1, d2] => { results := [.lit (.bool true)], args := [d1, d2] }
  | _ => none }
def replyJudgesRow : OpenClaim := { program := "ytpgklagjjimbhaa", sum := "5a46c0b68ec56859516117648d3b4a1021353cc8b98047729a4bd5b3e0952fd2", func := "umpire/umpirelaw18.ReplyJudges", spec := "replyJudges", unfollowed := true, recurses := true, apart := false }
def ReplyJudgesSaid : Prop := replyJudgesRow.holds Try.pinned (OpenSpec.ofChange replyJudgesSpec)

/-- ITS FALSE NEIGHBOUR: 'it returns false'. Refute it at one input. -/
def replyJudgesWrong : ChangeSpec := { name := "replyJudges", fn := fun _ => fun
  | [d1, d2] => { results := [.lit (.bool false)], args := [d1, d2] }
  | _ => none }
def ReplyJudgesWrongFalsely : Prop := replyJudgesRow.holds Try.pinned (OpenSpec.ofChange replyJudgesWrong)

/-- 'umpirelaw18.ReplyEvents': WHATEVER THE INPUT: true; the input reads as it did. -/
def replyEventsSpec : ChangeSpec := { name := "replyEvents", fn := fun _ => fun
  | [d1, d2] => { results := [.lit (.bool true)], args := [d1, d2] }
  | _ => none }
def replyEventsRow : OpenClaim := { program := "ytpgklagjjimbhaa", sum := "5a46c0b68ec56859516117648d3b4a1021353cc8b98047729a4bd5b3e0952fd2", func := "umpire/umpirelaw18.ReplyEvents", spec := "replyEvents", unfollowed := true, recurses := true, apart := false }
def ReplyEventsSaid : Prop := replyEventsRow.holds Try.pinned (OpenSpec.ofChange replyEventsSpec)

/-- ITS FALSE NEIGHBOUR: 'it returns false'. Refute it at one input. -/
def replyEventsWrong : ChangeSpec := { name := "replyEvents", fn := fun _ => fun
  | [d1, d2] => { results := [.lit (.bool false)], args := [d1, d2] }
  | _ => none }
def ReplyEventsWrongFalsely : Prop := replyEventsRow.holds Try.pinned (OpenSpec.ofChange replyEventsWrong)

/-- 'umpirelaw18.ReplyCopies': WHATEVER THE INPUT: true; the input reads as it did. -/
def replyCopiesSpec : ChangeSpec := { name := "replyCopies", fn := fun _ => fun
  | [d1, d2, d3] => { results := [.lit (.bool true)], args := [d1, d2, d3] }
  | _ => none }
def replyCopiesRow : OpenClaim := { program := "ytpgklagjjimbhaa", sum := "5a46c0b68ec56859516117648d3b4a1021353cc8b98047729a4bd5b3e0952fd2", func := "umpire/umpirelaw18.ReplyCopies", spec := "replyCopies", unfollowed := true, recurses := true, apart := false }
def ReplyCopiesSaid : Prop := replyCopiesRow.holds Try.pinned (OpenSpec.ofChange replyCopiesSpec)

/-- ITS FALSE NEIGHBOUR: 'it returns false'. Refute it at one input. -/
def replyCopiesWrong : ChangeSpec := { name := "replyCopies", fn := fun _ => fun
  | [d1, d2, d3] => { results := [.lit (.bool false)], args := [d1, d2, d3] }
  | _ => none }
def ReplyCopiesWrongFalsely : Prop := replyCopiesRow.holds Try.pinned (OpenSpec.ofChange replyCopiesWrong)

/-- 'umpirelaw18.ReplyAnswers': WHATEVER THE INPUT: true; the input reads as it did. -/
def replyAnswersSpec : ChangeSpec := { name := "replyAnswers", fn := fun _ => fun
  | [d1, d2] => { results := [.lit (.bool true)], args := [d1, d2] }
  | _ => none }
def replyAnswersRow : OpenClaim := { program := "ytpgklagjjimbhaa", sum := "5a46c0b68ec56859516117648d3b4a1021353cc8b98047729a4bd5b3e0952fd2", func := "umpire/umpirelaw18.ReplyAnswers", spec := "replyAnswers", unfollowed := true, recurses := true, apart := false }
def ReplyAnswersSaid : Prop := replyAnswersRow.holds Try.pinned (OpenSpec.ofChange replyAnswersSpec)

/-- ITS FALSE NEIGHBOUR: 'it returns false'. Refute it at one input. -/
def replyAnswersWrong : ChangeSpec := { name := "replyAnswers", fn := fun _ => fun
  | [d1, d2] => { results := [.lit (.bool false)], args := [d1, d2] }
  | _ => none }
def ReplyAnswersWrongFalsely : Prop := replyAnswersRow.holds Try.pinned (OpenSpec.ofChange replyAnswersWrong)

/-- 'umpirelaw18.ReplyTaken': WHATEVER THE INPUT: true; the input reads as it did. -/
def replyTakenSpec : ChangeSpec := { name := "replyTaken", fn := fun _ => fun
  | [d1, d2, d3, d4] => { results := [.lit (.bool true)], args := [d1, d2, d3, d4] }
  | _ => none }
def replyTakenRow : OpenClaim := { program := "ytpgklagjjimbhaa", sum := "5a46c0b68ec56859516117648d3b4a1021353cc8b98047729a4bd5b3e0952fd2", func := "umpire/umpirelaw18.ReplyTaken", spec := "replyTaken", unfollowed := true, recurses := true, apart := false }
def ReplyTakenSaid : Prop := replyTakenRow.holds Try.pinned (OpenSpec.ofChange replyTakenSpec)

/-- ITS FALSE NEIGHBOUR: 'it returns false'. Refute it at one input. -/
def replyTakenWrong : ChangeSpec := { name := "replyTaken", fn := fun _ => fun
  | [d1, d2, d3, d4] => { results := [.lit (.bool false)], args := [d1, d2, d3, d4] }
  | _ => none }
def ReplyTakenWrongFalsely : Prop := replyTakenRow.holds Try.pinned (OpenSpec.ofChange replyTakenWrong)

/-- 'umpirelaw18.ReplyKeeps': WHATEVER THE INPUT: true; the input reads as it did. -/
def replyKeepsSpec : ChangeSpec := { name := "replyKeeps", fn := fun _ => fun
  | [d1, d2, d3, d4] => { results := [.lit (.bool true)], args := [d1, d2, d3, d4] }
  | _ => none }
def replyKeepsRow : OpenClaim := { program := "ytpgklagjjimbhaa", sum := "5a46c0b68ec56859516117648d3b4a1021353cc8b98047729a4bd5b3e0952fd2", func := "umpire/umpirelaw18.ReplyKeeps", spec := "replyKeeps", unfollowed := true, recurses := true, apart := false }
def ReplyKeepsSaid : Prop := replyKeepsRow.holds Try.pinned (OpenSpec.ofChange replyKeepsSpec)

/-- ITS FALSE NEIGHBOUR: 'it returns false'. Refute it at one input. -/
def replyKeepsWrong : ChangeSpec := { name := "replyKeeps", fn := fun _ => fun
  | [d1, d2, d3, d4] => { results := [.lit (.bool false)], args := [d1, d2, d3, d4] }
  | _ => none }
def ReplyKeepsWrongFalsely : Prop := replyKeepsRow.holds Try.pinned (OpenSpec.ofChange replyKeepsWrong)

/- THE SECOND FORM. 'bulk': how many values and letters a reading holds, each counted each time it is reached (what is shared counts as often as it is met; a slice's spare places count too). A statement '..UptoSaid' is the law's where the arguments, and the package variables that the reading takes, are together of bulk at most 1048576: NARROWER than '..Said'. Prove '..Said' where nothing that the law and all that it calls make is longer than what came in: it says more and counts as full. Else prove '..UptoSaid'. A law counts once. -/
mutual
def uptoBulk {H : Type} : DataW H → Nat
  | .lit (.string bytes) => bytes.length + 1
  | .lit _ => 1
  | .nil => 1
  | .ptr d => uptoBulk d + 1
  | .slice elems spare => uptoBulkAll elems + uptoBulkAll spare + 1
  | .agg parts => uptoBulkAll parts + 1
  | .iface _ d => uptoBulk d + 1
  | .map entries => uptoBulkEntries entries + 1
  | .held _ => 1
def uptoBulkAll {H : Type} : List (DataW H) → Nat
  | [] => 0
  | d :: r => uptoBulk d + uptoBulkAll r
def uptoBulkEntries {H : Type} : List (Lit × DataW H) → Nat
  | [] => 0
  | x :: r => uptoBulkEntry x + uptoBulkEntries r
def uptoBulkEntry {H : Type} : Lit × DataW H → Nat
  | (.string bytes, d) => bytes.length + uptoBulk d + 1
  | (_, d) => uptoBulk d + 1
 end
def uptoSmall : (H : Type) → List (DataW H) → Bool := fun _ ds => decide (uptoBulkAll ds ≤ 1048576)
def OpenSpec.upto (s : _root_.Go.ChangeSpec) : _root_.Go.OpenSpec := { _root_.Go.OpenSpec.ofChange s with cond := some uptoSmall }

/-- 'umpirelaw12.OptionPuts', WHERE WHAT IT READS IS OF BULK AT MOST 1048576: true; the input reads as it did. -/
def optionPutsUptoRow : OpenClaim := { program := "ytpgklagjjimbhaa", sum := "5a46c0b68ec56859516117648d3b4a1021353cc8b98047729a4bd5b3e0952fd2", func := "umpire/umpirelaw12.OptionPuts", spec := "optionPuts", unfollowed := true, recurses := true, apart := false, narrowed := true }
def OptionPutsUptoSaid : Prop := optionPutsUptoRow.holds Try.pinned (OpenSpec.upto optionPutsSpec)

/-- 'umpirelaw12.OptionReads', WHERE WHAT IT READS IS OF BULK AT MOST 1048576: true; the input reads as it did. -/
def optionReadsUptoRow : OpenClaim := { program := "ytpgklagjjimbhaa", sum := "5a46c0b68ec56859516117648d3b4a1021353cc8b98047729a4bd5b3e0952fd2", func := "umpire/umpirelaw12.OptionReads", spec := "optionReads", unfollowed := true, recurses := true, apart := false, narrowed := true }
def OptionReadsUptoSaid : Prop := optionReadsUptoRow.holds Try.pinned (OpenSpec.upto optionReadsSpec)

/-- 'umpirelaw12.OptionBack', WHERE WHAT IT READS IS OF BULK AT MOST 1048576: true; the input reads as it did. -/
def optionBackUptoRow : OpenClaim := { program := "ytpgklagjjimbhaa", sum := "5a46c0b68ec56859516117648d3b4a1021353cc8b98047729a4bd5b3e0952fd2", func := "umpire/umpirelaw12.OptionBack", spec := "optionBack", unfollowed := true, recurses := true, apart := false, narrowed := true }
def OptionBackUptoSaid : Prop := optionBackUptoRow.holds Try.pinned (OpenSpec.upto optionBackSpec)

/-- 'umpirelaw12.OptionFinds', WHERE WHAT IT READS IS OF BULK AT MOST 1048576: true; the input reads as it did. -/
def optionFindsUptoRow : OpenClaim := { program := "ytpgklagjjimbhaa", sum := "5a46c0b68ec56859516117648d3b4a1021353cc8b98047729a4bd5b3e0952fd2", func := "umpire/umpirelaw12.OptionFinds", spec := "optionFinds", unfollowed := true, recurses := true, apart := false, narrowed := true }
def OptionFindsUptoSaid : Prop := optionFindsUptoRow.holds Try.pinned (OpenSpec.upto optionFindsSpec)

/-- 'umpirelaw12.OptionTaken', WHERE WHAT IT READS IS OF BULK AT MOST 1048576: true; the input reads as it did. -/
def optionTakenUptoRow : OpenClaim := { program := "ytpgklagjjimbhaa", sum := "5a46c0b68ec56859516117648d3b4a1021353cc8b98047729a4bd5b3e0952fd2", func := "umpire/umpirelaw12.OptionTaken", spec := "optionTaken", unfollowed := true, recurses := true, apart := false, narrowed := true }
def OptionTakenUptoSaid : Prop := optionTakenUptoRow.holds Try.pinned (OpenSpec.upto optionTakenSpec)

/-- 'umpirelaw12.OptionKeeps', WHERE WHAT IT READS IS OF BULK AT MOST 1048576: true; the input reads as it did. -/
def optionKeepsUptoRow : OpenClaim := { program := "ytpgklagjjimbhaa", sum := "5a46c0b68ec56859516117648d3b4a1021353cc8b98047729a4bd5b3e0952fd2", func := "umpire/umpirelaw12.OptionKeeps", spec := "optionKeeps", unfollowed := true, recurses := true, apart := false, narrowed := true }
def OptionKeepsUptoSaid : Prop := optionKeepsUptoRow.holds Try.pinned (OpenSpec.upto optionKeepsSpec)

/-- 'umpirelaw13.PacketPuts', WHERE WHAT IT READS IS OF BULK AT MOST 1048576: true; the input reads as it did. -/
def packetPutsUptoRow : OpenClaim := { program := "ytpgklagjjimbhaa", sum := "5a46c0b68ec56859516117648d3b4a1021353cc8b98047729a4bd5b3e0952fd2", func := "umpire/umpirelaw13.PacketPuts", spec := "packetPuts", apart := false, narrowed := true }
def PacketPutsUptoSaid : Prop := packetPutsUptoRow.holds Try.pinned (OpenSpec.upto packetPutsSpec)

/-- 'umpirelaw13.PacketGets', WHERE WHAT IT READS IS OF BULK AT MOST 1048576: true; the input reads as it did. -/
def packetGetsUptoRow : OpenClaim := { program := "ytpgklagjjimbhaa", sum := "5a46c0b68ec56859516117648d3b4a1021353cc8b98047729a4bd5b3e0952fd2", func := "umpire/umpirelaw13.PacketGets", spec := "packetGets", apart := false, narrowed := true }
def PacketGetsUptoSaid : Prop := packetGetsUptoRow.holds Try.pinned (OpenSpec.upto packetGetsSpec)

/-- 'umpirelaw13.PacketBack', WHERE WHAT IT READS IS OF BULK AT MOST 1048576: true; the input reads as it did. -/
def packetBackUptoRow : OpenClaim := { program := "ytpgklagjjimbhaa", sum := "5a46c0b68ec56859516117648d3b4a1021353cc8b98047729a4bd5b3e0952fd2", func := "umpire/umpirelaw13.PacketBack", spec := "packetBack", apart := false, narrowed := true }
def PacketBackUptoSaid : Prop := packetBackUptoRow.holds Try.pinned (OpenSpec.upto packetBackSpec)

/-- 'umpirelaw13.PacketParts', WHERE WHAT IT READS IS OF BULK AT MOST 1048576: true; the input reads as it did. -/
def packetPartsUptoRow : OpenClaim := { program := "ytpgklagjjimbhaa", sum := "5a46c0b68ec56859516117648d3b4a1021353cc8b98047729a4bd5b3e0952fd2", func := "umpire/umpirelaw13.PacketParts", spec := "packetParts", apart := false, narrowed := true }
def PacketPartsUptoSaid : Prop := packetPartsUptoRow.holds Try.pinned (OpenSpec.upto packetPartsSpec)

/-- 'umpirelaw13.PacketKeeps', WHERE WHAT IT READS IS OF BULK AT MOST 1048576: true; the input reads as it did. -/
def packetKeepsUptoRow : OpenClaim := { program := "ytpgklagjjimbhaa", sum := "5a46c0b68ec56859516117648d3b4a1021353cc8b98047729a4bd5b3e0952fd2", func := "umpire/umpirelaw13.PacketKeeps", spec := "packetKeeps", apart := false, narrowed := true }
def PacketKeepsUptoSaid : Prop := packetKeepsUptoRow.holds Try.pinned (OpenSpec.upto packetKeepsSpec)

/-- 'umpirelaw15.AddrsRights', WHERE WHAT IT READS IS OF BULK AT MOST 1048576: true; the input reads as it did. -/
def addrsRightsUptoRow : OpenClaim := { program := "ytpgklagjjimbhaa", sum := "5a46c0b68ec56859516117648d3b4a1021353cc8b98047729a4bd5b3e0952fd2", func := "umpire/umpirelaw15.AddrsRights", spec := "addrsRights", unfollowed := true, recurses := true, apart := false, narrowed := true }
def AddrsRightsUptoSaid : Prop := addrsRightsUptoRow.holds Try.pinned (OpenSpec.upto addrsRightsSpec)

/-- 'umpirelaw15.AddrsReads', WHERE WHAT IT READS IS OF BULK AT MOST 1048576: true; the input reads as it did. -/
def addrsReadsUptoRow : OpenClaim := { program := "ytpgklagjjimbhaa", sum := "5a46c0b68ec56859516117648d3b4a1021353cc8b98047729a4bd5b3e0952fd2", func := "umpire/umpirelaw15.AddrsReads", spec := "addrsReads", unfollowed := true, recurses := true, apart := false, narrowed := true }
def AddrsReadsUptoSaid : Prop := addrsReadsUptoRow.holds Try.pinned (OpenSpec.upto addrsReadsSpec)

/-- 'umpirelaw15.AddrsPuts', WHERE WHAT IT READS IS OF BULK AT MOST 1048576: true; the input reads as it did. -/
def addrsPutsUptoRow : OpenClaim := { program := "ytpgklagjjimbhaa", sum := "5a46c0b68ec56859516117648d3b4a1021353cc8b98047729a4bd5b3e0952fd2", func := "umpire/umpirelaw15.AddrsPuts", spec := "addrsPuts", unfollowed := true, recurses := true, apart := false, narrowed := true }
def AddrsPutsUptoSaid : Prop := addrsPutsUptoRow.holds Try.pinned (OpenSpec.upto addrsPutsSpec)

/-- 'umpirelaw15.AddrsBad', WHERE WHAT IT READS IS OF BULK AT MOST 1048576: true; the input reads as it did. -/
def addrsBadUptoRow : OpenClaim := { program := "ytpgklagjjimbhaa", sum := "5a46c0b68ec56859516117648d3b4a1021353cc8b98047729a4bd5b3e0952fd2", func := "umpire/umpirelaw15.AddrsBad", spec := "addrsBad", unfollowed := true, recurses := true, apart := false, narrowed := true }
def AddrsBadUptoSaid : Prop := addrsBadUptoRow.holds Try.pinned (OpenSpec.upto addrsBadSpec)

/-- 'umpirelaw15.AddrsBack', WHERE WHAT IT READS IS OF BULK AT MOST 1048576: true; the input reads as it did. -/
def addrsBackUptoRow : OpenClaim := { program := "ytpgklagjjimbhaa", sum := "5a46c0b68ec56859516117648d3b4a1021353cc8b98047729a4bd5b3e0952fd2", func := "umpire/umpirelaw15.AddrsBack", spec := "addrsBack", unfollowed := true, recurses := true, apart := false, narrowed := true }
def AddrsBackUptoSaid : Prop := addrsBackUptoRow.holds Try.pinned (OpenSpec.upto addrsBackSpec)

/-- 'umpirelaw15.AddrsKeeps', WHERE WHAT IT READS IS OF BULK AT MOST 1048576: true; the input reads as it did. -/
def addrsKeepsUptoRow : OpenClaim := { program := "ytpgklagjjimbhaa", sum := "5a46c0b68ec56859516117648d3b4a1021353cc8b98047729a4bd5b3e0952fd2", func := "umpire/umpirelaw15.AddrsKeeps", spec := "addrsKeeps", unfollowed := true, recurses := true, apart := false, narrowed := true }
def AddrsKeepsUptoSaid : Prop := addrsKeepsUptoRow.holds Try.pinned (OpenSpec.upto addrsKeepsSpec)

/-- 'umpirelaw18.ReplyJudges', WHERE WHAT IT READS IS OF BULK AT MOST 1048576: true; the input reads as it did. -/
def replyJudgesUptoRow : OpenClaim := { program := "ytpgklagjjimbhaa", sum := "5a46c0b68ec56859516117648d3b4a1021353cc8b98047729a4bd5b3e0952fd2", func := "umpire/umpirelaw18.ReplyJudges", spec := "replyJudges", unfollowed := true, recurses := true, apart := false, narrowed := true }
def ReplyJudgesUptoSaid : Prop := replyJudgesUptoRow.holds Try.pinned (OpenSpec.upto replyJudgesSpec)

/-- 'umpirelaw18.ReplyEvents', WHERE WHAT IT READS IS OF BULK AT MOST 1048576: true; the input reads as it did. -/
def replyEventsUptoRow : OpenClaim := { program := "ytpgklagjjimbhaa", sum := "5a46c0b68ec56859516117648d3b4a1021353cc8b98047729a4bd5b3e0952fd2", func := "umpire/umpirelaw18.ReplyEvents", spec := "replyEvents", unfollowed := true, recurses := true, apart := false, narrowed := true }
def ReplyEventsUptoSaid : Prop := replyEventsUptoRow.holds Try.pinned (OpenSpec.upto replyEventsSpec)

/-- 'umpirelaw18.ReplyCopies', WHERE WHAT IT READS IS OF BULK AT MOST 1048576: true; the input reads as it did. -/
def replyCopiesUptoRow : OpenClaim := { program := "ytpgklagjjimbhaa", sum := "5a46c0b68ec56859516117648d3b4a1021353cc8b98047729a4bd5b3e0952fd2", func := "umpire/umpirelaw18.ReplyCopies", spec := "replyCopies", unfollowed := true, recurses := true, apart := false, narrowed := true }
def ReplyCopiesUptoSaid : Prop := replyCopiesUptoRow.holds Try.pinned (OpenSpec.upto replyCopiesSpec)

/-- 'umpirelaw18.ReplyAnswers', WHERE WHAT IT READS IS OF BULK AT MOST 1048576: true; the input reads as it did. -/
def replyAnswersUptoRow : OpenClaim := { program := "ytpgklagjjimbhaa", sum := "5a46c0b68ec56859516117648d3b4a1021353cc8b98047729a4bd5b3e0952fd2", func := "umpire/umpirelaw18.ReplyAnswers", spec := "replyAnswers", unfollowed := true, recurses := true, apart := false, narrowed := true }
def ReplyAnswersUptoSaid : Prop := replyAnswersUptoRow.holds Try.pinned (OpenSpec.upto replyAnswersSpec)

/-- 'umpirelaw18.ReplyTaken', WHERE WHAT IT READS IS OF BULK AT MOST 1048576: true; the input reads as it did. -/
def replyTakenUptoRow : OpenClaim := { program := "ytpgklagjjimbhaa", sum := "5a46c0b68ec56859516117648d3b4a1021353cc8b98047729a4bd5b3e0952fd2", func := "umpire/umpirelaw18.ReplyTaken", spec := "replyTaken", unfollowed := true, recurses := true, apart := false, narrowed := true }
def ReplyTakenUptoSaid : Prop := replyTakenUptoRow.holds Try.pinned (OpenSpec.upto replyTakenSpec)

/-- 'umpirelaw18.ReplyKeeps', WHERE WHAT IT READS IS OF BULK AT MOST 1048576: true; the input reads as it did. -/
def replyKeepsUptoRow : OpenClaim := { program := "ytpgklagjjimbhaa", sum := "5a46c0b68ec56859516117648d3b4a1021353cc8b98047729a4bd5b3e0952fd2", func := "umpire/umpirelaw18.ReplyKeeps", spec := "replyKeeps", unfollowed := true, recurses := true, apart := false, narrowed := true }
def ReplyKeepsUptoSaid : Prop := replyKeepsUptoRow.holds Try.pinned (OpenSpec.upto replyKeepsSpec)

end Rows
end Go.Proofs.Ytpgklagjjimbhaa
