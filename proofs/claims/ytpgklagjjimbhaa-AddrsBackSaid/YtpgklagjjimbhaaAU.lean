/- YtpgklagjjimbhaaAU: addresses: the list that tells them, whatever they are. No claim. -/
import Derived.Test.YtpgklagjjimbhaaAL
set_option linter.unusedVariables false
set_option linter.unusedSimpArgs false
set_option maxRecDepth 100000
namespace Go.Proofs.Ytpgklagjjimbhaa
open Go Go.Proofs.Ytpgklagjjimbhaa.V

def outI (a : Adr) : List Opt := dnsO a (([] ++ optB a.hasVj 2 [0, 45, UInt8.ofNat a.slots.toNat, if a.vjId then 1 else 0]) ++ optB a.hasIp 3 (l4 a.ip)) 4
def outX (a : Adr) : List Opt := [] ++ optB a.hasId 1 (l8 a.id)
/-- The list that addresses are put to. -/
def outP (p : Int) (a : Adr) : List Opt := if p = 32855 then outX a else if p = 32801 then (if 0 ≤ a.slots ∧ a.slots ≤ 255 then outI a else []) else []
theorem put_any (p : Int) (a : Adr) (m : Bool) : putS p a (outP p a) m := by
  unfold outP
  by_cases h1 : p = 32855
  · subst h1; rw [if_pos rfl]; exact put_six m
  · rw [if_neg h1]
    by_cases h2 : p = 32801
    · subst h2
      rw [if_pos rfl]
      by_cases h3 : 0 ≤ a.slots ∧ a.slots ≤ 255
      · rw [if_pos h3]
        cases hv : a.vjId with
        | true =>
          have e : outI a = dnsO a (([] ++ optB a.hasVj 2 [0, 45, UInt8.ofNat a.slots.toNat, 1]) ++ optB a.hasIp 3 (l4 a.ip)) 4 := by unfold outI; rw [hv]; rfl
          rw [e]; exact put_ipcp1 h3.1 h3.2 hv m
        | false =>
          have e : outI a = dnsO a (([] ++ optB a.hasVj 2 [0, 45, UInt8.ofNat a.slots.toNat, 0]) ++ optB a.hasIp 3 (l4 a.ip)) 4 := by unfold outI; rw [hv]; rfl
          rw [e]; exact put_ipcp0 h3.1 h3.2 hv m
      · rw [if_neg h3]
        by_cases h4 : 0 ≤ a.slots
        · exact put_high (fun h => h3 ⟨h4, h⟩) m
        · exact put_low h4 m
    · rw [if_neg h2]; exact put_no h1 h2 m
theorem outP_len (p : Int) (a : Adr) : (outP p a).length ≤ 6 := by
  unfold outP outX outI
  have := optB_len a.hasId 1 (l8 a.id)
  have l1 := dns_len a (([] ++ optB a.hasVj 2 [0, 45, UInt8.ofNat a.slots.toNat, if a.vjId then 1 else 0]) ++ optB a.hasIp 3 (l4 a.ip)) 4
  have l2 := optB_len a.hasVj 2 [0, 45, UInt8.ofNat a.slots.toNat, if a.vjId then 1 else 0]
  have l3 := optB_len a.hasIp 3 (l4 a.ip)
  simp only [List.length_append, List.length_nil] at l1
  split
  · simp only [List.length_append, List.length_nil]; omega
  · split
    · split
      · omega
      · simp
    · simp
/-- A call that hands back a row, old or new. -/
theorem wpAct_callO {P : Program} {E : Env} {base : Nat} {o : Oper} {ev : Operand → SV} {look : Nat → Option Ob} {K : Eff → Prop} {c : Call} {f : Operand} {g : FuncId} {caps av : List SV} {m0 : Bool} {z lim : Nat} {xs : List PV} {res res' : SV}
    (hr : Runs P E g av [] res [(0, .row m0 z lim xs)]) (ho : o.op = .call c) (hc : c.callee = .value f) (hf : ev f = .clo g caps) (hi : E.intr g = none) (ha : argV base (E.byRef g) look (c.args.toList.map ev ++ caps) = some (av, [])) (hn : refsL av = [])
    (hren : ren (fun i => if i = 0 then some (base + 16 * (o.dst.getD 0)) else none) res = res')
    (hk : freshKeys look (base + 16 * (o.dst.getD 0)) 16 = true)
    (h : K { res := res', wr := [(base + 16 * (o.dst.getD 0), .row m0 z lim xs)], rd := some ((List.range 16).map (base + 16 * (o.dst.getD 0) + ·) ++ refsL (c.args.toList.map ev ++ caps)) }) : wpAct P E base o ev look K := by
  refine wpAct_call hr ho hc hf hi ha hn (by simp [hk]) ?_
  have e1 : (fun i => ((List.range ([(0, Ob.row m0 z lim xs)] : Store).length).map (base + 16 * (o.dst.getD 0) + ·))[i]?) = fun i => if i = 0 then some (base + 16 * (o.dst.getD 0)) else none := by
    funext i
    cases i with
    | zero => simp [List.range_succ]
    | succ i => simp [List.range_succ]
  rw [e1, hren]
  simpa [backAll, V.get, renO, List.range_succ] using h

end Go.Proofs.Ytpgklagjjimbhaa
