/- YtpgklagjjimbhaaF: options are read. No claim. -/
import Derived.Test.YtpgklagjjimbhaaD
set_option linter.unusedVariables false
set_option linter.unusedSimpArgs false
set_option maxRecDepth 100000
namespace Go.Proofs.Ytpgklagjjimbhaa
open Go Go.Proofs.Ytpgklagjjimbhaa.V

/-- The options whose bytes these are (the first one's place told), or the first fault: its place and kind. -/
def parse (at_ : Nat) (b : List UInt8) : Except (Nat × Nat) (List Opt) :=
  match b with
  | [] => .ok []
  | [_] => .error (at_, 2)
  | t :: n :: r =>
    if n.toNat < 2 then .error (at_, 3)
    else if r.length < n.toNat - 2 then .error (at_, 2)
    else match parse (at_ + n.toNat) (r.drop (n.toNat - 2)) with
      | .ok l => .ok (((t.toNat : Int), r.take (n.toNat - 2)) :: l)
      | .error e => .error e
termination_by b.length
decreasing_by simp only [List.length_drop, List.length_cons]; omega

def glue (out : List Opt) : Except (Nat × Nat) (List Opt) → Except (Nat × Nat) (List Opt)
  | .ok l => .ok (out ++ l)
  | .error e => .error e
def resR : Except (Nat × Nat) (List Opt) → List Opt × Nat × Nat
  | .ok l => (l, 0, 0)
  | .error e => ([], e.1, e.2)
def readO (b : List UInt8) : List Opt × Nat × Nat := resR (parse 0 b)

theorem parse_nil (a : Nat) : parse a [] = .ok [] := by rw [parse]
theorem parse_one (a : Nat) (t : UInt8) : parse a [t] = .error (a, 2) := by rw [parse]
theorem parse_low (a : Nat) (t n : UInt8) (r : List UInt8) (h : n.toNat < 2) : parse a (t :: n :: r) = .error (a, 3) := by rw [parse, if_pos h]
theorem parse_short (a : Nat) (t n : UInt8) (r : List UInt8) (h : 2 ≤ n.toNat) (h' : r.length < n.toNat - 2) : parse a (t :: n :: r) = .error (a, 2) := by rw [parse, if_neg (by omega), if_pos h']
theorem parse_go (a : Nat) (t n : UInt8) (r : List UInt8) (h : 2 ≤ n.toNat) (h' : n.toNat - 2 ≤ r.length) (out : List Opt) :
    glue out (parse a (t :: n :: r)) = glue (out ++ [((t.toNat : Int), r.take (n.toNat - 2))]) (parse (a + n.toNat) (r.drop (n.toNat - 2))) := by
  rw [parse, if_neg (by omega), if_neg (by omega)]
  cases parse (a + n.toNat) (r.drop (n.toNat - 2)) <;> simp [glue]

theorem lim_opts (l : List Opt) : (if allScalar (optsV l) = true then 0 else l.length - 1) = l.length - 1 := by
  cases l with
  | nil => rfl
  | cons o r => rfl
theorem opts_snoc (out : List Opt) (t : Int) (d : List UInt8) : optsV out ++ [PV.agg [.int .i64 t, .sl (bytesOf d)]] = optsV (out ++ [(t, d)]) := by simp [optsV, optV]
def zOf (l : List Opt) : Nat := if l = [] then 0 else 2
theorem zOf_or (l : List Opt) : zOf l = 2 ∨ zOf l = 0 := by unfold zOf; split <;> simp
theorem zOf_ok (l : List Opt) : zOf l = 2 ∨ optsV l = [] := by
  unfold zOf
  by_cases h : l = []
  · subst h; exact .inr rfl
  · rw [if_neg h]; exact .inl rfl
theorem zOf_snoc (l : List Opt) (o : Opt) : zOf (l ++ [o]) = 2 := by unfold zOf; rw [if_neg (by simp)]

set_option maxHeartbeats 8000000 in
theorem optRead_any (b : List UInt8) (hb : b.length ≤ 1000000) (m : Bool) : Runs Try.prog env 31 [.pure m (.sl (bytesOf b))] [] (.tuple [.row 0 (readO b).1.length, .pure true (.agg [.int .i64 ((readO b).2.1 : Nat), .int .i64 ((readO b).2.2 : Nat)])])
    [(0, .row true (zOf (readO b).1) ((readO b).1.length - 1) (optsV (readO b).1))] := by
  refine Runs.of Try.func31 rfl (by simp [Try.ntmps31]) ?_
  have hglue : parse 0 b = glue [] (parse 0 (b.drop 0)) := by rw [List.drop_zero]; cases parse 0 b <;> rfl
  unfold readO
  generalize parse 0 b = p at hglue
  simp (maxSteps := 400000) -dsimp -implicitDefEqProofs (disch := first | exact TrueB.mk rfl | omega) only [go_sem, Nat.reduceMul, Nat.reduceAdd, Nat.reduceLT, Nat.reduceLeDiff, Nat.reducePow, Nat.reduceEqDiff, ↓reduceIte, reduceCtorEq, Int.reduceToNat, Try.ntmps31]
  refine wpLoop_ind (α := Nat × List Opt)
    (fun a => ⟨[(0, .pure m (.sl (bytesOf b))), (3, .ptr 848 0), (4, .row 849 a.2.length), (5, .pure true (.int .i64 a.1))], [(848, .box [.pure true (.int .i64 0), .pure true (.int .i64 0)]), (849, .row true (zOf a.2) (a.2.length - 1) (optsV a.2))]⟩)
    (fun a => a.1 ≤ b.length ∧ a.2.length ≤ a.1 ∧ p = glue a.2 (parse a.1 (b.drop a.1))) (fun a => b.length - a.1) ?_ (0, []) ⟨by simp, by simp, hglue⟩ rfl
  rintro ⟨at_, out⟩ ⟨hi, ho, hs⟩
  simp only at hi ho hs
  clear hglue
  simp (maxSteps := 400000) -dsimp -implicitDefEqProofs (disch := first | exact TrueB.mk rfl | omega) only [go_sem, Nat.reduceMul, Nat.reduceAdd, Nat.reduceLT, Nat.reduceLeDiff, Nat.reducePow, Nat.reduceEqDiff, ↓reduceIte, reduceCtorEq, Int.reduceToNat]
  first | refine condK_dec (fun h1 => ?_) (fun h1 => ?_) | refine condK_ndec (fun h1 => ?_) (fun h1 => ?_) | refine condK_beq (fun h1 => ?_) (fun h1 => ?_) | refine condK_bne (fun h1 => ?_) (fun h1 => ?_) | refine condK_nbeq (fun h1 => ?_) (fun h1 => ?_) | refine guardK_dec (fun h1 => ?_) (fun h1 => ?_) | refine guardK_ndec (fun h1 => ?_) (fun h1 => ?_) | refine guardK_beq (fun h1 => ?_) (fun h1 => ?_) | refine guardK_bne (fun h1 => ?_) (fun h1 => ?_) | refine guardK_nbeq (fun h1 => ?_) (fun h1 => ?_) | refine condK_not (fun h1 => ?_) (fun h1 => ?_) | refine guardK_not (fun h1 => ?_) (fun h1 => ?_) | refine condK_bool (fun h1 => ?_) (fun h1 => ?_) | refine guardK_bool (fun h1 => ?_) (fun h1 => ?_) | done
  · have hlt : at_ < b.length := by omega
    have hlen : (b.drop at_).length = b.length - at_ := List.length_drop ..
    have htk : (b.drop at_).take (b.length - at_) = b.drop at_ := List.take_of_length_le (by omega)
    generalize hr : b.drop at_ = r at hs hlen htk
    match r, hlen with
    | [], hlen => simp at hlen; omega
    | [t], hlen =>
      rw [parse_one] at hs
      subst hs
      have hp : resR (glue out (.error (at_, 2))) = ([], at_, 2) := rfl
      rw [hp]
      simp only [List.length_cons, List.length_nil] at hlen
      simp (maxSteps := 400000) -dsimp -implicitDefEqProofs (disch := first | exact TrueB.mk rfl | omega) only [go_sem, Nat.reduceMul, Nat.reduceAdd, Nat.reduceLT, Nat.reduceLeDiff, Nat.reducePow, Nat.reduceEqDiff, ↓reduceIte, reduceCtorEq, Int.reduceToNat, hr, htk, List.length_cons, List.length_nil]
      first | (refine Eq.trans (end_rowC2 rfl rfl rfl rfl rfl rfl rfl rfl rfl) ?_; rfl) | done
    | t :: n :: q, hlen =>
      simp only [List.length_cons] at hlen
      have hn := n.toNat_lt
      have g0 : (bytesOf (t :: n :: q))[0]? = some (.int .u8 t.toNat) := rfl
      have g1 : (bytesOf (t :: n :: q))[1]? = some (.int .u8 n.toNat) := rfl
      have g2 : (t :: n :: q).length = q.length + 2 := rfl
      have g3 : (t :: n :: q).drop 2 = q := rfl
      by_cases h2 : n.toNat < 2
      · rw [parse_low _ _ _ _ h2] at hs
        subst hs
        generalize hR : t :: n :: q = R at *
        simp (maxSteps := 400000) -dsimp -implicitDefEqProofs (disch := first | exact TrueB.mk rfl | omega) only [go_sem, Nat.reduceMul, Nat.reduceAdd, Nat.reduceLT, Nat.reduceLeDiff, Nat.reducePow, Nat.reduceEqDiff, ↓reduceIte, reduceCtorEq, Int.reduceToNat, hr, htk, g0, g1, g2]
        first | (refine Eq.trans (end_rowC2 rfl rfl rfl rfl rfl rfl rfl rfl rfl) ?_; rfl) | done
      · by_cases h3 : q.length < n.toNat - 2
        · rw [parse_short _ _ _ _ (by omega) h3] at hs
          subst hs
          generalize hR : t :: n :: q = R at *
          simp (maxSteps := 400000) -dsimp -implicitDefEqProofs (disch := first | exact TrueB.mk rfl | omega) only [go_sem, Nat.reduceMul, Nat.reduceAdd, Nat.reduceLT, Nat.reduceLeDiff, Nat.reducePow, Nat.reduceEqDiff, ↓reduceIte, reduceCtorEq, Int.reduceToNat, hr, htk, g0, g1, g2]
          first | (refine Eq.trans (end_rowC2 rfl rfl rfl rfl rfl rfl rfl rfl rfl) ?_; rfl) | done
        · rw [parse_go _ _ _ _ (by omega) (by omega)] at hs
          have hdrop : b.drop (at_ + n.toNat) = q.drop (n.toNat - 2) := by
            rw [← List.drop_drop, hr]
            obtain ⟨k, hk⟩ : ∃ k, n.toNat = k + 2 := ⟨n.toNat - 2, by omega⟩
            rw [hk]
            rfl
          generalize hR : t :: n :: q = R at *
          have hq : (q.take (n.toNat - 2)).length ≤ 255 := by rw [List.length_take]; omega
          have ht := t.toNat_lt
          have hz := zOf_or out
          simp (maxSteps := 400000) -dsimp -implicitDefEqProofs (disch := first | exact TrueB.mk rfl | omega) only [go_sem, Nat.reduceMul, Nat.reduceAdd, Nat.reduceLT, Nat.reduceLeDiff, Nat.reducePow, Nat.reduceEqDiff, ↓reduceIte, reduceCtorEq, Int.reduceToNat, hr, htk, g0, g1, g2, g3]
          first | refine wpAct_intr rfl rfl rfl rfl (clone_bytes rfl (by omega)) ?_ | done
          simp (maxSteps := 400000) -dsimp -implicitDefEqProofs (disch := first | exact TrueB.mk rfl | omega) only [go_sem, Nat.reduceMul, Nat.reduceAdd, Nat.reduceLT, Nat.reduceLeDiff, Nat.reducePow, Nat.reduceEqDiff, ↓reduceIte, reduceCtorEq, Int.reduceToNat, hz, opts_snoc, allScalar]
          refine again_mk ⟨(at_ + n.toNat, out ++ [((t.toNat : Int), q.take (n.toNat - 2))]), ⟨by show at_ + n.toNat ≤ b.length; omega, ?_, ?_⟩, by show _ - (at_ + n.toNat) < _ - at_; omega, ?_⟩
          · simp only [List.length_append, List.length_cons, List.length_nil]
            omega
          · show p = glue _ (parse (at_ + n.toNat) (b.drop (at_ + n.toNat)))
            rw [hdrop]
            exact hs
          · simp only [zOf_snoc, List.length_append, List.length_cons, List.length_nil, Nat.add_sub_cancel]
            rfl
  · have hend : b.drop at_ = [] := List.drop_eq_nil_of_le (by omega)
    rw [hend, parse_nil] at hs
    have hp : resR p = (out, 0, 0) := by rw [hs]; simp [glue, resR]
    rw [hp]
    simp (maxSteps := 400000) -dsimp -implicitDefEqProofs (disch := first | exact TrueB.mk rfl | omega) only [go_sem, Nat.reduceMul, Nat.reduceAdd, Nat.reduceLT, Nat.reduceLeDiff, Nat.reducePow, Nat.reduceEqDiff, ↓reduceIte, reduceCtorEq, Int.reduceToNat]
    refine Eq.trans (end_rowC2 rfl rfl rfl rfl rfl rfl (optsV_length _).symm rfl rfl) ?_
    rw [lim_opts]
    rfl

set_option maxHeartbeats 8000000 in
theorem refRead_any (b : List UInt8) (hb : b.length ≤ 1000000) (m : Bool) : Runs Try.prog env 32 [.pure m (.sl (bytesOf b))] [] (.tuple [.row 0 (readO b).1.length, .pure true (.agg [.int .i64 ((readO b).2.1 : Nat), .int .i64 ((readO b).2.2 : Nat)])])
    [(0, .row true (zOf (readO b).1) ((readO b).1.length - 1) (optsV (readO b).1))] := by
  refine Runs.of Try.func32 rfl (by simp [Try.ntmps32]) ?_
  have hglue : parse 0 b = glue [] (parse 0 (b.drop 0)) := by rw [List.drop_zero]; cases parse 0 b <;> rfl
  unfold readO
  generalize parse 0 b = p at hglue
  simp (maxSteps := 400000) -dsimp -implicitDefEqProofs (disch := first | exact TrueB.mk rfl | omega) only [go_sem, Nat.reduceMul, Nat.reduceAdd, Nat.reduceLT, Nat.reduceLeDiff, Nat.reducePow, Nat.reduceEqDiff, ↓reduceIte, reduceCtorEq, Int.reduceToNat, Try.ntmps32]
  refine wpLoop_ind (α := Nat × List Opt)
    (fun a => ⟨[(0, .pure m (.sl (bytesOf b))), (3, .ptr 1008 0), (4, .row 1009 a.2.length), (5, .pure true (.int .i64 a.1))], [(1008, .box [.pure true (.int .i64 0), .pure true (.int .i64 0)]), (1009, .row true (zOf a.2) (a.2.length - 1) (optsV a.2))]⟩)
    (fun a => a.1 ≤ b.length ∧ a.2.length ≤ a.1 ∧ p = glue a.2 (parse a.1 (b.drop a.1))) (fun a => b.length - a.1) ?_ (0, []) ⟨by simp, by simp, hglue⟩ rfl
  rintro ⟨at_, out⟩ ⟨hi, ho, hs⟩
  simp only at hi ho hs
  clear hglue
  simp (maxSteps := 400000) -dsimp -implicitDefEqProofs (disch := first | exact TrueB.mk rfl | omega) only [go_sem, Nat.reduceMul, Nat.reduceAdd, Nat.reduceLT, Nat.reduceLeDiff, Nat.reducePow, Nat.reduceEqDiff, ↓reduceIte, reduceCtorEq, Int.reduceToNat]
  first | refine condK_dec (fun h1 => ?_) (fun h1 => ?_) | refine condK_ndec (fun h1 => ?_) (fun h1 => ?_) | refine condK_beq (fun h1 => ?_) (fun h1 => ?_) | refine condK_bne (fun h1 => ?_) (fun h1 => ?_) | refine condK_nbeq (fun h1 => ?_) (fun h1 => ?_) | refine guardK_dec (fun h1 => ?_) (fun h1 => ?_) | refine guardK_ndec (fun h1 => ?_) (fun h1 => ?_) | refine guardK_beq (fun h1 => ?_) (fun h1 => ?_) | refine guardK_bne (fun h1 => ?_) (fun h1 => ?_) | refine guardK_nbeq (fun h1 => ?_) (fun h1 => ?_) | refine condK_not (fun h1 => ?_) (fun h1 => ?_) | refine guardK_not (fun h1 => ?_) (fun h1 => ?_) | refine condK_bool (fun h1 => ?_) (fun h1 => ?_) | refine guardK_bool (fun h1 => ?_) (fun h1 => ?_) | done
  · have hlt : at_ < b.length := by omega
    have hlen : (b.drop at_).length = b.length - at_ := List.length_drop ..
    have k0 : b[at_]? = (b.drop at_)[0]? := by rw [List.getElem?_drop]; rfl
    have k1 : b[at_ + 1]? = (b.drop at_)[1]? := by rw [List.getElem?_drop]
    generalize hr : b.drop at_ = r at hs hlen k0 k1
    match r, hlen with
    | [], hlen => simp at hlen; omega
    | [t], hlen =>
      rw [parse_one] at hs
      subst hs
      have hp : resR (glue out (.error (at_, 2))) = ([], at_, 2) := rfl
      rw [hp]
      simp only [List.length_cons, List.length_nil] at hlen
      simp (maxSteps := 400000) -dsimp -implicitDefEqProofs (disch := first | exact TrueB.mk rfl | omega) only [go_sem, Nat.reduceMul, Nat.reduceAdd, Nat.reduceLT, Nat.reduceLeDiff, Nat.reducePow, Nat.reduceEqDiff, ↓reduceIte, reduceCtorEq, Int.reduceToNat]
      first | (refine Eq.trans (end_rowC2 rfl rfl rfl rfl rfl rfl rfl rfl rfl) ?_; rfl) | done
    | t :: n :: q, hlen =>
      simp only [List.length_cons] at hlen
      have hn := n.toNat_lt
      have ht := t.toNat_lt
      have g0 : (bytesOf b)[at_]? = some (.int .u8 t.toNat) := by rw [bytesOf_get, k0]; rfl
      have g1 : (bytesOf b)[at_ + 1]? = some (.int .u8 n.toNat) := by rw [bytesOf_get, k1]; rfl
      have c1 : (at_ : Int) + 1 = ((at_ + 1 : Nat) : Int) := by omega
      have c2 : (at_ : Int) + 2 = ((at_ + 2 : Nat) : Int) := by omega
      have c3 : (at_ : Int) + (n.toNat : Int) = ((at_ + n.toNat : Nat) : Int) := by omega
      by_cases h2 : n.toNat < 2
      · rw [parse_low _ _ _ _ h2] at hs
        subst hs
        simp (maxSteps := 400000) -dsimp -implicitDefEqProofs (disch := first | exact TrueB.mk rfl | omega) only [go_sem, Nat.reduceMul, Nat.reduceAdd, Nat.reduceLT, Nat.reduceLeDiff, Nat.reducePow, Nat.reduceEqDiff, ↓reduceIte, reduceCtorEq, Int.reduceToNat, g0, g1, c1, c2, c3]
        first | (refine Eq.trans (end_rowC2 rfl rfl rfl rfl rfl rfl rfl rfl rfl) ?_; rfl) | done
      · by_cases h3 : q.length < n.toNat - 2
        · rw [parse_short _ _ _ _ (by omega) h3] at hs
          subst hs
          simp (maxSteps := 400000) -dsimp -implicitDefEqProofs (disch := first | exact TrueB.mk rfl | omega) only [go_sem, Nat.reduceMul, Nat.reduceAdd, Nat.reduceLT, Nat.reduceLeDiff, Nat.reducePow, Nat.reduceEqDiff, ↓reduceIte, reduceCtorEq, Int.reduceToNat, g0, g1, c1, c2, c3]
          first | (refine Eq.trans (end_rowC2 rfl rfl rfl rfl rfl rfl rfl rfl rfl) ?_; rfl) | done
        · rw [parse_go _ _ _ _ (by omega) (by omega)] at hs
          have hdrop : b.drop (at_ + n.toNat) = q.drop (n.toNat - 2) := by
            rw [← List.drop_drop, hr]
            obtain ⟨k, hk⟩ : ∃ k, n.toNat = k + 2 := ⟨n.toNat - 2, by omega⟩
            rw [hk]
            rfl
          have hcut : (b.drop (at_ + 2)).take (at_ + n.toNat - (at_ + 2)) = q.take (n.toNat - 2) := by
            rw [← List.drop_drop, hr, show at_ + n.toNat - (at_ + 2) = n.toNat - 2 by omega]
            rfl
          have hq : (q.take (n.toNat - 2)).length ≤ 255 := by rw [List.length_take]; omega
          have hz := zOf_or out
          simp (maxSteps := 400000) -dsimp -implicitDefEqProofs (disch := first | exact TrueB.mk rfl | omega) only [go_sem, Nat.reduceMul, Nat.reduceAdd, Nat.reduceLT, Nat.reduceLeDiff, Nat.reducePow, Nat.reduceEqDiff, ↓reduceIte, reduceCtorEq, Int.reduceToNat, g0, g1, c1, c2, c3, hcut, hz, opts_snoc, allScalar]
          refine again_mk ⟨(at_ + n.toNat, out ++ [((t.toNat : Int), q.take (n.toNat - 2))]), ⟨by show at_ + n.toNat ≤ b.length; omega, ?_, ?_⟩, by show _ - (at_ + n.toNat) < _ - at_; omega, ?_⟩
          · simp only [List.length_append, List.length_cons, List.length_nil]
            omega
          · show p = glue _ (parse (at_ + n.toNat) (b.drop (at_ + n.toNat)))
            rw [hdrop]
            exact hs
          · simp only [zOf_snoc, List.length_append, List.length_cons, List.length_nil, Nat.add_sub_cancel]
            rfl
  · have hend : b.drop at_ = [] := List.drop_eq_nil_of_le (by omega)
    rw [hend, parse_nil] at hs
    have hp : resR p = (out, 0, 0) := by rw [hs]; simp [glue, resR]
    rw [hp]
    simp (maxSteps := 400000) -dsimp -implicitDefEqProofs (disch := first | exact TrueB.mk rfl | omega) only [go_sem, Nat.reduceMul, Nat.reduceAdd, Nat.reduceLT, Nat.reduceLeDiff, Nat.reducePow, Nat.reduceEqDiff, ↓reduceIte, reduceCtorEq, Int.reduceToNat]
    refine Eq.trans (end_rowC2 rfl rfl rfl rfl rfl rfl (optsV_length _).symm rfl rfl) ?_
    rw [lim_opts]
    rfl
end Go.Proofs.Ytpgklagjjimbhaa
