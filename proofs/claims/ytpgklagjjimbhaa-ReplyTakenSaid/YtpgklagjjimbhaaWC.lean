/- YtpgklagjjimbhaaWC: what naks: the closures and the walks. No claim. -/
import Derived.Test.YtpgklagjjimbhaaWB
set_option linter.unusedVariables false
set_option linter.unusedSimpArgs false
set_option maxRecDepth 100000
namespace Go.Proofs.Ytpgklagjjimbhaa
open Go Go.Proofs.Ytpgklagjjimbhaa.V

set_option maxHeartbeats 4000000 in
theorem has1_any (x o : Opt) (m m1 m2 : Bool) : Runs Try.prog env 98 [.pure m (optV x), .ptr 0 0] [(0, .box [.pure m1 (.int .i64 o.1), .pure m2 (.sl (bytesOf o.2))])] (.pure true (.bool (x == o))) [(0, .box [.pure m1 (.int .i64 o.1), .pure m2 (.sl (bytesOf o.2))])] := by
  have e : ([x] == [o]) = (x == o) := by simp
  rw [← e]
  have g1 : [PV.agg [.int .i64 x.1, .sl (bytesOf x.2)]] = optsV [x] := rfl
  have g2 : [PV.agg [.int .i64 o.1, .sl (bytesOf o.2)]] = optsV [o] := rfl
  refine Runs.of Try.func98 rfl (by simp [Try.ntmps98]) ?_
  unfold optV
  simp (maxSteps := 400000) -dsimp -implicitDefEqProofs (disch := first | exact TrueB.mk rfl | omega) only [go_sem, Nat.reduceMul, Nat.reduceAdd, Nat.reduceLT, Nat.reduceLeDiff, Nat.reducePow, Nat.reduceEqDiff, ↓reduceIte, reduceCtorEq, Int.reduceToNat, Try.ntmps98]
  first | refine wpAct_callF (optSame_any [x] [o] (by simp) _ _) rfl rfl rfl rfl (argV_r rfl rfl (argV_r rfl rfl argV_nil)) rfl rfl rfl rfl ?_ | done
  simp (maxSteps := 400000) -dsimp -implicitDefEqProofs (disch := first | exact TrueB.mk rfl | omega) only [go_sem, Nat.reduceMul, Nat.reduceAdd, Nat.reduceLT, Nat.reduceLeDiff, Nat.reducePow, Nat.reduceEqDiff, ↓reduceIte, reduceCtorEq, Int.reduceToNat]
  first | exact rfl | done

set_option maxHeartbeats 4000000 in
theorem indexHas_any (l : List Opt) (o : Opt) (hl : l.length ≤ 100000) (m m1 : Bool) : Runs Try.prog env 84 [.pure m (.sl (optsV l)), .clo 98 [.ptr 0 0]] [(0, .box [.pure m1 (.int .i64 o.1), .pure false (.sl (bytesOf o.2))])] (.pure true (.int .i64 (idxP (fun x => x == o) l))) [(0, .box [.pure m1 (.int .i64 o.1), .pure false (.sl (bytesOf o.2))])] := by
  refine Runs.of Try.func84 rfl (by simp [Try.ntmps84]) ?_
  simp (maxSteps := 400000) -dsimp -implicitDefEqProofs (disch := first | exact TrueB.mk rfl | omega) only [go_sem, Nat.reduceMul, Nat.reduceAdd, Nat.reduceLT, Nat.reduceLeDiff, Nat.reducePow, Nat.reduceEqDiff, ↓reduceIte, reduceCtorEq, Int.reduceToNat, Try.ntmps84]
  refine wpLoop_ind (α := Nat)
    (fun i => ⟨[(0, .pure m (.sl (optsV l))), (1, .clo 98 [.ptr 0 0]), (7, .pure true (.int .i64 l.length)), (8, .pure true (.int .i64 i))], [(0, .box [.pure m1 (.int .i64 o.1), .pure false (.sl (bytesOf o.2))])]⟩)
    (fun i => noneP (fun x => x == o) l i) (fun i => l.length - i) ?_ 0 (noneP_0 _ l) rfl
  rintro i hi
  have hi' := hi.1
  simp (maxSteps := 400000) -dsimp -implicitDefEqProofs (disch := first | exact TrueB.mk rfl | omega) only [go_sem, Nat.reduceMul, Nat.reduceAdd, Nat.reduceLT, Nat.reduceLeDiff, Nat.reducePow, Nat.reduceEqDiff, ↓reduceIte, reduceCtorEq, Int.reduceToNat]
  first | refine condK_dec (fun h1 => ?_) (fun h1 => ?_) | refine condK_ndec (fun h1 => ?_) (fun h1 => ?_) | refine condK_beq (fun h1 => ?_) (fun h1 => ?_) | refine condK_bne (fun h1 => ?_) (fun h1 => ?_) | refine condK_nbeq (fun h1 => ?_) (fun h1 => ?_) | refine guardK_dec (fun h1 => ?_) (fun h1 => ?_) | refine guardK_ndec (fun h1 => ?_) (fun h1 => ?_) | refine guardK_beq (fun h1 => ?_) (fun h1 => ?_) | refine guardK_bne (fun h1 => ?_) (fun h1 => ?_) | refine guardK_nbeq (fun h1 => ?_) (fun h1 => ?_) | refine condK_not (fun h1 => ?_) (fun h1 => ?_) | refine guardK_not (fun h1 => ?_) (fun h1 => ?_) | refine condK_bool (fun h1 => ?_) (fun h1 => ?_) | refine guardK_bool (fun h1 => ?_) (fun h1 => ?_) | done
  · have g1 := opts_at (l := l) (i := i) (by omega)
    have hlt : i < l.length := by omega
    simp (maxSteps := 400000) -dsimp -implicitDefEqProofs (disch := first | exact TrueB.mk rfl | omega) only [go_sem, Nat.reduceMul, Nat.reduceAdd, Nat.reduceLT, Nat.reduceLeDiff, Nat.reducePow, Nat.reduceEqDiff, ↓reduceIte, reduceCtorEq, Int.reduceToNat, g1]
    first | refine wpAct_callS [0] (has1_any (l[i]'hlt) o _ _ _) rfl rfl rfl rfl rfl rfl rfl rfl rfl rfl ?_ | done
    cases h2 : (l[i]'hlt) == o with
    | true =>
      simp (maxSteps := 400000) -dsimp -implicitDefEqProofs (disch := first | exact TrueB.mk rfl | omega) only [go_sem, Nat.reduceMul, Nat.reduceAdd, Nat.reduceLT, Nat.reduceLeDiff, Nat.reducePow, Nat.reduceEqDiff, ↓reduceIte, reduceCtorEq, Int.reduceToNat, h2]
      rw [idxP_at hi hlt h2]
      first | exact rfl | done
    | false =>
      simp (maxSteps := 400000) -dsimp -implicitDefEqProofs (disch := first | exact TrueB.mk rfl | omega) only [go_sem, Nat.reduceMul, Nat.reduceAdd, Nat.reduceLT, Nat.reduceLeDiff, Nat.reducePow, Nat.reduceEqDiff, ↓reduceIte, reduceCtorEq, Int.reduceToNat, h2]
      first | exact again_mk ⟨i + 1, noneP_next hi hlt h2, by show _ - (i + 1) < _ - i; omega, rfl⟩ | done
  · simp (maxSteps := 400000) -dsimp -implicitDefEqProofs (disch := first | exact TrueB.mk rfl | omega) only [go_sem, Nat.reduceMul, Nat.reduceAdd, Nat.reduceLT, Nat.reduceLeDiff, Nat.reducePow, Nat.reduceEqDiff, ↓reduceIte, reduceCtorEq, Int.reduceToNat]
    rw [idxP_none hi (by omega)]
    first | exact rfl | done

theorem has_any (l : List Opt) (o : Opt) (hl : l.length ≤ 100000) (m m1 : Bool) : Runs Try.prog env 96 [.pure m (.sl (optsV l)), .clo 98 [.ptr 0 0]] [(0, .box [.pure m1 (.int .i64 o.1), .pure false (.sl (bytesOf o.2))])] (.pure true (.bool (l.contains o))) [(0, .box [.pure m1 (.int .i64 o.1), .pure false (.sl (bytesOf o.2))])] := by
  rw [← idxP_has]
  refine Runs.of Try.func96 rfl (by simp [Try.ntmps96]) ?_
  simp (maxSteps := 400000) -dsimp -implicitDefEqProofs (disch := first | exact TrueB.mk rfl | omega) only [go_sem, Nat.reduceMul, Nat.reduceAdd, Nat.reduceLT, Nat.reduceLeDiff, Nat.reducePow, Nat.reduceEqDiff, ↓reduceIte, reduceCtorEq, Int.reduceToNat, Try.ntmps96]
  first | refine wpAct_callS [0] (indexHas_any l o hl _ _) rfl rfl rfl rfl rfl rfl rfl rfl rfl rfl ?_ | done
  simp (maxSteps := 400000) -dsimp -implicitDefEqProofs (disch := first | exact TrueB.mk rfl | omega) only [go_sem, Nat.reduceMul, Nat.reduceAdd, Nat.reduceLT, Nat.reduceLeDiff, Nat.reducePow, Nat.reduceEqDiff, ↓reduceIte, reduceCtorEq, Int.reduceToNat]
  first | exact rfl | done

/-! ### one option of the answer -/
def nakS (a : List Opt) (es : List (PV × PV)) (z lim : Nat) (last : Int) : Store := [(0, .box [.map 1]), (1, .map false es), (2, .box [.row 3 a.length]), (3, .row false z lim (optsV a)), (4, .box [.pure true (.int .i64 last)])]
set_option maxHeartbeats 8000000 in
theorem nak1_any (a : List Opt) (ha : a.length ≤ 100000) (ks : List (Int × Nat)) (hk : places a ks) (z lim : Nat) (hlim : a.length ≤ lim) (o : Opt) (pre : List Opt) (m : Bool) : Runs Try.prog env 97 [.pure m (optV o), .ptr 0 0, .ptr 2 0, .ptr 4 0] (nakS a (plM ks) z lim (lastL a pre)) (.pure true (.bool (badO a pre o))) (nakS a (plM ks) z lim (max (lastL a pre) (placeO a o))) := by
  have g2 := mapFind_pl o.1 ks
  rw [hk] at g2
  unfold badO placeO nakS
  have hmx : max lim a.length = lim := Nat.max_eq_left hlim
  have hmax : ∀ (q : Bool) (n : Nat), maxV (lastL a pre) [SV.pure q (.int .i64 n)] = some (max (lastL a pre) (n : Int)) := by
    intro q n
    simp only [maxV]
    split <;> (congr 1; omega)
  cases m
  all_goals
    cases hf : findO a o.1 with
    | none =>
      rw [hf] at g2
      refine Runs.of Try.func97 rfl (by simp [Try.ntmps97]) ?_
      unfold optV
      simp (maxSteps := 400000) -dsimp -implicitDefEqProofs (disch := first | exact TrueB.mk rfl | omega) only [go_sem, Nat.reduceMul, Nat.reduceAdd, Nat.reduceLT, Nat.reduceLeDiff, Nat.reducePow, Nat.reduceEqDiff, ↓reduceIte, reduceCtorEq, Int.reduceToNat, Try.ntmps97, g2]
      refine wpAct_callS [69] (has_any a o ha _ _) rfl rfl rfl rfl (argV_r rfl (optsV_length a).symm (argV_p rfl argV_nil)) rfl rfl rfl rfl rfl ?_
      simp (maxSteps := 400000) -dsimp -implicitDefEqProofs (disch := first | exact TrueB.mk rfl | omega) only [go_sem, Nat.reduceMul, Nat.reduceAdd, Nat.reduceLT, Nat.reduceLeDiff, Nat.reducePow, Nat.reduceEqDiff, ↓reduceIte, reduceCtorEq, Int.reduceToNat, hmx, hmax]
      first | exact rfl | done
    | some i =>
      rw [hf] at g2
      refine Runs.of Try.func97 rfl (by simp [Try.ntmps97]) ?_
      unfold optV
      simp (maxSteps := 400000) -dsimp -implicitDefEqProofs (disch := first | exact TrueB.mk rfl | omega) only [go_sem, Nat.reduceMul, Nat.reduceAdd, Nat.reduceLT, Nat.reduceLeDiff, Nat.reducePow, Nat.reduceEqDiff, ↓reduceIte, reduceCtorEq, Int.reduceToNat, Try.ntmps97, g2]
      first | refine condK_dec (fun h1 => ?_) (fun h1 => ?_) | refine condK_ndec (fun h1 => ?_) (fun h1 => ?_) | refine condK_beq (fun h1 => ?_) (fun h1 => ?_) | refine condK_bne (fun h1 => ?_) (fun h1 => ?_) | refine condK_nbeq (fun h1 => ?_) (fun h1 => ?_) | refine guardK_dec (fun h1 => ?_) (fun h1 => ?_) | refine guardK_ndec (fun h1 => ?_) (fun h1 => ?_) | refine guardK_beq (fun h1 => ?_) (fun h1 => ?_) | refine guardK_bne (fun h1 => ?_) (fun h1 => ?_) | refine guardK_nbeq (fun h1 => ?_) (fun h1 => ?_) | refine condK_not (fun h1 => ?_) (fun h1 => ?_) | refine guardK_not (fun h1 => ?_) (fun h1 => ?_) | refine condK_bool (fun h1 => ?_) (fun h1 => ?_) | refine guardK_bool (fun h1 => ?_) (fun h1 => ?_) | done
      · simp (maxSteps := 400000) -dsimp -implicitDefEqProofs (disch := first | exact TrueB.mk rfl | omega) only [go_sem, Nat.reduceMul, Nat.reduceAdd, Nat.reduceLT, Nat.reduceLeDiff, Nat.reducePow, Nat.reduceEqDiff, ↓reduceIte, reduceCtorEq, Int.reduceToNat]
        refine wpAct_callS [69] (has_any a o ha _ _) rfl rfl rfl rfl (argV_r rfl (optsV_length a).symm (argV_p rfl argV_nil)) rfl rfl rfl rfl rfl ?_
        simp (maxSteps := 400000) -dsimp -implicitDefEqProofs (disch := first | exact TrueB.mk rfl | omega) only [go_sem, Nat.reduceMul, Nat.reduceAdd, Nat.reduceLT, Nat.reduceLeDiff, Nat.reducePow, Nat.reduceEqDiff, ↓reduceIte, reduceCtorEq, Int.reduceToNat, hmx, hmax]
        first | exact rfl | done
      · simp (maxSteps := 400000) -dsimp -implicitDefEqProofs (disch := first | exact TrueB.mk rfl | omega) only [go_sem, Nat.reduceMul, Nat.reduceAdd, Nat.reduceLT, Nat.reduceLeDiff, Nat.reducePow, Nat.reduceEqDiff, ↓reduceIte, reduceCtorEq, Int.reduceToNat, hmx, hmax]
        first | exact rfl | done

/-- The first wrong one. -/
def firstBad (a b : List Opt) : Int := idxI ((List.range b.length).findIdx? fun i => badO a (b.take i) (b.getD i (0, [])))
theorem firstBad_at {a b : List Opt} {i : Nat} (h : noneBad a b i) (h1 : i < b.length) (e : badO a (b.take i) b[i] = true) : firstBad a b = i := by
  unfold firstBad
  have : (List.range b.length).findIdx? (fun i => badO a (b.take i) (b.getD i (0, []))) = some i := by
    rw [List.findIdx?_eq_some_iff_getElem]
    refine ⟨by simpa using h1, by simpa [List.getD_eq_getElem?_getD, h1] using e, fun j hj => ?_⟩
    have h2 := h.2 j (by omega) hj
    have h3 : j < b.length := by omega
    simp [List.getD_eq_getElem?_getD, h3, h2]
  rw [this]
  rfl
theorem firstBad_none {a b : List Opt} {i : Nat} (h : noneBad a b i) (h1 : b.length ≤ i) : firstBad a b = -1 := by
  unfold firstBad
  have : (List.range b.length).findIdx? (fun i => badO a (b.take i) (b.getD i (0, []))) = none := by
    rw [List.findIdx?_eq_none_iff]
    intro j hj
    have h3 := List.mem_range.1 hj
    simp [List.getD_eq_getElem?_getD, h3, h.2 j h3 (by omega)]
  rw [this]
  rfl
theorem firstBad_dec (a b : List Opt) : decide (0 ≤ firstBad a b) = !naksO a b := by
  unfold firstBad
  cases h : (List.range b.length).findIdx? (fun i => badO a (b.take i) (b.getD i (0, []))) with
  | none =>
    rw [List.findIdx?_eq_none_iff] at h
    have : naksO a b = true := by
      unfold naksO
      rw [List.all_eq_true]
      intro i hi
      show (!(badO a (b.take i) (b.getD i (0, [])))) = true
      rw [show badO a (b.take i) (b.getD i (0, [])) = false from h i hi]
      rfl
    rw [this]
    rfl
  | some i =>
    rw [List.findIdx?_eq_some_iff_getElem] at h
    obtain ⟨hi, e, _⟩ := h
    have : naksO a b = false := by
      unfold naksO
      rw [List.all_eq_false]
      exact ⟨_, List.getElem_mem hi, by simpa using e⟩
    rw [this]
    simp [idxI]

def lastB (a b : List Opt) : Int := match firstBad a b with
  | .ofNat i => lastL a (b.take (i + 1))
  | _ => lastL a b
theorem lastB_at {a b : List Opt} {i : Nat} (e : firstBad a b = i) : lastB a b = lastL a (b.take (i + 1)) := by
  unfold lastB
  rw [e]
theorem lastB_none {a b : List Opt} (e : firstBad a b = -1) : lastB a b = lastL a b := by
  unfold lastB
  rw [e]
  rfl

set_option maxHeartbeats 8000000 in
theorem indexNak_any (a b : List Opt) (ha : a.length ≤ 100000) (hb : b.length ≤ 100000) (ks : List (Int × Nat)) (hk : places a ks) (z lim : Nat) (hlim : a.length ≤ lim) (m : Bool) : Runs Try.prog env 84 [.pure m (.sl (optsV b)), .clo 97 [.ptr 0 0, .ptr 2 0, .ptr 4 0]] (nakS a (plM ks) z lim (-1)) (.pure true (.int .i64 (firstBad a b))) (nakS a (plM ks) z lim (lastB a b)) := by
  refine Runs.of Try.func84 rfl (by simp [Try.ntmps84]) ?_
  simp (maxSteps := 400000) -dsimp -implicitDefEqProofs (disch := first | exact TrueB.mk rfl | omega) only [go_sem, Nat.reduceMul, Nat.reduceAdd, Nat.reduceLT, Nat.reduceLeDiff, Nat.reducePow, Nat.reduceEqDiff, ↓reduceIte, reduceCtorEq, Int.reduceToNat, Try.ntmps84]
  refine wpLoop_ind (α := Nat)
    (fun i => ⟨[(0, .pure m (.sl (optsV b))), (1, .clo 97 [.ptr 0 0, .ptr 2 0, .ptr 4 0]), (7, .pure true (.int .i64 b.length)), (8, .pure true (.int .i64 i))], nakS a (plM ks) z lim (lastL a (b.take i))⟩)
    (fun i => noneBad a b i) (fun i => b.length - i) ?_ 0 (noneBad_0 a b) rfl
  rintro i hi
  have hi' := hi.1
  simp (maxSteps := 400000) -dsimp -implicitDefEqProofs (disch := first | exact TrueB.mk rfl | omega) only [go_sem, Nat.reduceMul, Nat.reduceAdd, Nat.reduceLT, Nat.reduceLeDiff, Nat.reducePow, Nat.reduceEqDiff, ↓reduceIte, reduceCtorEq, Int.reduceToNat]
  first | refine condK_dec (fun h1 => ?_) (fun h1 => ?_) | refine condK_ndec (fun h1 => ?_) (fun h1 => ?_) | refine condK_beq (fun h1 => ?_) (fun h1 => ?_) | refine condK_bne (fun h1 => ?_) (fun h1 => ?_) | refine condK_nbeq (fun h1 => ?_) (fun h1 => ?_) | refine guardK_dec (fun h1 => ?_) (fun h1 => ?_) | refine guardK_ndec (fun h1 => ?_) (fun h1 => ?_) | refine guardK_beq (fun h1 => ?_) (fun h1 => ?_) | refine guardK_bne (fun h1 => ?_) (fun h1 => ?_) | refine guardK_nbeq (fun h1 => ?_) (fun h1 => ?_) | refine condK_not (fun h1 => ?_) (fun h1 => ?_) | refine guardK_not (fun h1 => ?_) (fun h1 => ?_) | refine condK_bool (fun h1 => ?_) (fun h1 => ?_) | refine guardK_bool (fun h1 => ?_) (fun h1 => ?_) | done
  · have g1 := opts_at (l := b) (i := i) (by omega)
    have hlt : i < b.length := by omega
    simp (maxSteps := 400000) -dsimp -implicitDefEqProofs (disch := first | exact TrueB.mk rfl | omega) only [go_sem, Nat.reduceMul, Nat.reduceAdd, Nat.reduceLT, Nat.reduceLeDiff, Nat.reducePow, Nat.reduceEqDiff, ↓reduceIte, reduceCtorEq, Int.reduceToNat, g1]
    refine wpAct_callS [0, 1, 2, 3, 4] (nak1_any a ha ks hk z lim hlim (b[i]'hlt) (b.take i) _) rfl rfl rfl rfl rfl rfl rfl rfl rfl rfl ?_
    have hn := lastL_next a b hlt
    cases h2 : badO a (b.take i) (b[i]'hlt) with
    | true =>
      simp (maxSteps := 400000) -dsimp -implicitDefEqProofs (disch := first | exact TrueB.mk rfl | omega) only [go_sem, Nat.reduceMul, Nat.reduceAdd, Nat.reduceLT, Nat.reduceLeDiff, Nat.reducePow, Nat.reduceEqDiff, ↓reduceIte, reduceCtorEq, Int.reduceToNat, h2]
      have hf := firstBad_at hi hlt h2
      rw [lastB_at hf, hf, hn]
      first | exact rfl | done
    | false =>
      simp (maxSteps := 400000) -dsimp -implicitDefEqProofs (disch := first | exact TrueB.mk rfl | omega) only [go_sem, Nat.reduceMul, Nat.reduceAdd, Nat.reduceLT, Nat.reduceLeDiff, Nat.reducePow, Nat.reduceEqDiff, ↓reduceIte, reduceCtorEq, Int.reduceToNat, h2]
      refine again_mk ⟨i + 1, noneBad_next hi hlt h2, by show _ - (i + 1) < _ - i; omega, ?_⟩
      rw [hn]
      rfl
  · simp (maxSteps := 400000) -dsimp -implicitDefEqProofs (disch := first | exact TrueB.mk rfl | omega) only [go_sem, Nat.reduceMul, Nat.reduceAdd, Nat.reduceLT, Nat.reduceLeDiff, Nat.reducePow, Nat.reduceEqDiff, ↓reduceIte, reduceCtorEq, Int.reduceToNat]
    have hf := firstBad_none hi (by omega)
    rw [lastB_none hf, hf, List.take_of_length_le (by omega)]
    first | exact rfl | done

theorem contNak_any (a b : List Opt) (ha : a.length ≤ 100000) (hb : b.length ≤ 100000) (ks : List (Int × Nat)) (hk : places a ks) (z lim : Nat) (hlim : a.length ≤ lim) (m : Bool) : Runs Try.prog env 96 [.pure m (.sl (optsV b)), .clo 97 [.ptr 0 0, .ptr 2 0, .ptr 4 0]] (nakS a (plM ks) z lim (-1)) (.pure true (.bool (!naksO a b))) (nakS a (plM ks) z lim (lastB a b)) := by
  rw [← firstBad_dec]
  refine Runs.of Try.func96 rfl (by simp [Try.ntmps96]) ?_
  simp (maxSteps := 400000) -dsimp -implicitDefEqProofs (disch := first | exact TrueB.mk rfl | omega) only [go_sem, Nat.reduceMul, Nat.reduceAdd, Nat.reduceLT, Nat.reduceLeDiff, Nat.reducePow, Nat.reduceEqDiff, ↓reduceIte, reduceCtorEq, Int.reduceToNat, Try.ntmps96]
  refine wpAct_callS [0, 1, 2, 3, 4] (indexNak_any a b ha hb ks hk z lim hlim _) rfl rfl rfl rfl rfl rfl rfl rfl rfl rfl ?_
  simp (maxSteps := 400000) -dsimp -implicitDefEqProofs (disch := first | exact TrueB.mk rfl | omega) only [go_sem, Nat.reduceMul, Nat.reduceAdd, Nat.reduceLT, Nat.reduceLeDiff, Nat.reducePow, Nat.reduceEqDiff, ↓reduceIte, reduceCtorEq, Int.reduceToNat]
  first | exact rfl | done
end Go.Proofs.Ytpgklagjjimbhaa
