/- YticdhmcbooabaaaZB: scripts of steps that can be; what is fired is reachable; what an argument is; CellsReach over the evaluator. No claim. -/
import Derived.Test.YticdhmcbooabaaaE
import Derived.Test.YticdhmcbooabaaaWB
import Derived.Test.YticdhmcbooabaaaA
set_option linter.unusedVariables false
set_option linter.unusedSimpArgs false
set_option maxRecDepth 1000000
namespace Go.Proofs.Yticdhmcbooabaaa
open Go Go.Proofs.Yticdhmcbooabaaa.V

theorem wfc_i64 {n : Nat} {cs : List PV} (h : WfC Try.prog (n + 1) 3 cs) : ∃ i : Int, cs = [.int .i64 i] ∧ -9223372036854775808 ≤ i ∧ i < 9223372036854775808 := by
  simp only [WfC, Try.underlying3] at h
  obtain ⟨i, h2, h3⟩ := h
  have hb : -9223372036854775808 ≤ i ∧ i ≤ 9223372036854775807 := by
    simpa [Lit.wf, IntKind.min, IntKind.max, IntKind.bits, IntKind.signed] using h3
  exact ⟨i, h2, by omega, by omega⟩
theorem wfc_u8 {n : Nat} {cs : List PV} (h : WfC Try.prog (n + 1) 5 cs) : ∃ c : UInt8, cs = [.int .u8 c.toNat] := by
  simp only [WfC, Try.underlying5] at h
  obtain ⟨i, h2, h3⟩ := h
  have hb : 0 ≤ i ∧ i ≤ 255 := by
    simpa [Lit.wf, IntKind.min, IntKind.max, IntKind.bits, IntKind.signed] using h3
  refine ⟨UInt8.ofNat i.toNat, ?_⟩
  rw [h2, UInt8.toNat_ofNat_of_lt' (by show _ < 256; omega)]
  congr 2
  omega
theorem one_cell {x y : PV} (ha : x.isAgg = false) (h : x.cells = [y]) : x = y := by
  cases x with
  | agg cs => cases ha
  | _ =>
    simp only [PV.cells, List.cons.injEq, and_true] at h
    exact h
theorem wfv_i64 {n : Nat} {x : PV} (h : WfV Try.prog (n + 1) 3 x) : ∃ i : Int, x = .int .i64 i ∧ -9223372036854775808 ≤ i ∧ i < 9223372036854775808 := by
  obtain ⟨h1, h2⟩ := h
  obtain ⟨i, e, hi⟩ := wfc_i64 h2
  exact ⟨i, one_cell (by rw [h1, agg3]) e, hi⟩
theorem wfv_u8 {n : Nat} {x : PV} (h : WfV Try.prog (n + 1) 5 x) : ∃ c : UInt8, x = .int .u8 c.toNat := by
  obtain ⟨h1, h2⟩ := h
  obtain ⟨i, e⟩ := wfc_u8 h2
  exact ⟨i, one_cell (by rw [h1, agg5]) e⟩
theorem agg_cells {x : PV} {cs : List PV} (ha : x.isAgg = true) (h : x.cells = cs) : x = .agg cs := by
  cases x with
  | agg c => rw [← h]; rfl
  | _ => cases ha
theorem bytes_of {xs : List PV} (h : ∀ x ∈ xs, ∃ c : UInt8, x = .int .u8 c.toNat) : ∃ b, xs = bytesOf b := by
  induction xs with
  | nil => exact ⟨[], rfl⟩
  | cons x r ih =>
    obtain ⟨c, rfl⟩ := h x (List.mem_cons_self ..)
    obtain ⟨b, rfl⟩ := ih fun y hy => h y (List.mem_cons_of_mem _ hy)
    exact ⟨c :: b, rfl⟩
theorem wfc_picks {n : Nat} {cs : List PV} (h : WfC Try.prog (n + 1 + 1) 22 cs) : ∃ b, cs = [.sl (bytesOf b)] ∧ b.length ≤ 140737488351232 := by
  unfold WfC at h
  simp only [Try.underlying22] at h
  obtain ⟨xs, h2, h3, h4⟩ := h
  obtain ⟨b, rfl⟩ := bytes_of fun y hy => wfv_u8 (n := n) ⟨(h4 y hy).1, (h4 y hy).2⟩
  rw [bytes5, bytesOf_length] at h3
  exact ⟨b, h2, by omega⟩
theorem wfv_picks {n : Nat} {x : PV} (h : WfV Try.prog (n + 1 + 1) 22 x) : ∃ b, x = .sl (bytesOf b) ∧ b.length ≤ 140737488351232 := by
  obtain ⟨h1, h2⟩ := h
  obtain ⟨b, e, hb⟩ := wfc_picks h2
  exact ⟨b, one_cell (by rw [h1, agg22]) e, hb⟩
theorem wfv_step {n : Nat} {x : PV} (h : WfV Try.prog (n + 1 + 1) 43 x) : ∃ p e : Int, x = .agg [.int .i64 p, .int .i64 e] := by
  obtain ⟨h1, h2⟩ := h
  unfold WfC at h2
  rw [Try.underlying43] at h2
  have h3 : seqW (WfC Try.prog (n + 1)) [3, 3] x.cells := h2
  obtain ⟨a, b, e1, h4, c, d, e2, h5, e3⟩ := h3
  obtain ⟨i, rfl, hi⟩ := wfc_i64 h4
  obtain ⟨j, rfl, hj⟩ := wfc_i64 h5
  have e3' : d = [] := e3
  subst e3' e2
  exact ⟨i, j, agg_cells (by rw [h1, agg43]) e1⟩

theorem wpAct_callP {P : Program} {E : Env} {base : Nat} {o : Oper} {ev : Operand → SV} {look : Nat → Option Ob} {K : Eff → Prop} {c : Call} {f : Operand} {g : FuncId} {caps av : List SV} {δ : Store} {res : SV}
    (hr : Runs P E g av [] res []) (ho : o.op = .call c) (hc : c.callee = .value f) (hf : ev f = .clo g caps) (hi : E.intr g = none) (ha : argV base (E.byRef g) look (c.args.toList.map ev ++ caps) = some (av, δ)) (hn : refsL av = []) (hs : newV res = false) (hs' : refs res = [])
    (hk : freshKeys look (base + 16 * (o.dst.getD 0)) 16 = true)
    (h : K { res := res, wr := δ, rd := some ((List.range 16).map (base + 16 * (o.dst.getD 0) + ·) ++ refsL (c.args.toList.map ev ++ caps)) }) : wpAct P E base o ev look K := by
  refine wpAct_call hr ho hc hf hi ha hn (by simp [hk]) ?_
  rw [ren_id _ _ hs']
  simpa [backAll, hs] using h
theorem allScalar_st (l : List S2) : allScalar (stepsV l) = true := by
  induction l with
  | nil => rfl
  | cons c t ih => exact ih
theorem end_rowS {P : Program} {sl : Slots} {S : Store} {t k n z lim : Nat} {xs : List PV} (hg : get sl t = some (.row k n)) (hk : get S k = some (.row true z lim xs)) (hn : n = xs.length) (hs : allScalar xs = true) : outV P 0 [.tmp t] sl S = some (.row 0 n, [(0, .row true z 0 xs)]) := by
  have := end_rowT (P := P) hg hk hn
  rwa [hs] at this
def zS : List S2 → Nat
  | [] => 0
  | _ :: _ => 2
abbrev w0T : W3 := (true, true, true)
def canAfter (cf tm : Int) (l : List S2) : List S2 := match playL cf tm l zeroB w0T [] with
  | none => []
  | some (b, _) => canL cf tm b
def ledF (cf tm : Int) : List UInt8 → List S2 → List S2
  | [], l => l
  | q :: t, l => match canAfter cf tm l with
    | [] => l
    | y :: k => ledF cf tm t (l ++ [(y :: k).getD (q.toNat % (k.length + 1)) y])
theorem playL_append (cf tm : Int) : ∀ (l1 l2 : List S2) (b : Bn) (w : W3) (L : List C3), playL cf tm (l1 ++ l2) b w L = match playL cf tm l1 b w L with
    | none => none
    | some (b', w', L') => playL cf tm l2 b' w' L' := by
  intro l1
  induction l1 with
  | nil => intro l2 b w L; rfl
  | cons x t ih =>
    intro l2 b w L
    simp only [List.cons_append, playL]
    split
    · rfl
    · exact ih _ _ _ _
theorem play_snoc {cf tm : Int} {l : List S2} {b : Bn} {w : W3} {C : List C3} (h : playL cf tm l zeroB w0T [] = some (b, w, C)) {x : S2} (hx : canB cf tm b x = true) : (playL cf tm (l ++ [x]) zeroB w0T []).isSome = true := by
  rw [playL_append, h]
  simp only [playL]
  unfold canB at hx
  cases hs : stepL cf tm b x.1 x.2 with
  | none => rw [hs] at hx; cases hx
  | some q => obtain ⟨b', l', t0, t1, t2⟩ := q; rfl
theorem getD_mem {k : List S2} {i : Nat} (h : i < k.length) (y : S2) : k.getD i y = k[i] := by simp [List.getD, h]

set_option maxHeartbeats 32000000 in
theorem led_any {cf tm : Int} (h1 : 1 ≤ cf ∧ cf ≤ 255) (h2 : 1 ≤ tm ∧ tm ≤ 255) (q : List UInt8) (hq : q.length ≤ 10000) (m m' : Bool) :
    Runs Try.prog env 9 [.pure m (confV cf tm 1), .pure m' (.sl (bytesOf q))] [] (.row 0 (ledF cf tm q []).length) [(0, .row true (zS (ledF cf tm q [])) 0 (stepsV (ledF cf tm q [])))] := by
  generalize hG : ledF cf tm q [] = G
  have hql := bytesOf_length q
  have ca := fun l hl m m' => Can_any h1 h2 l hl m m'
  unfold confV at *
  refine Runs.of Try.func9 rfl (by simp [Try.ntmps9]) ?_
  simp (maxSteps := 400000) -dsimp -implicitDefEqProofs (disch := first | exact TrueB.mk rfl | omega) only [go_sem, Nat.reduceMul, Nat.reduceAdd, Nat.reduceLT, Nat.reduceLeDiff, Nat.reducePow, Nat.reduceEqDiff, ↓reduceIte, reduceCtorEq, Int.reduceToNat, Try.ntmps9]
  refine wpLoop_ind (α := Nat × List S2 × Nat)
    (fun x => ⟨[(1, .pure m' (.sl (bytesOf q))), (2, .ptr 576 0), (5, .row 577 x.2.1.length), (6, .pure true (.int .i64 (x.1 : Nat)))], [(576, .box [.pure m (.int .i64 cf), .pure m (.int .i64 tm), .pure m (.int .i64 1), .pure m (.int .i64 0), .pure m (.str []), .pure m (.str []), .pure m (.int .i64 0), .pure m (.int .u32 0), .pure m (.bool false)]), (577, .row true (zS x.2.1) x.2.2 (stepsV x.2.1))]⟩)
    (fun x => x.1 ≤ q.length ∧ x.2.1.length ≤ x.1 ∧ (playL cf tm x.2.1 zeroB w0T []).isSome = true ∧ ledF cf tm (q.drop x.1) x.2.1 = G) (fun x => q.length - x.1) ?_ (0, [], 0) ⟨by omega, by simp, rfl, hG⟩ rfl
  clear hG
  rintro ⟨i, L, lim⟩ ⟨hi, hL, hp, hG⟩
  simp only at hi hL hp hG ⊢
  have hll := stepsV_length L
  rcases Classical.em (i < q.length) with hlt | hge
  · obtain ⟨⟨b, w, C⟩, hR⟩ := Option.isSome_iff_exists.1 hp
    have cc := fun m m' => ca L (by omega) m m'
    have hR' : playL cf tm L zeroB (true, true, true) [] = some (b, w, C) := hR
    rw [hR'] at cc
    simp only [CanV, CanS] at cc
    have hca : canAfter cf tm L = canL cf tm b := by unfold canAfter; rw [hR]
    rw [List.drop_eq_getElem_cons hlt] at hG
    simp only [ledF, hca] at hG
    have hmem : ∀ x ∈ canL cf tm b, canB cf tm b x = true := fun x hx => (List.mem_filter.1 hx).2
    generalize canL cf tm b = k at *
    have hkl := stepsV_length k
    have nw : newV (.pure false (.sl (stepsV k))) = false := rfl
    cases k with
    | nil =>
      simp only at hG
      subst hG
      simp (maxSteps := 400000) -dsimp -implicitDefEqProofs (disch := first | exact TrueB.mk rfl | omega) only [go_sem, Nat.reduceMul, Nat.reduceAdd, Nat.reduceLT, Nat.reduceLeDiff, Nat.reducePow, Nat.reduceEqDiff, ↓reduceIte, reduceCtorEq, Int.reduceToNat]
      refine wpAct_callP (cc _ _) rfl rfl rfl rfl (argV_p rfl (argV_r rfl hll.symm argV_nil)) rfl nw rfl rfl ?_
      simp (maxSteps := 400000) -dsimp -implicitDefEqProofs (disch := first | exact TrueB.mk rfl | omega) only [go_sem, Nat.reduceMul, Nat.reduceAdd, Nat.reduceLT, Nat.reduceLeDiff, Nat.reducePow, Nat.reduceEqDiff, ↓reduceIte, reduceCtorEq, Int.reduceToNat, hkl]
      first | exact end_rowS rfl rfl hll.symm (allScalar_st L) | done
    | cons y k =>
      simp only at hG
      have hjl : q[i].toNat % (k.length + 1) < (y :: k).length := by rw [List.length_cons]; exact Nat.mod_lt _ (by omega)
      have g2 := steps_at hjl
      rw [getD_mem hjl] at hG
      have hpx := play_snoc hR (hmem _ (List.getElem_mem hjl))
      have g1 : (bytesOf q)[i]? = some (.int .u8 (q[i].toNat : Nat)) := by rw [bytesOf_get, List.getElem?_eq_getElem hlt]; rfl
      generalize (y :: k)[q[i].toNat % (k.length + 1)] = st at *
      have hz : zS L = 2 ∨ zS L = 0 := by cases L <;> simp [zS]
      have hz2 : zS (L ++ [st]) = 2 := by cases L <;> rfl
      have hu := q[i].toNat_lt
      generalize q[i].toNat = u at *
      have hm0 : ((u : Nat) : Int).tmod ((k.length + 1 : Nat) : Int) = ((u % (k.length + 1) : Nat) : Int) := tmod_nat _ _
      have hw1 : IntKind.i64.wrap ((u : Nat) : Int) = ((u : Nat) : Int) := by rw [wrap_i64 (by omega) (by omega)]
      generalize zS L = zz at hz ⊢
      rw [List.length_cons] at hkl
      generalize stepsV (y :: k) = kk' at *
      simp (maxSteps := 400000) -dsimp -implicitDefEqProofs (disch := first | exact TrueB.mk rfl | omega) only [go_sem, Nat.reduceMul, Nat.reduceAdd, Nat.reduceLT, Nat.reduceLeDiff, Nat.reducePow, Nat.reduceEqDiff, ↓reduceIte, reduceCtorEq, Int.reduceToNat, hql]
      refine wpAct_callP (cc _ _) rfl rfl rfl rfl (argV_p rfl (argV_r rfl hll.symm argV_nil)) rfl nw rfl rfl ?_
      have sc2 : ∀ a b : Int, PV.scalar.go [.int .i64 a, .int .i64 b] = true := fun _ _ => rfl
      simp (maxSteps := 400000) -dsimp -implicitDefEqProofs (disch := first | exact TrueB.mk rfl | omega) only [go_sem, Nat.reduceMul, Nat.reduceAdd, Nat.reduceLT, Nat.reduceLeDiff, Nat.reducePow, Nat.reduceEqDiff, ↓reduceIte, reduceCtorEq, Int.reduceToNat, hkl, g1, g2, hm0, hw1, hz, hll, sc2, Bool.or_true]
      refine again_mk ⟨(i + 1, L ++ [st], L.length), ⟨Nat.succ_le_of_lt hlt, by simp only [List.length_append, List.length_cons, List.length_nil]; omega, hpx, hG⟩, by simp only; omega, ?_⟩
      simp only [hz2, stepsV, List.map_append, List.map_cons, List.map_nil, List.length_append, List.length_cons, List.length_nil]
      rfl
  · obtain rfl : i = q.length := by omega
    rw [List.drop_length] at hG
    simp only [ledF] at hG
    subst hG
    simp (maxSteps := 400000) -dsimp -implicitDefEqProofs (disch := first | exact TrueB.mk rfl | omega) only [go_sem, Nat.reduceMul, Nat.reduceAdd, Nat.reduceLT, Nat.reduceLeDiff, Nat.reducePow, Nat.reduceEqDiff, ↓reduceIte, reduceCtorEq, Int.reduceToNat, hql]
    first | exact end_rowS rfl rfl hll.symm (allScalar_st L) | done

theorem ledF_ok (cf tm : Int) : ∀ (q : List UInt8) (l : List S2), (playL cf tm l zeroB w0T []).isSome = true → (playL cf tm (ledF cf tm q l) zeroB w0T []).isSome = true ∧ (ledF cf tm q l).length ≤ l.length + q.length := by
  intro q
  induction q with
  | nil => exact fun l h => ⟨h, by simp [ledF]⟩
  | cons u t ih =>
    intro l h
    simp only [ledF]
    obtain ⟨⟨b, w, C⟩, hR⟩ := Option.isSome_iff_exists.1 h
    have hca : canAfter cf tm l = canL cf tm b := by unfold canAfter; rw [hR]
    have hmem : ∀ x ∈ canL cf tm b, canB cf tm b x = true := fun x hx => (List.mem_filter.1 hx).2
    rw [hca]
    generalize canL cf tm b = k at *
    cases k with
    | nil => exact ⟨h, by simp⟩
    | cons y k =>
      simp only
      have hjl : u.toNat % (k.length + 1) < (y :: k).length := by rw [List.length_cons]; exact Nat.mod_lt _ (by omega)
      rw [getD_mem hjl]
      obtain ⟨q1, q2⟩ := ih _ (play_snoc hR (hmem _ (List.getElem_mem hjl)))
      refine ⟨q1, ?_⟩
      rw [List.length_append, List.length_cons, List.length_nil] at q2
      rw [List.length_cons]
      omega
theorem playL_pre (cf tm : Int) : ∀ (l : List S2) (b : Bn) (w : W3) (C : List C3) {b' : Bn} {w' : W3} {C' : List C3}, playL cf tm l b w C = some (b', w', C') → ∃ D, C' = C ++ D := by
  intro l
  induction l with
  | nil =>
    intro b w C b' w' C' h
    simp only [playL, Option.some.injEq, Prod.mk.injEq] at h
    obtain ⟨rfl, rfl, rfl⟩ := h
    exact ⟨[], by simp⟩
  | cons x t ih =>
    intro b w C b' w' C' h
    simp only [playL] at h
    split at h
    · cases h
    · rename_i b1 l1 t0 t1 t2 hs
      obtain ⟨D, hD⟩ := ih _ _ _ h
      exact ⟨l1 ++ D, by rw [hD, List.append_assoc]⟩
theorem hapL_in {cf tm : Int} {x x' : L3} {e : Int} (h : hapL cf tm x e = some x') : 1 ≤ e ∧ e ≤ 16 := by
  obtain ⟨n, l, h2, _⟩ := hapL_yes h
  unfold stepOut at h2
  split at h2
  · cases h2
  · rename_i p hp
    unfold cellI at hp
    split at hp
    · rename_i h3; exact ⟨h3.2.2.1, h3.2.2.2⟩
    · cases hp
theorem stepL_in {cf tm : Int} {b : Bn} {p e : Int} {r : Bn × List C3 × Bool × Bool × Bool} (h : stepL cf tm b p e = some r) : (p = 49185 ∨ p = 32801 ∨ p = 32855) ∧ 1 ≤ e ∧ e ≤ 16 := by
  unfold stepL at h
  split at h
  · rename_i hp
    split at h
    · split at h
      · cases h
      · rename_i x' e1
        exact ⟨.inl hp, hapL_in e1⟩
    · cases h
  · split at h
    · rename_i hp
      split at h
      · split at h
        · cases h
        · rename_i x' e1
          exact ⟨.inr (.inl hp), hapL_in e1⟩
      · cases h
    · split at h
      · rename_i hp
        split at h
        · split at h
          · cases h
          · rename_i x' e1
            exact ⟨.inr (.inr hp), hapL_in e1⟩
        · cases h
      · cases h
theorem canB_mem {cf tm : Int} {b : Bn} {x : S2} : canB cf tm b x = decide (x ∈ canL cf tm b) := by
  cases h : canB cf tm b x with
  | true =>
    symm
    apply decide_eq_true
    refine List.mem_filter.2 ⟨?_, h⟩
    unfold canB at h
    obtain ⟨r, hr⟩ := Option.isSome_iff_exists.1 h
    obtain ⟨hp, h1, h2⟩ := stepL_in hr
    obtain ⟨p, e⟩ := x
    simp only at hp h1 h2
    unfold all48
    rw [List.mem_flatMap]
    refine ⟨p, by simpa using hp, ?_⟩
    rw [List.mem_map]
    refine ⟨(e - 1).toNat, List.mem_range.2 (by omega), ?_⟩
    have : (((e - 1).toNat : Nat) : Int) + 1 = e := by omega
    rw [this]
  | false =>
    symm
    apply decide_eq_false
    intro hm
    have := (List.mem_filter.1 hm).2
    rw [h] at this
    cases this

set_option maxHeartbeats 16000000 in
theorem sameC_any (l k : List C3) (hl : l.length ≤ 100000) (hk : k.length ≤ 100000) (m m' : Bool) : Runs Try.prog env 13 [.pure m (.sl (cellsV l)), .pure m' (.sl (cellsV k))] [] (.pure true (.bool (decide (l = k)))) [] := by
  have hll := cellsV_length l
  have hkl := cellsV_length k
  refine Runs.of Try.func13 rfl (by simp [Try.ntmps13]) ?_
  rcases Classical.em (l.length = k.length) with hlen | hlen
  · have hI : ((l.length : Nat) : Int) = ((k.length : Nat) : Int) := by omega
    simp (maxSteps := 400000) -dsimp -implicitDefEqProofs (disch := first | exact TrueB.mk rfl | omega) only [go_sem, Nat.reduceMul, Nat.reduceAdd, Nat.reduceLT, Nat.reduceLeDiff, Nat.reducePow, Nat.reduceEqDiff, ↓reduceIte, reduceCtorEq, Int.reduceToNat, Try.ntmps13, hll, hkl, hlen]
    refine wpLoop_ind (α := Nat)
      (fun i => ⟨[(0, .pure m (.sl (cellsV l))), (1, .pure m' (.sl (cellsV k))), (5, .pure true (.int .i64 (i : Nat)))], []⟩)
      (fun i => i ≤ l.length ∧ l.take i = k.take i) (fun i => l.length - i) ?_ 0 ⟨by omega, rfl⟩ rfl
    rintro i ⟨hi, ht⟩
    rcases Classical.em (i < l.length) with hlt | hge
    · have hlt2 : i < k.length := by omega
      have g1 := cells_at hlt
      have g2 := cells_at hlt2
      have hd : l[i] = k[i] → l.take (i + 1) = k.take (i + 1) := fun e => by rw [← List.take_append_getElem hlt, ← List.take_append_getElem hlt2, ht, e]
      have hne : ¬ l[i] = k[i] → decide (l = k) = false := fun e => decide_eq_false fun h => e (by subst h; rfl)
      generalize l[i] = y at *
      generalize k[i] = x at *
      obtain ⟨a, b, c⟩ := y
      obtain ⟨p, s, e⟩ := x
      simp only at *
      rcases Classical.em (a = p) with h4 | h4
      · rcases Classical.em (b = s) with h5 | h5
        · rcases Classical.em (c = e) with h6 | h6
          · subst h4 h5 h6
            simp (maxSteps := 400000) -dsimp -implicitDefEqProofs (disch := first | exact TrueB.mk rfl | omega) only [go_sem, Nat.reduceMul, Nat.reduceAdd, Nat.reduceLT, Nat.reduceLeDiff, Nat.reducePow, Nat.reduceEqDiff, ↓reduceIte, reduceCtorEq, Int.reduceToNat, g1, g2, hll, hkl, beq_same]
            exact again_mk ⟨i + 1, ⟨by omega, hd rfl⟩, by omega, rfl⟩
          · subst h4 h5
            have h7 : (c == e) = false := by simpa using h6
            simp (maxSteps := 400000) -dsimp -implicitDefEqProofs (disch := first | exact TrueB.mk rfl | omega) only [go_sem, Nat.reduceMul, Nat.reduceAdd, Nat.reduceLT, Nat.reduceLeDiff, Nat.reducePow, Nat.reduceEqDiff, ↓reduceIte, reduceCtorEq, Int.reduceToNat, g1, g2, hll, hkl, beq_same, h7]
            first | exact end_bool rfl (hne (by simp [h6])).symm | done
        · subst h4
          have h7 : (b == s) = false := by simpa using h5
          simp (maxSteps := 400000) -dsimp -implicitDefEqProofs (disch := first | exact TrueB.mk rfl | omega) only [go_sem, Nat.reduceMul, Nat.reduceAdd, Nat.reduceLT, Nat.reduceLeDiff, Nat.reducePow, Nat.reduceEqDiff, ↓reduceIte, reduceCtorEq, Int.reduceToNat, g1, g2, hll, hkl, beq_same, h7]
          first | exact end_bool rfl (hne (by simp [h5])).symm | done
      · have h7 : (a == p) = false := by simpa using h4
        simp (maxSteps := 400000) -dsimp -implicitDefEqProofs (disch := first | exact TrueB.mk rfl | omega) only [go_sem, Nat.reduceMul, Nat.reduceAdd, Nat.reduceLT, Nat.reduceLeDiff, Nat.reducePow, Nat.reduceEqDiff, ↓reduceIte, reduceCtorEq, Int.reduceToNat, g1, g2, hll, hkl, beq_same, h7]
        first | exact end_bool rfl (hne (by simp [h4])).symm | done
    · have heq : l = k := by
        rw [List.take_of_length_le (by omega), List.take_of_length_le (by omega)] at ht
        exact ht
      simp (maxSteps := 400000) -dsimp -implicitDefEqProofs (disch := first | exact TrueB.mk rfl | omega) only [go_sem, Nat.reduceMul, Nat.reduceAdd, Nat.reduceLT, Nat.reduceLeDiff, Nat.reducePow, Nat.reduceEqDiff, ↓reduceIte, reduceCtorEq, Int.reduceToNat, hll, hkl]
      first | exact end_bool rfl (decide_eq_true heq).symm | done
  · have hI : ¬ ((l.length : Nat) : Int) = ((k.length : Nat) : Int) := by omega
    have hne : decide (l = k) = false := decide_eq_false fun h => hlen (by rw [h])
    simp (maxSteps := 400000) -dsimp -implicitDefEqProofs (disch := first | exact TrueB.mk rfl | omega) only [go_sem, Nat.reduceMul, Nat.reduceAdd, Nat.reduceLT, Nat.reduceLeDiff, Nat.reducePow, Nat.reduceEqDiff, ↓reduceIte, reduceCtorEq, Int.reduceToNat, Try.ntmps13, hll, hkl, hlen, hI]
    first | exact end_bool rfl hne.symm | done

theorem mem_take_succ {k : List S2} {i : Nat} (h : i < k.length) (x : S2) : decide (x ∈ k.take (i + 1)) = (decide (x ∈ k.take i) || decide (x = k[i])) := by
  rw [Bool.eq_iff_iff, Bool.or_eq_true, decide_eq_true_eq, decide_eq_true_eq, decide_eq_true_eq, List.take_succ_eq_append_getElem h, List.mem_append, List.mem_singleton]
theorem allW_cells (l : List C3) : allW 3 (cellsV l) = true := by
  induction l with
  | nil => rfl
  | cons k t ih => exact ih
theorem parts {cf tm : Int} {L : List S2} (hp : (playL cf tm L zeroB w0T []).isSome = true) (n : Nat) (x : S2) : ∃ b w A b1 w1 B, playL cf tm L zeroB w0T [] = some (b, w, A) ∧ playL cf tm (L.take n) zeroB w0T [] = some (b1, w1, B) ∧ A.take B.length = B ∧ B.length ≤ A.length ∧ (playL cf tm (L.take n ++ [x]) zeroB w0T []).isSome = decide (x ∈ canL cf tm b1) := by
  obtain ⟨⟨b, w, A⟩, hR⟩ := Option.isSome_iff_exists.1 hp
  have h2 := playL_append cf tm (L.take n) (L.drop n) zeroB w0T []
  rw [List.take_append_drop, hR] at h2
  cases h3 : playL cf tm (L.take n) zeroB w0T [] with
  | none => rw [h3] at h2; cases h2
  | some r =>
    obtain ⟨b1, w1, B⟩ := r
    rw [h3] at h2
    simp only at h2
    obtain ⟨D, hD⟩ := playL_pre cf tm _ _ _ _ h2.symm
    refine ⟨b, w, A, b1, w1, B, hR, rfl, by rw [hD]; simp, by rw [hD]; simp, ?_⟩
    rw [playL_append, h3, ← canB_mem]
    simp only [playL]
    unfold canB
    cases hs : stepL cf tm b1 x.1 x.2 with
    | none => rfl
    | some q => obtain ⟨b', l', t0, t1, t2⟩ := q; rfl

/-- What an event at an automaton comes to is known. -/
def DoneE (cf tm : Int) (i : Nat) (p : Int) (b : L3) (e : Int) (s : S3) : Prop := skip3 i e b.2.2 = false → ∀ x', hapL cf tm b e = some x' → ((p, b.1, e) : C3) ∈ s.1 ∧ x' ∈ s.2.1
/-- A state of the search that holds another. -/
def Holds3 (s s' : S3) : Prop := (∀ c ∈ s.1, c ∈ s'.1) ∧ (∀ t ∈ s.2.1, t ∈ s'.2.1) ∧ (∀ t ∈ s.2.2, t ∈ s'.2.2) ∧ (∀ t ∈ s'.2.1, t ∈ s.2.1 ∨ t ∈ s'.2.2)
theorem holds_refl (s : S3) : Holds3 s s := ⟨fun _ h => h, fun _ h => h, fun _ h => h, fun _ h => .inl h⟩
theorem holds_trans {s s' s'' : S3} (h : Holds3 s s') (h' : Holds3 s' s'') : Holds3 s s'' := by
  obtain ⟨a1, a2, a3, a4⟩ := h
  obtain ⟨b1, b2, b3, b4⟩ := h'
  refine ⟨fun c hc => b1 c (a1 c hc), fun t ht => b2 t (a2 t ht), fun t ht => b3 t (a3 t ht), fun t ht => ?_⟩
  rcases b4 t ht with h | h
  · rcases a4 t h with h | h
    · exact .inl h
    · exact .inr (b3 t h)
  · exact .inr h
theorem done_mono {cf tm : Int} {i : Nat} {p : Int} {b : L3} {e : Int} {s s' : S3} (h : DoneE cf tm i p b e s) (hh : Holds3 s s') : DoneE cf tm i p b e s' :=
  fun h1 x' h2 => ⟨hh.1 _ (h h1 x' h2).1, hh.2.1 _ (h h1 x' h2).2⟩
theorem mem_addC {l : List C3} {c d : C3} : d ∈ addC l c ↔ d ∈ l ∨ d = c := by
  unfold addC
  split
  · rename_i h
    constructor
    · exact .inl
    · rintro (h' | rfl)
      · exact h'
      · exact h
  · simp
theorem rnd_spec {cf tm : Int} {i : Nat} {p : Int} {b : L3} {e : Int} {s s' : S3} (h : rnd cf tm i p b e s = some s') : Holds3 s s' ∧ DoneE cf tm i p b e s' := by
  cases hs : skip3 i e b.2.2 with
  | true =>
    rw [rnd_skip hs] at h
    cases h
    exact ⟨holds_refl s, fun h1 => by rw [hs] at h1; cases h1⟩
  | false =>
    cases ho : stepOut b.1 e b.2.1 with
    | none =>
      obtain ⟨rfl, _⟩ := rnd_no hs h ho
      refine ⟨holds_refl _, fun _ x' hx => ?_⟩
      unfold hapL at hx
      rw [ho] at hx
      cases hx
    | some q =>
      obtain ⟨n, l⟩ := q
      obtain ⟨_, _, hq⟩ := rnd_yes hs h ho
      have hx0 : ∀ x', hapL cf tm b e = some x' → x' = (((n : Nat) : Int), restA cf tm l b.2.1, b.2.2 || hasN l 7) := by
        intro x' hx
        unfold hapL at hx
        rw [ho] at hx
        simp only [Option.some.injEq] at hx
        exact hx.symm
      generalize ((((n : Nat) : Int), restA cf tm l b.2.1, b.2.2 || hasN l 7) : L3) = t at *
      rcases hq with ⟨hm, rfl⟩ | ⟨hm, _, rfl⟩
      · refine ⟨⟨fun c hc => mem_addC.2 (.inl hc), fun t ht => ht, fun t ht => ht, fun t ht => .inl ht⟩, fun _ x' hx => ?_⟩
        rw [hx0 x' hx]
        exact ⟨mem_addC.2 (.inr rfl), hm⟩
      · refine ⟨⟨fun c hc => mem_addC.2 (.inl hc), fun t ht => List.mem_append_left _ ht, fun t ht => List.mem_append_left _ ht, fun t' ht => ?_⟩, fun _ x' hx => ?_⟩
        · rcases List.mem_append.1 ht with h | h
          · exact .inl h
          · exact .inr (List.mem_append_right _ h)
        · rw [hx0 x' hx]
          exact ⟨mem_addC.2 (.inr rfl), List.mem_append_right _ (by simp)⟩
theorem inn_spec {cf tm : Int} {i : Nat} {p : Int} {b : L3} : ∀ (k : Nat) {s s' : S3}, inn cf tm i p b k s = some s' → Holds3 s s' ∧ ∀ e : Int, 17 - (k : Int) ≤ e → e ≤ 16 → DoneE cf tm i p b e s' := by
  intro k
  induction k with
  | zero =>
    intro s s' h
    simp only [inn] at h
    cases h
    exact ⟨holds_refl s, fun e h1 h2 => by omega⟩
  | succ k ih =>
    intro s s' h
    simp only [inn] at h
    split at h
    · cases h
    · rename_i s1 hr
      obtain ⟨a1, a2⟩ := rnd_spec hr
      obtain ⟨b1, b2⟩ := ih h
      refine ⟨holds_trans a1 b1, fun e h1 h2 => ?_⟩
      by_cases he : e = 16 - (k : Int)
      · subst he
        exact done_mono a2 b1
      · exact b2 e (by omega) h2
theorem outs_spec {cf tm : Int} {i : Nat} {p : Int} : ∀ (f : Nat) {s : S3} {G : List C3}, outs cf tm i p f s = some G → (∀ t ∈ s.2.1, t ∈ s.2.2 ∨ ∀ e : Int, 1 ≤ e → e ≤ 16 → DoneE cf tm i p t e s) →
    ∃ Sn : List L3, (∀ t ∈ s.2.1, t ∈ Sn) ∧ ∀ t ∈ Sn, ∀ e : Int, 1 ≤ e → e ≤ 16 → DoneE cf tm i p t e (G, Sn, []) := by
  intro f
  induction f with
  | zero => intro s G h; cases h
  | succ f ih =>
    intro s G h hI
    obtain ⟨F, Sn, T⟩ := s
    simp only [outs] at h
    cases T with
    | nil =>
      simp only [Option.some.injEq] at h
      subst h
      refine ⟨Sn, fun _ h => h, fun t ht e h1 h2 => ?_⟩
      rcases hI t ht with h | h
      · cases h
      · exact h e h1 h2
    | cons b T =>
      simp only at h
      split at h
      · cases h
      · rename_i s' hs'
        obtain ⟨⟨a1, a2, a3, a4⟩, b2⟩ := inn_spec 16 hs'
        simp only at a1 a2 a3 a4
        obtain ⟨Sf, c1, c2⟩ := ih h (by
          intro t ht
          rcases a4 t ht with h | h
          · rcases hI t h with h | h
            · rcases List.mem_cons.1 h with rfl | h
              · exact .inr fun e h1 h2 => b2 e (by omega) h2
              · exact .inl (a3 t h)
            · exact .inr fun e h1 h2 h3 x' h4 => ⟨a1 _ (h e h1 h2 h3 x' h4).1, a2 _ (h e h1 h2 h3 x' h4).2⟩
          · exact .inl h)
        exact ⟨Sf, fun t ht => c1 t (a2 t ht), c2⟩

theorem row_mem {F : List C3} {p s : Int} : ∀ (k : Nat) (L : List C3), (∀ c ∈ L, c ∈ rowR F p s k L) ∧ ∀ e : Int, 17 - (k : Int) ≤ e → e ≤ 16 → ((p, s, e) : C3) ∈ F → ((p, s, e) : C3) ∈ rowR F p s k L := by
  intro k
  induction k with
  | zero => exact fun L => ⟨fun _ h => h, fun e h1 h2 => by omega⟩
  | succ k ih =>
    intro L
    have key : ∀ c ∈ L, c ∈ (if ((p, s, 16 - (k : Int)) : C3) ∈ F then L ++ [(p, s, 16 - (k : Int))] else L) := by
      intro c hc
      split
      · exact List.mem_append_left _ hc
      · exact hc
    refine ⟨fun c hc => (ih _).1 c (key c hc), fun e h1 h2 hm => ?_⟩
    by_cases he : e = 16 - (k : Int)
    · subst he
      refine (ih _).1 _ ?_
      rw [if_pos hm]
      exact List.mem_append_right _ (by simp)
    · exact (ih _).2 e (by omega) h2 hm
theorem grid_mem {F : List C3} {p : Int} : ∀ (k : Nat) (L : List C3), (∀ c ∈ L, c ∈ gridR F p k L) ∧ ∀ s e : Int, 10 - (k : Int) ≤ s → s ≤ 9 → 1 ≤ e → e ≤ 16 → ((p, s, e) : C3) ∈ F → ((p, s, e) : C3) ∈ gridR F p k L := by
  intro k
  induction k with
  | zero => exact fun L => ⟨fun _ h => h, fun s e h1 h2 => by omega⟩
  | succ k ih =>
    intro L
    refine ⟨fun c hc => (ih _).1 c ((row_mem 16 L).1 c hc), fun s e h1 h2 h3 h4 hm => ?_⟩
    by_cases hs : s = 9 - (k : Int)
    · subst hs
      exact (ih _).1 _ ((row_mem 16 L).2 e (by omega) h4 hm)
    · exact (ih _).2 s e (by omega) h2 h3 h4 hm
theorem hapL_range {cf tm : Int} {x x' : L3} {e : Int} (h : hapL cf tm x e = some x') : 0 ≤ x.1 ∧ x.1 ≤ 9 ∧ 1 ≤ e ∧ e ≤ 16 := by
  obtain ⟨n, l, h2, _⟩ := hapL_yes h
  unfold stepOut at h2
  split at h2
  · cases h2
  · rename_i p hp
    unfold cellI at hp
    split at hp
    · rename_i h3; exact h3
    · cases hp
/-- What the automata of a link can be; of each the cells that it fires are reachable. -/
def Closed3 (cf tm : Int) (i : Nat) (p : Int) (R : List C3) (Sn : List L3) : Prop := (0, 0, false) ∈ Sn ∧ ∀ t ∈ Sn, ∀ e x', skip3 i e t.2.2 = false → hapL cf tm t e = some x' → ((p, t.1, e) : C3) ∈ R ∧ x' ∈ Sn
theorem closed_of {cf tm : Int} {i : Nat} {p : Int} {F R : List C3} (h : outs cf tm i p 400 I0 = some F) (hR : ∀ s e : Int, 0 ≤ s → s ≤ 9 → 1 ≤ e → e ≤ 16 → ((p, s, e) : C3) ∈ F → ((p, s, e) : C3) ∈ R) : ∃ Sn, Closed3 cf tm i p R Sn := by
  obtain ⟨Sn, h1, h2⟩ := outs_spec 400 h (fun t ht => .inl ht)
  refine ⟨Sn, h1 _ (by simp), fun t ht e x' hs hx => ?_⟩
  obtain ⟨r1, r2, r3, r4⟩ := hapL_range hx
  obtain ⟨q1, q2⟩ := h2 t ht e r3 r4 hs x' hx
  exact ⟨hR _ _ r1 r2 r3 r4 q1, q2⟩
theorem reach_closed (cf tm : Int) (h1 : 1 ≤ cf ∧ cf ≤ 4) (h2 : 1 ≤ tm ∧ tm ≤ 4) : ∃ U0 U1 U2, Closed3 cf tm 0 49185 (reachL tm) U0 ∧ Closed3 cf tm 1 32801 (reachL tm) U1 ∧ Closed3 cf tm 2 32855 (reachL tm) U2 := by
  have hb := reachL_of cf tm h1 h2
  generalize reachL tm = R at *
  unfold reachB at hb
  split at hb
  · cases hb
  · rename_i F0 e0
    split at hb
    · cases hb
    · rename_i F1 e1
      split at hb
      · cases hb
      · rename_i F2 e2
        have hG := of_decide_eq_true hb
        subst hG
        obtain ⟨U0, c0⟩ := closed_of (R := gridR F2 32855 10 (gridR F1 32801 10 (gridR F0 49185 10 []))) e0 fun s e a b c d hm => (grid_mem 10 _).1 _ ((grid_mem 10 _).1 _ ((grid_mem 10 _).2 s e (by omega) b c d hm))
        obtain ⟨U1, c1⟩ := closed_of (R := gridR F2 32855 10 (gridR F1 32801 10 (gridR F0 49185 10 []))) e1 fun s e a b c d hm => (grid_mem 10 _).1 _ ((grid_mem 10 _).2 s e (by omega) b c d hm)
        obtain ⟨U2, c2⟩ := closed_of (R := gridR F2 32855 10 (gridR F1 32801 10 (gridR F0 49185 10 []))) e2 fun s e a b c d hm => (grid_mem 10 _).2 s e (by omega) b c d hm
        exact ⟨U0, U1, U2, c0, c1, c2⟩
theorem skip_of {i : Nat} {o s : Bool} {e : Int} (h : mayP i o s e = true) : skip3 i e s = false := by
  unfold mayP at h
  unfold skip3
  split at h
  · rename_i he
    have hi : i = 0 := of_decide_eq_true h
    subst hi
    rcases he with rfl | rfl | rfl <;> cases s <;> rfl
  · rename_i he
    split at h
    · rename_i he2
      have hs : s = true := by cases s <;> simp_all
      subst hs
      rcases he2 with rfl | rfl <;> cases i <;> rfl
    · rename_i he2
      have n1 : (e == 16) = false := by simp; omega
      have n2 : (e == 9) = false := by simp; omega
      have n3 : (e == 10) = false := by simp; omega
      rw [n1, n2, n3]
      cases s <;> simp
theorem step_in {cf tm : Int} {R : List C3} {U0 U1 U2 : List L3} (c0 : Closed3 cf tm 0 49185 R U0) (c1 : Closed3 cf tm 1 32801 R U1) (c2 : Closed3 cf tm 2 32855 R U2) {b b' : Bn} {p e : Int} {l : List C3} {t : Bool × Bool × Bool} (hb : b.1 ∈ U0 ∧ b.2.1 ∈ U1 ∧ b.2.2 ∈ U2) (h : stepL cf tm b p e = some (b', l, t)) : (b'.1 ∈ U0 ∧ b'.2.1 ∈ U1 ∧ b'.2.2 ∈ U2) ∧ ∀ c ∈ l, c ∈ R := by
  obtain ⟨x, y, z⟩ := b
  obtain ⟨hx, hy, hz⟩ := hb
  simp only at hx hy hz
  have sk : ∀ (i : Nat) (s o : Bool), skip3 i (if o then 1 else 2) s = false := by
    intro i s o
    cases o <;> cases i <;> cases s <;> rfl
  unfold stepL at h
  simp only at h
  split at h
  · split at h
    · rename_i hm
      split at h
      · cases h
      · rename_i x' e1
        obtain ⟨q1, q2⟩ := c0.2 x hx e x' (skip_of hm) e1
        split at h
        · cases h
          exact ⟨⟨q2, hy, hz⟩, by simpa using q1⟩
        · unfold follL at h
          split at h
          · cases h
            exact ⟨⟨q2, hy, hz⟩, by simpa using q1⟩
          · rename_i y' e2 e3
            obtain ⟨u1, u2⟩ := c1.2 y hy _ y' (sk 1 _ _) e2
            cases h
            exact ⟨⟨q2, u2, hz⟩, by simpa using ⟨q1, u1⟩⟩
          · rename_i z' e2 e3
            obtain ⟨v1, v2⟩ := c2.2 z hz _ z' (sk 2 _ _) e3
            cases h
            exact ⟨⟨q2, hy, v2⟩, by simpa using ⟨q1, v1⟩⟩
          · rename_i y' z' e2 e3
            obtain ⟨u1, u2⟩ := c1.2 y hy _ y' (sk 1 _ _) e2
            obtain ⟨v1, v2⟩ := c2.2 z hz _ z' (sk 2 _ _) e3
            cases h
            exact ⟨⟨q2, u2, v2⟩, by simpa using ⟨q1, u1, v1⟩⟩
    · cases h
  · split at h
    · split at h
      · rename_i hm
        split at h
        · cases h
        · rename_i y' e1
          obtain ⟨q1, q2⟩ := c1.2 y hy e y' (skip_of hm) e1
          cases h
          exact ⟨⟨hx, q2, hz⟩, by simpa using q1⟩
      · cases h
    · split at h
      · split at h
        · rename_i hm
          split at h
          · cases h
          · rename_i z' e1
            obtain ⟨q1, q2⟩ := c2.2 z hz e z' (skip_of hm) e1
            cases h
            exact ⟨⟨hx, hy, q2⟩, by simpa using q1⟩
        · cases h
      · cases h
theorem play_in {cf tm : Int} {R : List C3} {U0 U1 U2 : List L3} (c0 : Closed3 cf tm 0 49185 R U0) (c1 : Closed3 cf tm 1 32801 R U1) (c2 : Closed3 cf tm 2 32855 R U2) : ∀ (l : List S2) (b : Bn) (w : W3) (C : List C3) {b' : Bn} {w' : W3} {C' : List C3}, (b.1 ∈ U0 ∧ b.2.1 ∈ U1 ∧ b.2.2 ∈ U2) → (∀ c ∈ C, c ∈ R) → playL cf tm l b w C = some (b', w', C') → ∀ c ∈ C', c ∈ R := by
  intro l
  induction l with
  | nil =>
    intro b w C b' w' C' hb hC h
    simp only [playL, Option.some.injEq, Prod.mk.injEq] at h
    obtain ⟨rfl, rfl, rfl⟩ := h
    exact hC
  | cons x t ih =>
    intro b w C b' w' C' hb hC h
    simp only [playL] at h
    split at h
    · cases h
    · rename_i b1 l1 t0 t1 t2 hs
      obtain ⟨q1, q2⟩ := step_in c0 c1 c2 hb hs
      refine ih _ _ _ q1 (fun c hc => ?_) h
      rcases List.mem_append.1 hc with h | h
      · exact hC c h
      · exact q2 c h
theorem fired_reach (cf tm : Int) (h1 : 1 ≤ cf ∧ cf ≤ 4) (h2 : 1 ≤ tm ∧ tm ≤ 4) (l : List S2) {b : Bn} {w : W3} {A : List C3} (h : playL cf tm l zeroB w0T [] = some (b, w, A)) : ∀ c ∈ A, c ∈ reachL tm := by
  obtain ⟨U0, U1, U2, c0, c1, c2⟩ := reach_closed cf tm h1 h2
  exact play_in c0 c1 c2 l zeroB w0T [] ⟨c0.1, c1.1, c2.1⟩ (by simp) h

def ltC (a b : C3) : Bool := decide (¬ a.1 = b.1) || decide (a.2.1 < b.2.1) || (decide (a.2.1 = b.2.1) && decide (a.2.2 < b.2.2))
def sortB : List C3 → Bool
  | a :: b :: t => ltC a b && sortB (b :: t)
  | _ => true
theorem sort1 : sortB reach1 = true := by kernel_rfl
theorem sort2 : sortB reach2 = true := by kernel_rfl
theorem sort_at : ∀ {l : List C3}, sortB l = true → ∀ (k : Nat) (h : k + 1 < l.length), ltC l[k] l[k + 1] = true := by
  intro l
  induction l with
  | nil => intro _ k h; simp at h
  | cons a t ih =>
    intro hs k h
    cases t with
    | nil => simp at h
    | cons b t =>
      simp only [sortB, Bool.and_eq_true] at hs
      cases k with
      | zero => exact hs.1
      | succ k => exact ih hs.2 k (by simpa using h)
theorem reach_sorted (tm : Int) : sortB (reachL tm) = true := by
  unfold reachL
  split
  · exact sort1
  · exact sort2

set_option maxHeartbeats 64000000 in
theorem cellsReach_runs (x y : UInt8) (q : List UInt8) (hq0 : q.length ≤ 140737488351232) : Runs Try.prog env 3 [.pure false (.int .u8 x.toNat), .pure false (.int .u8 y.toNat), .pure false (.sl (bytesOf q))] [] (.pure true (.bool true)) [] := by
  have hcf : 1 ≤ 1 + ((x.toNat % 4 : Nat) : Int) ∧ 1 + ((x.toNat % 4 : Nat) : Int) ≤ 4 := by omega
  have htm : 1 ≤ 1 + ((y.toNat % 4 : Nat) : Int) ∧ 1 + ((y.toNat % 4 : Nat) : Int) ≤ 4 := by omega
  have cc := fun m m' => conf_any x y m m'
  generalize 1 + ((x.toNat % 4 : Nat) : Int) = cf at *
  generalize 1 + ((y.toNat % 4 : Nat) : Int) = tm at *
  have h1 : 1 ≤ cf ∧ cf ≤ 255 := by omega
  have h2 : 1 ≤ tm ∧ tm ≤ 255 := by omega
  have hql := bytesOf_length q
  rcases Classical.em (q.length > 40) with hbig | hq
  · refine Runs.of Try.func3 rfl (by simp [Try.ntmps3]) ?_
    simp (maxSteps := 400000) -dsimp -implicitDefEqProofs (disch := first | exact TrueB.mk rfl | omega) only [go_sem, Nat.reduceMul, Nat.reduceAdd, Nat.reduceLT, Nat.reduceLeDiff, Nat.reducePow, Nat.reduceEqDiff, ↓reduceIte, reduceCtorEq, Int.reduceToNat, Try.ntmps3]
    first | refine wpAct_call0 (awake_ok) rfl rfl rfl rfl rfl rfl rfl rfl ?_ | done
    simp (maxSteps := 400000) -dsimp -implicitDefEqProofs (disch := first | exact TrueB.mk rfl | omega) only [go_sem, Nat.reduceMul, Nat.reduceAdd, Nat.reduceLT, Nat.reduceLeDiff, Nat.reducePow, Nat.reduceEqDiff, ↓reduceIte, reduceCtorEq, Int.reduceToNat, hql]
    first | refine wpAct_call0 (awake_ok) rfl rfl rfl rfl rfl rfl rfl rfl ?_ | done
    simp (maxSteps := 400000) -dsimp -implicitDefEqProofs (disch := first | exact TrueB.mk rfl | omega) only [go_sem, Nat.reduceMul, Nat.reduceAdd, Nat.reduceLT, Nat.reduceLeDiff, Nat.reducePow, Nat.reduceEqDiff, ↓reduceIte, reduceCtorEq, Int.reduceToNat]
    first | exact end_bool rfl rfl | done
  · have ld := fun m m' => led_any h1 h2 q (by omega) m m'
    obtain ⟨lp, lq⟩ := ledF_ok cf tm q [] rfl
    generalize ledF cf tm q [] = L at *
    rw [List.length_nil, Nat.zero_add] at lq
    have hll := stepsV_length L
    obtain ⟨⟨b, w, A⟩, hR⟩ := Option.isSome_iff_exists.1 lp
    have pa := fun m m' => Play_any h1 h2 L (by omega) m m'
    have u1 := playL_ok h1 h2 L zeroB w0T [] okZ hR
    have fr := fired_reach cf tm hcf htm L hR
    rw [List.length_nil] at u1
    rw [hR] at pa
    simp only [PlayV, playS] at pa
    have hr := fun m => reach_ok cf tm hcf htm m
    have hl := reachL_length tm
    have so := fun k h => sort_at (reach_sorted tm) k h
    have hs := fun x => has_any (reachL tm) x (by omega)
    generalize reachL tm = R at *
    have hRl := cellsV_length R
    have hAl := cellsV_length A
    unfold confV at *
    refine Runs.of Try.func3 rfl (by simp [Try.ntmps3]) ?_
    simp (maxSteps := 400000) -dsimp -implicitDefEqProofs (disch := first | exact TrueB.mk rfl | omega) only [go_sem, Nat.reduceMul, Nat.reduceAdd, Nat.reduceLT, Nat.reduceLeDiff, Nat.reducePow, Nat.reduceEqDiff, ↓reduceIte, reduceCtorEq, Int.reduceToNat, Try.ntmps3]
    first | refine wpAct_call0 (awake_ok) rfl rfl rfl rfl rfl rfl rfl rfl ?_ | done
    simp (maxSteps := 400000) -dsimp -implicitDefEqProofs (disch := first | exact TrueB.mk rfl | omega) only [go_sem, Nat.reduceMul, Nat.reduceAdd, Nat.reduceLT, Nat.reduceLeDiff, Nat.reducePow, Nat.reduceEqDiff, ↓reduceIte, reduceCtorEq, Int.reduceToNat, hql]
    first | refine wpAct_call0 (cc _ _) rfl rfl rfl rfl rfl rfl rfl rfl ?_ | done
    simp (maxSteps := 400000) -dsimp -implicitDefEqProofs (disch := first | exact TrueB.mk rfl | omega) only [go_sem, Nat.reduceMul, Nat.reduceAdd, Nat.reduceLT, Nat.reduceLeDiff, Nat.reducePow, Nat.reduceEqDiff, ↓reduceIte, reduceCtorEq, Int.reduceToNat]
    first | refine wpAct_callG (hr _) rfl rfl rfl rfl rfl rfl rfl rfl rfl ?_ | done
    simp (maxSteps := 400000) -dsimp -implicitDefEqProofs (disch := first | exact TrueB.mk rfl | omega) only [go_sem, Nat.reduceMul, Nat.reduceAdd, Nat.reduceLT, Nat.reduceLeDiff, Nat.reducePow, Nat.reduceEqDiff, ↓reduceIte, reduceCtorEq, Int.reduceToNat]
    first | refine wpAct_callG (ld _ _) rfl rfl rfl rfl rfl rfl rfl rfl rfl ?_ | done
    simp (maxSteps := 400000) -dsimp -implicitDefEqProofs (disch := first | exact TrueB.mk rfl | omega) only [go_sem, Nat.reduceMul, Nat.reduceAdd, Nat.reduceLT, Nat.reduceLeDiff, Nat.reducePow, Nat.reduceEqDiff, ↓reduceIte, reduceCtorEq, Int.reduceToNat]
    first | refine wpAct_callG (pa _ _) rfl rfl rfl rfl (argV_p rfl (argV_r rfl hll.symm argV_nil)) rfl rfl rfl rfl ?_ | done
    simp (maxSteps := 400000) -dsimp -implicitDefEqProofs (disch := first | exact TrueB.mk rfl | omega) only [go_sem, Nat.reduceMul, Nat.reduceAdd, Nat.reduceLT, Nat.reduceLeDiff, Nat.reducePow, Nat.reduceEqDiff, ↓reduceIte, reduceCtorEq, Int.reduceToNat, hll, hAl]
    refine wpLoop_ind (α := Nat)
      (fun i => ⟨[(8, .row 1696 R.length), (10, .row 1697 A.length), (12, .pure true (.int .i64 (i : Nat)))], [(1696, .row true 3 0 (cellsV R)), (1697, .row true (zL A) 0 (cellsV A))]⟩)
      (fun i => i ≤ A.length) (fun i => A.length - i) ?_ 0 (by omega) rfl
    intro i hi
    rcases Classical.em (i < A.length) with hlt | hge
    · have g1 := cells_at hlt
      have hz : zL A = 3 := by cases A with | nil => simp at hlt | cons c t => rfl
      have hm := fr A[i] (List.getElem_mem hlt)
      have hd := hs A[i]
      rw [decide_eq_true hm] at hd
      generalize A[i] = c at *
      rw [hz]
      simp (maxSteps := 400000) -dsimp -implicitDefEqProofs (disch := first | exact TrueB.mk rfl | omega) only [go_sem, Nat.reduceMul, Nat.reduceAdd, Nat.reduceLT, Nat.reduceLeDiff, Nat.reducePow, Nat.reduceEqDiff, ↓reduceIte, reduceCtorEq, Int.reduceToNat, hAl, g1]
      first | refine wpAct_callF (hd _ _) rfl rfl rfl rfl (argV_r rfl hRl.symm (argV_p rfl argV_nil)) rfl rfl rfl rfl ?_ | done
      simp (maxSteps := 400000) -dsimp -implicitDefEqProofs (disch := first | exact TrueB.mk rfl | omega) only [go_sem, Nat.reduceMul, Nat.reduceAdd, Nat.reduceLT, Nat.reduceLeDiff, Nat.reducePow, Nat.reduceEqDiff, ↓reduceIte, reduceCtorEq, Int.reduceToNat]
      refine again_mk ⟨i + 1, by omega, by omega, ?_⟩
      rfl
    · simp (maxSteps := 400000) -dsimp -implicitDefEqProofs (disch := first | exact TrueB.mk rfl | omega) only [go_sem, Nat.reduceMul, Nat.reduceAdd, Nat.reduceLT, Nat.reduceLeDiff, Nat.reducePow, Nat.reduceEqDiff, ↓reduceIte, reduceCtorEq, Int.reduceToNat, hAl]
      refine wpLoop_ind (α := Nat)
        (fun k => ⟨[(8, .row 1696 R.length), (13, .pure true (.int .i64 ((k + 1 : Nat) : Int)))], [(1696, .row true 3 0 (cellsV R))]⟩)
        (fun k => k + 1 ≤ R.length) (fun k => R.length - k) ?_ 0 (by omega) rfl
      intro k hk
      rcases Classical.em (k + 1 < R.length) with hlt | hge
      · have g1 := cells_at (l := R) (i := k) (by omega)
        have g2 := cells_at hlt
        have hc := so k hlt
        have e1 : ((k + 1 : Nat) : Int) - 1 = ((k : Nat) : Int) := by omega
        have e2 : ((k + 1 : Nat) : Int) + 1 = ((k + 1 + 1 : Nat) : Int) := by omega
        generalize R[k] = a at *
        generalize R[k + 1] = b' at *
        obtain ⟨p, s, e⟩ := a
        obtain ⟨p', s', e'⟩ := b'
        simp only [ltC, Bool.or_eq_true, Bool.and_eq_true, decide_eq_true_eq] at hc
        simp only at g1 g2
        rcases Classical.em (p = p') with hp | hp
        · subst hp
          rcases Classical.em (s = s') with hs' | hs'
          · subst hs'
            have hlt2 : e < e' := by
              rcases hc with (hc | hc) | ⟨_, hc⟩
              · exact absurd rfl hc
              · omega
              · exact hc
            have n1 : (e == e') = false := by simp; omega
            have n2 : ¬ e ≥ e' := by omega
            have n3 : ¬ s > s := by omega
            have n4 : ¬ e' ≤ e := by omega
            have n5 : ¬ s < s := by omega
            simp (maxSteps := 400000) -dsimp -implicitDefEqProofs (disch := first | exact TrueB.mk rfl | omega) only [go_sem, Nat.reduceMul, Nat.reduceAdd, Nat.reduceLT, Nat.reduceLeDiff, Nat.reducePow, Nat.reduceEqDiff, ↓reduceIte, reduceCtorEq, Int.reduceToNat, hRl, e1, g1, g2, n1, n2, n3, n4, n5, beq_same]
            refine again_mk ⟨k + 1, by omega, by omega, ?_⟩
            first | rfl | (simp only [e2]; rfl)
          · have hlt2 : s < s' := by
              rcases hc with (hc | hc) | ⟨hc, _⟩
              · exact absurd rfl hc
              · exact hc
              · exact absurd hc hs'
            have n1 : (s == s') = false := by simpa using hs'
            have n3 : ¬ s > s' := by omega
            have n5 : ¬ s' < s := by omega
            simp (maxSteps := 400000) -dsimp -implicitDefEqProofs (disch := first | exact TrueB.mk rfl | omega) only [go_sem, Nat.reduceMul, Nat.reduceAdd, Nat.reduceLT, Nat.reduceLeDiff, Nat.reducePow, Nat.reduceEqDiff, ↓reduceIte, reduceCtorEq, Int.reduceToNat, hRl, e1, g1, g2, n1, n3, n5, hs', beq_same]
            refine again_mk ⟨k + 1, by omega, by omega, ?_⟩
            first | rfl | (simp only [e2]; rfl)
        · have n1 : (p == p') = false := by simpa using hp
          simp (maxSteps := 400000) -dsimp -implicitDefEqProofs (disch := first | exact TrueB.mk rfl | omega) only [go_sem, Nat.reduceMul, Nat.reduceAdd, Nat.reduceLT, Nat.reduceLeDiff, Nat.reducePow, Nat.reduceEqDiff, ↓reduceIte, reduceCtorEq, Int.reduceToNat, hRl, e1, g1, g2, n1, hp]
          refine again_mk ⟨k + 1, by omega, by omega, ?_⟩
          first | rfl | (simp only [e2]; rfl)
      · simp (maxSteps := 400000) -dsimp -implicitDefEqProofs (disch := first | exact TrueB.mk rfl | omega) only [go_sem, Nat.reduceMul, Nat.reduceAdd, Nat.reduceLT, Nat.reduceLeDiff, Nat.reducePow, Nat.reduceEqDiff, ↓reduceIte, reduceCtorEq, Int.reduceToNat, hRl]
        first | exact end_bool rfl rfl | done

end Go.Proofs.Yticdhmcbooabaaa
