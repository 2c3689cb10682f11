/- YticdhmcbooabaaaZA: scripts of steps that can be; what an argument is; CellsParts over the evaluator. No claim. -/
import Derived.Test.YticdhmcbooabaaaE
import Derived.Test.YticdhmcbooabaaaWB
import Derived.Test.YticdhmcbooabaaaA
set_option linter.unusedVariables false
set_option linter.unusedSimpArgs false
set_option maxRecDepth 1000000
namespace Go.Proofs.Yticdhmcbooabaaa
open Go Go.Proofs.Yticdhmcbooabaaa.V

theorem wfc_i64 {n : Nat} {cs : List PV} (h : WfC Try.prog (n + 1) 3 cs) : ∃ i : Int, cs = [.int .i64 i] ∧ -9223372036854775808 ≤ i ∧ i < 9223372036854775808 := by
  simp only [WfC, Try.underlying3] at h
  obtain ⟨i, h2, h3⟩ := h
  have hb : -9223372036854775808 ≤ i ∧ i ≤ 9223372036854775807 := by
    simpa [Lit.wf, IntKind.min, IntKind.max, IntKind.bits, IntKind.signed] using h3
  exact ⟨i, h2, by omega, by omega⟩
theorem wfc_u8 {n : Nat} {cs : List PV} (h : WfC Try.prog (n + 1) 5 cs) : ∃ c : UInt8, cs = [.int .u8 c.toNat] := by
  simp only [WfC, Try.underlying5] at h
  obtain ⟨i, h2, h3⟩ := h
  have hb : 0 ≤ i ∧ i ≤ 255 := by
    simpa [Lit.wf, IntKind.min, IntKind.max, IntKind.bits, IntKind.signed] using h3
  refine ⟨UInt8.ofNat i.toNat, ?_⟩
  rw [h2, UInt8.toNat_ofNat_of_lt' (by show _ < 256; omega)]
  congr 2
  omega
theorem one_cell {x y : PV} (ha : x.isAgg = false) (h : x.cells = [y]) : x = y := by
  cases x with
  | agg cs => cases ha
  | _ =>
    simp only [PV.cells, List.cons.injEq, and_true] at h
    exact h
theorem wfv_i64 {n : Nat} {x : PV} (h : WfV Try.prog (n + 1) 3 x) : ∃ i : Int, x = .int .i64 i ∧ -9223372036854775808 ≤ i ∧ i < 9223372036854775808 := by
  obtain ⟨h1, h2⟩ := h
  obtain ⟨i, e, hi⟩ := wfc_i64 h2
  exact ⟨i, one_cell (by rw [h1, agg3]) e, hi⟩
theorem wfv_u8 {n : Nat} {x : PV} (h : WfV Try.prog (n + 1) 5 x) : ∃ c : UInt8, x = .int .u8 c.toNat := by
  obtain ⟨h1, h2⟩ := h
  obtain ⟨i, e⟩ := wfc_u8 h2
  exact ⟨i, one_cell (by rw [h1, agg5]) e⟩
theorem agg_cells {x : PV} {cs : List PV} (ha : x.isAgg = true) (h : x.cells = cs) : x = .agg cs := by
  cases x with
  | agg c => rw [← h]; rfl
  | _ => cases ha
theorem bytes_of {xs : List PV} (h : ∀ x ∈ xs, ∃ c : UInt8, x = .int .u8 c.toNat) : ∃ b, xs = bytesOf b := by
  induction xs with
  | nil => exact ⟨[], rfl⟩
  | cons x r ih =>
    obtain ⟨c, rfl⟩ := h x (List.mem_cons_self ..)
    obtain ⟨b, rfl⟩ := ih fun y hy => h y (List.mem_cons_of_mem _ hy)
    exact ⟨c :: b, rfl⟩
theorem wfc_picks {n : Nat} {cs : List PV} (h : WfC Try.prog (n + 1 + 1) 22 cs) : ∃ b, cs = [.sl (bytesOf b)] ∧ b.length ≤ 140737488351232 := by
  unfold WfC at h
  simp only [Try.underlying22] at h
  obtain ⟨xs, h2, h3, h4⟩ := h
  obtain ⟨b, rfl⟩ := bytes_of fun y hy => wfv_u8 (n := n) ⟨(h4 y hy).1, (h4 y hy).2⟩
  rw [bytes5, bytesOf_length] at h3
  exact ⟨b, h2, by omega⟩
theorem wfv_picks {n : Nat} {x : PV} (h : WfV Try.prog (n + 1 + 1) 22 x) : ∃ b, x = .sl (bytesOf b) ∧ b.length ≤ 140737488351232 := by
  obtain ⟨h1, h2⟩ := h
  obtain ⟨b, e, hb⟩ := wfc_picks h2
  exact ⟨b, one_cell (by rw [h1, agg22]) e, hb⟩
theorem wfv_step {n : Nat} {x : PV} (h : WfV Try.prog (n + 1 + 1) 43 x) : ∃ p e : Int, x = .agg [.int .i64 p, .int .i64 e] := by
  obtain ⟨h1, h2⟩ := h
  unfold WfC at h2
  rw [Try.underlying43] at h2
  have h3 : seqW (WfC Try.prog (n + 1)) [3, 3] x.cells := h2
  obtain ⟨a, b, e1, h4, c, d, e2, h5, e3⟩ := h3
  obtain ⟨i, rfl, hi⟩ := wfc_i64 h4
  obtain ⟨j, rfl, hj⟩ := wfc_i64 h5
  have e3' : d = [] := e3
  subst e3' e2
  exact ⟨i, j, agg_cells (by rw [h1, agg43]) e1⟩

theorem wpAct_callP {P : Program} {E : Env} {base : Nat} {o : Oper} {ev : Operand → SV} {look : Nat → Option Ob} {K : Eff → Prop} {c : Call} {f : Operand} {g : FuncId} {caps av : List SV} {δ : Store} {res : SV}
    (hr : Runs P E g av [] res []) (ho : o.op = .call c) (hc : c.callee = .value f) (hf : ev f = .clo g caps) (hi : E.intr g = none) (ha : argV base (E.byRef g) look (c.args.toList.map ev ++ caps) = some (av, δ)) (hn : refsL av = []) (hs : newV res = false) (hs' : refs res = [])
    (hk : freshKeys look (base + 16 * (o.dst.getD 0)) 16 = true)
    (h : K { res := res, wr := δ, rd := some ((List.range 16).map (base + 16 * (o.dst.getD 0) + ·) ++ refsL (c.args.toList.map ev ++ caps)) }) : wpAct P E base o ev look K := by
  refine wpAct_call hr ho hc hf hi ha hn (by simp [hk]) ?_
  rw [ren_id _ _ hs']
  simpa [backAll, hs] using h
theorem allScalar_st (l : List S2) : allScalar (stepsV l) = true := by
  induction l with
  | nil => rfl
  | cons c t ih => exact ih
theorem end_rowS {P : Program} {sl : Slots} {S : Store} {t k n z lim : Nat} {xs : List PV} (hg : get sl t = some (.row k n)) (hk : get S k = some (.row true z lim xs)) (hn : n = xs.length) (hs : allScalar xs = true) : outV P 0 [.tmp t] sl S = some (.row 0 n, [(0, .row true z 0 xs)]) := by
  have := end_rowT (P := P) hg hk hn
  rwa [hs] at this
def zS : List S2 → Nat
  | [] => 0
  | _ :: _ => 2
abbrev w0T : W3 := (true, true, true)
def canAfter (cf tm : Int) (l : List S2) : List S2 := match playL cf tm l zeroB w0T [] with
  | none => []
  | some (b, _) => canL cf tm b
def ledF (cf tm : Int) : List UInt8 → List S2 → List S2
  | [], l => l
  | q :: t, l => match canAfter cf tm l with
    | [] => l
    | y :: k => ledF cf tm t (l ++ [(y :: k).getD (q.toNat % (k.length + 1)) y])
theorem playL_append (cf tm : Int) : ∀ (l1 l2 : List S2) (b : Bn) (w : W3) (L : List C3), playL cf tm (l1 ++ l2) b w L = match playL cf tm l1 b w L with
    | none => none
    | some (b', w', L') => playL cf tm l2 b' w' L' := by
  intro l1
  induction l1 with
  | nil => intro l2 b w L; rfl
  | cons x t ih =>
    intro l2 b w L
    simp only [List.cons_append, playL]
    split
    · rfl
    · exact ih _ _ _ _
theorem play_snoc {cf tm : Int} {l : List S2} {b : Bn} {w : W3} {C : List C3} (h : playL cf tm l zeroB w0T [] = some (b, w, C)) {x : S2} (hx : canB cf tm b x = true) : (playL cf tm (l ++ [x]) zeroB w0T []).isSome = true := by
  rw [playL_append, h]
  simp only [playL]
  unfold canB at hx
  cases hs : stepL cf tm b x.1 x.2 with
  | none => rw [hs] at hx; cases hx
  | some q => obtain ⟨b', l', t0, t1, t2⟩ := q; rfl
theorem getD_mem {k : List S2} {i : Nat} (h : i < k.length) (y : S2) : k.getD i y = k[i] := by simp [List.getD, h]

set_option maxHeartbeats 32000000 in
theorem led_any {cf tm : Int} (h1 : 1 ≤ cf ∧ cf ≤ 255) (h2 : 1 ≤ tm ∧ tm ≤ 255) (q : List UInt8) (hq : q.length ≤ 10000) (m m' : Bool) :
    Runs Try.prog env 9 [.pure m (confV cf tm 1), .pure m' (.sl (bytesOf q))] [] (.row 0 (ledF cf tm q []).length) [(0, .row true (zS (ledF cf tm q [])) 0 (stepsV (ledF cf tm q [])))] := by
  generalize hG : ledF cf tm q [] = G
  have hql := bytesOf_length q
  have ca := fun l hl m m' => Can_any h1 h2 l hl m m'
  unfold confV at *
  refine Runs.of Try.func9 rfl (by simp [Try.ntmps9]) ?_
  simp (maxSteps := 400000) -dsimp -implicitDefEqProofs (disch := first | exact TrueB.mk rfl | omega) only [go_sem, Nat.reduceMul, Nat.reduceAdd, Nat.reduceLT, Nat.reduceLeDiff, Nat.reducePow, Nat.reduceEqDiff, ↓reduceIte, reduceCtorEq, Int.reduceToNat, Try.ntmps9]
  refine wpLoop_ind (α := Nat × List S2 × Nat)
    (fun x => ⟨[(1, .pure m' (.sl (bytesOf q))), (2, .ptr 576 0), (5, .row 577 x.2.1.length), (6, .pure true (.int .i64 (x.1 : Nat)))], [(576, .box [.pure m (.int .i64 cf), .pure m (.int .i64 tm), .pure m (.int .i64 1), .pure m (.int .i64 0), .pure m (.str []), .pure m (.str []), .pure m (.int .i64 0), .pure m (.int .u32 0), .pure m (.bool false)]), (577, .row true (zS x.2.1) x.2.2 (stepsV x.2.1))]⟩)
    (fun x => x.1 ≤ q.length ∧ x.2.1.length ≤ x.1 ∧ (playL cf tm x.2.1 zeroB w0T []).isSome = true ∧ ledF cf tm (q.drop x.1) x.2.1 = G) (fun x => q.length - x.1) ?_ (0, [], 0) ⟨by omega, by simp, rfl, hG⟩ rfl
  clear hG
  rintro ⟨i, L, lim⟩ ⟨hi, hL, hp, hG⟩
  simp only at hi hL hp hG ⊢
  have hll := stepsV_length L
  rcases Classical.em (i < q.length) with hlt | hge
  · obtain ⟨⟨b, w, C⟩, hR⟩ := Option.isSome_iff_exists.1 hp
    have cc := fun m m' => ca L (by omega) m m'
    have hR' : playL cf tm L zeroB (true, true, true) [] = some (b, w, C) := hR
    rw [hR'] at cc
    simp only [CanV, CanS] at cc
    have hca : canAfter cf tm L = canL cf tm b := by unfold canAfter; rw [hR]
    rw [List.drop_eq_getElem_cons hlt] at hG
    simp only [ledF, hca] at hG
    have hmem : ∀ x ∈ canL cf tm b, canB cf tm b x = true := fun x hx => (List.mem_filter.1 hx).2
    generalize canL cf tm b = k at *
    have hkl := stepsV_length k
    have nw : newV (.pure false (.sl (stepsV k))) = false := rfl
    cases k with
    | nil =>
      simp only at hG
      subst hG
      simp (maxSteps := 400000) -dsimp -implicitDefEqProofs (disch := first | exact TrueB.mk rfl | omega) only [go_sem, Nat.reduceMul, Nat.reduceAdd, Nat.reduceLT, Nat.reduceLeDiff, Nat.reducePow, Nat.reduceEqDiff, ↓reduceIte, reduceCtorEq, Int.reduceToNat]
      refine wpAct_callP (cc _ _) rfl rfl rfl rfl (argV_p rfl (argV_r rfl hll.symm argV_nil)) rfl nw rfl rfl ?_
      simp (maxSteps := 400000) -dsimp -implicitDefEqProofs (disch := first | exact TrueB.mk rfl | omega) only [go_sem, Nat.reduceMul, Nat.reduceAdd, Nat.reduceLT, Nat.reduceLeDiff, Nat.reducePow, Nat.reduceEqDiff, ↓reduceIte, reduceCtorEq, Int.reduceToNat, hkl]
      first | exact end_rowS rfl rfl hll.symm (allScalar_st L) | done
    | cons y k =>
      simp only at hG
      have hjl : q[i].toNat % (k.length + 1) < (y :: k).length := by rw [List.length_cons]; exact Nat.mod_lt _ (by omega)
      have g2 := steps_at hjl
      rw [getD_mem hjl] at hG
      have hpx := play_snoc hR (hmem _ (List.getElem_mem hjl))
      have g1 : (bytesOf q)[i]? = some (.int .u8 (q[i].toNat : Nat)) := by rw [bytesOf_get, List.getElem?_eq_getElem hlt]; rfl
      generalize (y :: k)[q[i].toNat % (k.length + 1)] = st at *
      have hz : zS L = 2 ∨ zS L = 0 := by cases L <;> simp [zS]
      have hz2 : zS (L ++ [st]) = 2 := by cases L <;> rfl
      have hu := q[i].toNat_lt
      generalize q[i].toNat = u at *
      have hm0 : ((u : Nat) : Int).tmod ((k.length + 1 : Nat) : Int) = ((u % (k.length + 1) : Nat) : Int) := tmod_nat _ _
      have hw1 : IntKind.i64.wrap ((u : Nat) : Int) = ((u : Nat) : Int) := by rw [wrap_i64 (by omega) (by omega)]
      generalize zS L = zz at hz ⊢
      rw [List.length_cons] at hkl
      generalize stepsV (y :: k) = kk' at *
      simp (maxSteps := 400000) -dsimp -implicitDefEqProofs (disch := first | exact TrueB.mk rfl | omega) only [go_sem, Nat.reduceMul, Nat.reduceAdd, Nat.reduceLT, Nat.reduceLeDiff, Nat.reducePow, Nat.reduceEqDiff, ↓reduceIte, reduceCtorEq, Int.reduceToNat, hql]
      refine wpAct_callP (cc _ _) rfl rfl rfl rfl (argV_p rfl (argV_r rfl hll.symm argV_nil)) rfl nw rfl rfl ?_
      have sc2 : ∀ a b : Int, PV.scalar.go [.int .i64 a, .int .i64 b] = true := fun _ _ => rfl
      simp (maxSteps := 400000) -dsimp -implicitDefEqProofs (disch := first | exact TrueB.mk rfl | omega) only [go_sem, Nat.reduceMul, Nat.reduceAdd, Nat.reduceLT, Nat.reduceLeDiff, Nat.reducePow, Nat.reduceEqDiff, ↓reduceIte, reduceCtorEq, Int.reduceToNat, hkl, g1, g2, hm0, hw1, hz, hll, sc2, Bool.or_true]
      refine again_mk ⟨(i + 1, L ++ [st], L.length), ⟨Nat.succ_le_of_lt hlt, by simp only [List.length_append, List.length_cons, List.length_nil]; omega, hpx, hG⟩, by simp only; omega, ?_⟩
      simp only [hz2, stepsV, List.map_append, List.map_cons, List.map_nil, List.length_append, List.length_cons, List.length_nil]
      rfl
  · obtain rfl : i = q.length := by omega
    rw [List.drop_length] at hG
    simp only [ledF] at hG
    subst hG
    simp (maxSteps := 400000) -dsimp -implicitDefEqProofs (disch := first | exact TrueB.mk rfl | omega) only [go_sem, Nat.reduceMul, Nat.reduceAdd, Nat.reduceLT, Nat.reduceLeDiff, Nat.reducePow, Nat.reduceEqDiff, ↓reduceIte, reduceCtorEq, Int.reduceToNat, hql]
    first | exact end_rowS rfl rfl hll.symm (allScalar_st L) | done

theorem ledF_ok (cf tm : Int) : ∀ (q : List UInt8) (l : List S2), (playL cf tm l zeroB w0T []).isSome = true → (playL cf tm (ledF cf tm q l) zeroB w0T []).isSome = true ∧ (ledF cf tm q l).length ≤ l.length + q.length := by
  intro q
  induction q with
  | nil => exact fun l h => ⟨h, by simp [ledF]⟩
  | cons u t ih =>
    intro l h
    simp only [ledF]
    obtain ⟨⟨b, w, C⟩, hR⟩ := Option.isSome_iff_exists.1 h
    have hca : canAfter cf tm l = canL cf tm b := by unfold canAfter; rw [hR]
    have hmem : ∀ x ∈ canL cf tm b, canB cf tm b x = true := fun x hx => (List.mem_filter.1 hx).2
    rw [hca]
    generalize canL cf tm b = k at *
    cases k with
    | nil => exact ⟨h, by simp⟩
    | cons y k =>
      simp only
      have hjl : u.toNat % (k.length + 1) < (y :: k).length := by rw [List.length_cons]; exact Nat.mod_lt _ (by omega)
      rw [getD_mem hjl]
      obtain ⟨q1, q2⟩ := ih _ (play_snoc hR (hmem _ (List.getElem_mem hjl)))
      refine ⟨q1, ?_⟩
      rw [List.length_append, List.length_cons, List.length_nil] at q2
      rw [List.length_cons]
      omega
theorem playL_pre (cf tm : Int) : ∀ (l : List S2) (b : Bn) (w : W3) (C : List C3) {b' : Bn} {w' : W3} {C' : List C3}, playL cf tm l b w C = some (b', w', C') → ∃ D, C' = C ++ D := by
  intro l
  induction l with
  | nil =>
    intro b w C b' w' C' h
    simp only [playL, Option.some.injEq, Prod.mk.injEq] at h
    obtain ⟨rfl, rfl, rfl⟩ := h
    exact ⟨[], by simp⟩
  | cons x t ih =>
    intro b w C b' w' C' h
    simp only [playL] at h
    split at h
    · cases h
    · rename_i b1 l1 t0 t1 t2 hs
      obtain ⟨D, hD⟩ := ih _ _ _ h
      exact ⟨l1 ++ D, by rw [hD, List.append_assoc]⟩
theorem hapL_in {cf tm : Int} {x x' : L3} {e : Int} (h : hapL cf tm x e = some x') : 1 ≤ e ∧ e ≤ 16 := by
  obtain ⟨n, l, h2, _⟩ := hapL_yes h
  unfold stepOut at h2
  split at h2
  · cases h2
  · rename_i p hp
    unfold cellI at hp
    split at hp
    · rename_i h3; exact ⟨h3.2.2.1, h3.2.2.2⟩
    · cases hp
theorem stepL_in {cf tm : Int} {b : Bn} {p e : Int} {r : Bn × List C3 × Bool × Bool × Bool} (h : stepL cf tm b p e = some r) : (p = 49185 ∨ p = 32801 ∨ p = 32855) ∧ 1 ≤ e ∧ e ≤ 16 := by
  unfold stepL at h
  split at h
  · rename_i hp
    split at h
    · split at h
      · cases h
      · rename_i x' e1
        exact ⟨.inl hp, hapL_in e1⟩
    · cases h
  · split at h
    · rename_i hp
      split at h
      · split at h
        · cases h
        · rename_i x' e1
          exact ⟨.inr (.inl hp), hapL_in e1⟩
      · cases h
    · split at h
      · rename_i hp
        split at h
        · split at h
          · cases h
          · rename_i x' e1
            exact ⟨.inr (.inr hp), hapL_in e1⟩
        · cases h
      · cases h
theorem canB_mem {cf tm : Int} {b : Bn} {x : S2} : canB cf tm b x = decide (x ∈ canL cf tm b) := by
  cases h : canB cf tm b x with
  | true =>
    symm
    apply decide_eq_true
    refine List.mem_filter.2 ⟨?_, h⟩
    unfold canB at h
    obtain ⟨r, hr⟩ := Option.isSome_iff_exists.1 h
    obtain ⟨hp, h1, h2⟩ := stepL_in hr
    obtain ⟨p, e⟩ := x
    simp only at hp h1 h2
    unfold all48
    rw [List.mem_flatMap]
    refine ⟨p, by simpa using hp, ?_⟩
    rw [List.mem_map]
    refine ⟨(e - 1).toNat, List.mem_range.2 (by omega), ?_⟩
    have : (((e - 1).toNat : Nat) : Int) + 1 = e := by omega
    rw [this]
  | false =>
    symm
    apply decide_eq_false
    intro hm
    have := (List.mem_filter.1 hm).2
    rw [h] at this
    cases this

set_option maxHeartbeats 16000000 in
theorem sameC_any (l k : List C3) (hl : l.length ≤ 100000) (hk : k.length ≤ 100000) (m m' : Bool) : Runs Try.prog env 13 [.pure m (.sl (cellsV l)), .pure m' (.sl (cellsV k))] [] (.pure true (.bool (decide (l = k)))) [] := by
  have hll := cellsV_length l
  have hkl := cellsV_length k
  refine Runs.of Try.func13 rfl (by simp [Try.ntmps13]) ?_
  rcases Classical.em (l.length = k.length) with hlen | hlen
  · have hI : ((l.length : Nat) : Int) = ((k.length : Nat) : Int) := by omega
    simp (maxSteps := 400000) -dsimp -implicitDefEqProofs (disch := first | exact TrueB.mk rfl | omega) only [go_sem, Nat.reduceMul, Nat.reduceAdd, Nat.reduceLT, Nat.reduceLeDiff, Nat.reducePow, Nat.reduceEqDiff, ↓reduceIte, reduceCtorEq, Int.reduceToNat, Try.ntmps13, hll, hkl, hlen]
    refine wpLoop_ind (α := Nat)
      (fun i => ⟨[(0, .pure m (.sl (cellsV l))), (1, .pure m' (.sl (cellsV k))), (5, .pure true (.int .i64 (i : Nat)))], []⟩)
      (fun i => i ≤ l.length ∧ l.take i = k.take i) (fun i => l.length - i) ?_ 0 ⟨by omega, rfl⟩ rfl
    rintro i ⟨hi, ht⟩
    rcases Classical.em (i < l.length) with hlt | hge
    · have hlt2 : i < k.length := by omega
      have g1 := cells_at hlt
      have g2 := cells_at hlt2
      have hd : l[i] = k[i] → l.take (i + 1) = k.take (i + 1) := fun e => by rw [← List.take_append_getElem hlt, ← List.take_append_getElem hlt2, ht, e]
      have hne : ¬ l[i] = k[i] → decide (l = k) = false := fun e => decide_eq_false fun h => e (by subst h; rfl)
      generalize l[i] = y at *
      generalize k[i] = x at *
      obtain ⟨a, b, c⟩ := y
      obtain ⟨p, s, e⟩ := x
      simp only at *
      rcases Classical.em (a = p) with h4 | h4
      · rcases Classical.em (b = s) with h5 | h5
        · rcases Classical.em (c = e) with h6 | h6
          · subst h4 h5 h6
            simp (maxSteps := 400000) -dsimp -implicitDefEqProofs (disch := first | exact TrueB.mk rfl | omega) only [go_sem, Nat.reduceMul, Nat.reduceAdd, Nat.reduceLT, Nat.reduceLeDiff, Nat.reducePow, Nat.reduceEqDiff, ↓reduceIte, reduceCtorEq, Int.reduceToNat, g1, g2, hll, hkl, beq_same]
            exact again_mk ⟨i + 1, ⟨by omega, hd rfl⟩, by omega, rfl⟩
          · subst h4 h5
            have h7 : (c == e) = false := by simpa using h6
            simp (maxSteps := 400000) -dsimp -implicitDefEqProofs (disch := first | exact TrueB.mk rfl | omega) only [go_sem, Nat.reduceMul, Nat.reduceAdd, Nat.reduceLT, Nat.reduceLeDiff, Nat.reducePow, Nat.reduceEqDiff, ↓reduceIte, reduceCtorEq, Int.reduceToNat, g1, g2, hll, hkl, beq_same, h7]
            first | exact end_bool rfl (hne (by simp [h6])).symm | done
        · subst h4
          have h7 : (b == s) = false := by simpa using h5
          simp (maxSteps := 400000) -dsimp -implicitDefEqProofs (disch := first | exact TrueB.mk rfl | omega) only [go_sem, Nat.reduceMul, Nat.reduceAdd, Nat.reduceLT, Nat.reduceLeDiff, Nat.reducePow, Nat.reduceEqDiff, ↓reduceIte, reduceCtorEq, Int.reduceToNat, g1, g2, hll, hkl, beq_same, h7]
          first | exact end_bool rfl (hne (by simp [h5])).symm | done
      · have h7 : (a == p) = false := by simpa using h4
        simp (maxSteps := 400000) -dsimp -implicitDefEqProofs (disch := first | exact TrueB.mk rfl | omega) only [go_sem, Nat.reduceMul, Nat.reduceAdd, Nat.reduceLT, Nat.reduceLeDiff, Nat.reducePow, Nat.reduceEqDiff, ↓reduceIte, reduceCtorEq, Int.reduceToNat, g1, g2, hll, hkl, beq_same, h7]
        first | exact end_bool rfl (hne (by simp [h4])).symm | done
    · have heq : l = k := by
        rw [List.take_of_length_le (by omega), List.take_of_length_le (by omega)] at ht
        exact ht
      simp (maxSteps := 400000) -dsimp -implicitDefEqProofs (disch := first | exact TrueB.mk rfl | omega) only [go_sem, Nat.reduceMul, Nat.reduceAdd, Nat.reduceLT, Nat.reduceLeDiff, Nat.reducePow, Nat.reduceEqDiff, ↓reduceIte, reduceCtorEq, Int.reduceToNat, hll, hkl]
      first | exact end_bool rfl (decide_eq_true heq).symm | done
  · have hI : ¬ ((l.length : Nat) : Int) = ((k.length : Nat) : Int) := by omega
    have hne : decide (l = k) = false := decide_eq_false fun h => hlen (by rw [h])
    simp (maxSteps := 400000) -dsimp -implicitDefEqProofs (disch := first | exact TrueB.mk rfl | omega) only [go_sem, Nat.reduceMul, Nat.reduceAdd, Nat.reduceLT, Nat.reduceLeDiff, Nat.reducePow, Nat.reduceEqDiff, ↓reduceIte, reduceCtorEq, Int.reduceToNat, Try.ntmps13, hll, hkl, hlen, hI]
    first | exact end_bool rfl hne.symm | done

theorem mem_take_succ {k : List S2} {i : Nat} (h : i < k.length) (x : S2) : decide (x ∈ k.take (i + 1)) = (decide (x ∈ k.take i) || decide (x = k[i])) := by
  rw [Bool.eq_iff_iff, Bool.or_eq_true, decide_eq_true_eq, decide_eq_true_eq, decide_eq_true_eq, List.take_succ_eq_append_getElem h, List.mem_append, List.mem_singleton]
theorem allW_cells (l : List C3) : allW 3 (cellsV l) = true := by
  induction l with
  | nil => rfl
  | cons k t ih => exact ih
theorem parts {cf tm : Int} {L : List S2} (hp : (playL cf tm L zeroB w0T []).isSome = true) (n : Nat) (x : S2) : ∃ b w A b1 w1 B, playL cf tm L zeroB w0T [] = some (b, w, A) ∧ playL cf tm (L.take n) zeroB w0T [] = some (b1, w1, B) ∧ A.take B.length = B ∧ B.length ≤ A.length ∧ (playL cf tm (L.take n ++ [x]) zeroB w0T []).isSome = decide (x ∈ canL cf tm b1) := by
  obtain ⟨⟨b, w, A⟩, hR⟩ := Option.isSome_iff_exists.1 hp
  have h2 := playL_append cf tm (L.take n) (L.drop n) zeroB w0T []
  rw [List.take_append_drop, hR] at h2
  cases h3 : playL cf tm (L.take n) zeroB w0T [] with
  | none => rw [h3] at h2; cases h2
  | some r =>
    obtain ⟨b1, w1, B⟩ := r
    rw [h3] at h2
    simp only at h2
    obtain ⟨D, hD⟩ := playL_pre cf tm _ _ _ _ h2.symm
    refine ⟨b, w, A, b1, w1, B, hR, rfl, by rw [hD]; simp, by rw [hD]; simp, ?_⟩
    rw [playL_append, h3, ← canB_mem]
    simp only [playL]
    unfold canB
    cases hs : stepL cf tm b1 x.1 x.2 with
    | none => rfl
    | some q => obtain ⟨b', l', t0, t1, t2⟩ := q; rfl

set_option maxHeartbeats 64000000 in
theorem cellsParts_runs (x y : UInt8) (q : List UInt8) (cut : UInt8) (p e : Int) (hq0 : q.length ≤ 140737488351232) : Runs Try.prog env 5 [.pure false (.int .u8 x.toNat), .pure false (.int .u8 y.toNat), .pure false (.sl (bytesOf q)), .pure false (.int .u8 cut.toNat), .pure false (.agg [.int .i64 p, .int .i64 e])] [] (.pure true (.bool true)) [] := by
  have hcf : 1 ≤ 1 + ((x.toNat % 4 : Nat) : Int) ∧ 1 + ((x.toNat % 4 : Nat) : Int) ≤ 4 := by omega
  have htm : 1 ≤ 1 + ((y.toNat % 4 : Nat) : Int) ∧ 1 + ((y.toNat % 4 : Nat) : Int) ≤ 4 := by omega
  have cc := fun m m' => conf_any x y m m'
  generalize 1 + ((x.toNat % 4 : Nat) : Int) = cf at *
  generalize 1 + ((y.toNat % 4 : Nat) : Int) = tm at *
  have h1 : 1 ≤ cf ∧ cf ≤ 255 := by omega
  have h2 : 1 ≤ tm ∧ tm ≤ 255 := by omega
  have hql := bytesOf_length q
  rcases Classical.em (q.length > 40) with hbig | hq
  · refine Runs.of Try.func5 rfl (by simp [Try.ntmps5]) ?_
    simp (maxSteps := 400000) -dsimp -implicitDefEqProofs (disch := first | exact TrueB.mk rfl | omega) only [go_sem, Nat.reduceMul, Nat.reduceAdd, Nat.reduceLT, Nat.reduceLeDiff, Nat.reducePow, Nat.reduceEqDiff, ↓reduceIte, reduceCtorEq, Int.reduceToNat, Try.ntmps5]
    first | refine wpAct_call0 (awake_ok) rfl rfl rfl rfl rfl rfl rfl rfl ?_ | done
    simp (maxSteps := 400000) -dsimp -implicitDefEqProofs (disch := first | exact TrueB.mk rfl | omega) only [go_sem, Nat.reduceMul, Nat.reduceAdd, Nat.reduceLT, Nat.reduceLeDiff, Nat.reducePow, Nat.reduceEqDiff, ↓reduceIte, reduceCtorEq, Int.reduceToNat, hql]
    first | refine wpAct_call0 (awake_ok) rfl rfl rfl rfl rfl rfl rfl rfl ?_ | done
    simp (maxSteps := 400000) -dsimp -implicitDefEqProofs (disch := first | exact TrueB.mk rfl | omega) only [go_sem, Nat.reduceMul, Nat.reduceAdd, Nat.reduceLT, Nat.reduceLeDiff, Nat.reducePow, Nat.reduceEqDiff, ↓reduceIte, reduceCtorEq, Int.reduceToNat]
    first | exact end_bool rfl rfl | done
  · have ld := fun m m' => led_any h1 h2 q (by omega) m m'
    obtain ⟨lp, lq⟩ := ledF_ok cf tm q [] rfl
    generalize ledF cf tm q [] = L at *
    rw [List.length_nil, Nat.zero_add] at lq
    have hll := stepsV_length L
    have hcu := cut.toNat_lt
    generalize cut.toNat = cu at *
    have hn : cu % (L.length + 1) ≤ L.length := by have := Nat.mod_lt cu (show 0 < L.length + 1 by omega); omega
    have hm0 : ((cu : Nat) : Int).tmod ((L.length : Nat) + 1 : Int) = ((cu % (L.length + 1) : Nat) : Int) := tmod_nat cu (L.length + 1)
    have hw1 : IntKind.i64.wrap ((cu : Nat) : Int) = ((cu : Nat) : Int) := by rw [wrap_i64 (by omega) (by omega)]
    generalize cu % (L.length + 1) = n at *
    obtain ⟨b, w, A, b1, w1, B, r1, r2, r3, r4, r5⟩ := parts lp n (p, e)
    have pa := fun m m' => Play_any h1 h2 L (by omega) m m'
    have pb := fun m m' => Play_any h1 h2 (L.take n) (by rw [List.length_take]; omega) m m'
    have pc := fun m m' => Play_any h1 h2 (L.take n ++ [(p, e)]) (by rw [List.length_append, List.length_take, List.length_cons, List.length_nil]; omega) m m'
    have cb := fun m m' => Can_any h1 h2 (L.take n) (by rw [List.length_take]; omega) m m'
    have u1 := playL_ok h1 h2 L zeroB w0T [] okZ r1
    rw [List.length_nil] at u1
    have sc := fun m m' => sameC_any B B (by omega) (by omega) m m'
    rw [r1] at pa
    rw [r2] at pb cb
    simp only [PlayV, playS, CanV, CanS] at pa pb cb
    have hkb : (canL cf tm b1).length ≤ 48 := Nat.le_trans (List.length_filter_le _ _) (by rw [all48_length]; omega)
    generalize hk : canL cf tm b1 = k at *
    have hkl := stepsV_length k
    have nw : newV (.pure false (.sl (stepsV k))) = false := rfl
    have hAl := cellsV_length A
    have hBl := cellsV_length B
    have htk : (stepsV L).take n = stepsV (L.take n) := stepsV_take L n
    have htA : (cellsV A).take B.length = cellsV B := by rw [← r3]; simp [cellsV]
    have hdec : decide (B = B) = true := decide_eq_true rfl
    unfold confV at *
    refine Runs.of Try.func5 rfl (by simp [Try.ntmps5]) ?_
    simp (maxSteps := 400000) -dsimp -implicitDefEqProofs (disch := first | exact TrueB.mk rfl | omega) only [go_sem, Nat.reduceMul, Nat.reduceAdd, Nat.reduceLT, Nat.reduceLeDiff, Nat.reducePow, Nat.reduceEqDiff, ↓reduceIte, reduceCtorEq, Int.reduceToNat, Try.ntmps5]
    first | refine wpAct_call0 (awake_ok) rfl rfl rfl rfl rfl rfl rfl rfl ?_ | done
    simp (maxSteps := 400000) -dsimp -implicitDefEqProofs (disch := first | exact TrueB.mk rfl | omega) only [go_sem, Nat.reduceMul, Nat.reduceAdd, Nat.reduceLT, Nat.reduceLeDiff, Nat.reducePow, Nat.reduceEqDiff, ↓reduceIte, reduceCtorEq, Int.reduceToNat, hql]
    first | refine wpAct_call0 (cc _ _) rfl rfl rfl rfl rfl rfl rfl rfl ?_ | done
    simp (maxSteps := 400000) -dsimp -implicitDefEqProofs (disch := first | exact TrueB.mk rfl | omega) only [go_sem, Nat.reduceMul, Nat.reduceAdd, Nat.reduceLT, Nat.reduceLeDiff, Nat.reducePow, Nat.reduceEqDiff, ↓reduceIte, reduceCtorEq, Int.reduceToNat]
    first | refine wpAct_callG (ld _ _) rfl rfl rfl rfl rfl rfl rfl rfl rfl ?_ | done
    simp (maxSteps := 400000) -dsimp -implicitDefEqProofs (disch := first | exact TrueB.mk rfl | omega) only [go_sem, Nat.reduceMul, Nat.reduceAdd, Nat.reduceLT, Nat.reduceLeDiff, Nat.reducePow, Nat.reduceEqDiff, ↓reduceIte, reduceCtorEq, Int.reduceToNat, hw1, hm0]
    first | refine wpAct_callG (pa _ _) rfl rfl rfl rfl (argV_p rfl (argV_r rfl hll.symm argV_nil)) rfl rfl rfl rfl ?_ | done
    have ht0 : (stepsV L).take L.length = stepsV L := List.take_of_length_le (by omega)
    have hw := allW_steps L
    simp (maxSteps := 400000) -dsimp -implicitDefEqProofs (disch := first | exact TrueB.mk rfl | omega) only [go_sem, Nat.reduceMul, Nat.reduceAdd, Nat.reduceLT, Nat.reduceLeDiff, Nat.reducePow, Nat.reduceEqDiff, ↓reduceIte, reduceCtorEq, Int.reduceToNat, hll, ht0, hn, hw, Nat.sub_zero, htk]
    first | refine wpAct_callG (pb _ _) rfl rfl rfl rfl (argV_p rfl (argV_p rfl argV_nil)) rfl rfl rfl rfl ?_ | done
    have hA0 : (cellsV A).take A.length = cellsV A := List.take_of_length_le (by omega)
    have hwA := allW_cells A
    simp (maxSteps := 400000) -dsimp -implicitDefEqProofs (disch := first | exact TrueB.mk rfl | omega) only [go_sem, Nat.reduceMul, Nat.reduceAdd, Nat.reduceLT, Nat.reduceLeDiff, Nat.reducePow, Nat.reduceEqDiff, ↓reduceIte, reduceCtorEq, Int.reduceToNat, hAl, hBl, hA0, r4, hwA, Nat.sub_zero, htA]
    first | refine wpAct_callF (sc _ _) rfl rfl rfl rfl (argV_p rfl (argV_r rfl hBl.symm argV_nil)) rfl rfl rfl rfl ?_ | done
    rw [hdec]
    simp (maxSteps := 400000) -dsimp -implicitDefEqProofs (disch := first | exact TrueB.mk rfl | omega) only [go_sem, Nat.reduceMul, Nat.reduceAdd, Nat.reduceLT, Nat.reduceLeDiff, Nat.reducePow, Nat.reduceEqDiff, ↓reduceIte, reduceCtorEq, Int.reduceToNat, hll, ht0, hn, hw, Nat.sub_zero, htk]
    refine wpAct_callP (cb _ _) rfl rfl rfl rfl (argV_p rfl (argV_p rfl argV_nil)) rfl nw rfl rfl ?_
    simp (maxSteps := 400000) -dsimp -implicitDefEqProofs (disch := first | exact TrueB.mk rfl | omega) only [go_sem, Nat.reduceMul, Nat.reduceAdd, Nat.reduceLT, Nat.reduceLeDiff, Nat.reducePow, Nat.reduceEqDiff, ↓reduceIte, reduceCtorEq, Int.reduceToNat, hkl]
    refine wpLoop_ind (α := Nat × Bool × Nat)
      (fun x => ⟨[(9, .ptr 1840 0), (11, .ptr 1841 0), (12, .row 1842 L.length), (13, .pure true (.int .i64 (n : Nat))), (18, .pure true (.bool x.2.1)), (19, .pure false (.sl (stepsV k))), (20, .pure true (.int .i64 (x.1 : Nat)))], [(1840, .box [.pure false (.int .i64 p), .pure false (.int .i64 e)]), (1841, .box [.pure true (.int .i64 cf), .pure true (.int .i64 tm), .pure true (.int .i64 1), .pure true (.int .i64 0), .pure true (.str []), .pure true (.str []), .pure true (.int .i64 0), .pure true (.int .u32 0), .pure true (.bool false)]), (1842, .row true (zS L) x.2.2 (stepsV L))]⟩)
      (fun x => x.1 ≤ k.length ∧ x.2.1 = decide (((p, e) : S2) ∈ k.take x.1)) (fun x => k.length - x.1) ?_ (0, false, max (max 0 L.length) L.length) ⟨by omega, by simp⟩ rfl
    rintro ⟨i, cb', lim⟩ ⟨hi, hcb⟩
    simp only at hi hcb ⊢
    rcases Classical.em (i < k.length) with hlt | hge
    · have hmt := mem_take_succ hlt ((p, e) : S2)
      rw [← hcb] at hmt
      have g1 := steps_at hlt
      generalize k[i] = st at *
      obtain ⟨a, c⟩ := st
      simp only at g1
      cases cb' with
      | true =>
        rw [Bool.true_or] at hmt
        simp (maxSteps := 400000) -dsimp -implicitDefEqProofs (disch := first | exact TrueB.mk rfl | omega) only [go_sem, Nat.reduceMul, Nat.reduceAdd, Nat.reduceLT, Nat.reduceLeDiff, Nat.reducePow, Nat.reduceEqDiff, ↓reduceIte, reduceCtorEq, Int.reduceToNat, hkl]
        refine again_mk ⟨(i + 1, true, lim), ⟨Nat.succ_le_of_lt hlt, hmt.symm⟩, by simp only; omega, ?_⟩
        rfl
      | false =>
        rw [Bool.false_or] at hmt
        rcases Classical.em (a = p) with h4 | h4
        · rcases Classical.em (c = e) with h5 | h5
          · subst h4 h5
            rw [decide_eq_true rfl] at hmt
            simp (maxSteps := 400000) -dsimp -implicitDefEqProofs (disch := first | exact TrueB.mk rfl | omega) only [go_sem, Nat.reduceMul, Nat.reduceAdd, Nat.reduceLT, Nat.reduceLeDiff, Nat.reducePow, Nat.reduceEqDiff, ↓reduceIte, reduceCtorEq, Int.reduceToNat, hkl, g1, beq_same]
            refine again_mk ⟨(i + 1, true, lim), ⟨Nat.succ_le_of_lt hlt, hmt.symm⟩, by simp only; omega, ?_⟩
            rfl
          · subst h4
            have h7 : (c == e) = false := by simpa using h5
            rw [decide_eq_false (fun h => h5 (congrArg Prod.snd h).symm)] at hmt
            simp (maxSteps := 400000) -dsimp -implicitDefEqProofs (disch := first | exact TrueB.mk rfl | omega) only [go_sem, Nat.reduceMul, Nat.reduceAdd, Nat.reduceLT, Nat.reduceLeDiff, Nat.reducePow, Nat.reduceEqDiff, ↓reduceIte, reduceCtorEq, Int.reduceToNat, hkl, g1, beq_same, h7]
            refine again_mk ⟨(i + 1, false, lim), ⟨Nat.succ_le_of_lt hlt, hmt.symm⟩, by simp only; omega, ?_⟩
            rfl
        · have h7 : (a == p) = false := by simpa using h4
          rw [decide_eq_false (fun h => h4 (congrArg Prod.fst h).symm)] at hmt
          simp (maxSteps := 400000) -dsimp -implicitDefEqProofs (disch := first | exact TrueB.mk rfl | omega) only [go_sem, Nat.reduceMul, Nat.reduceAdd, Nat.reduceLT, Nat.reduceLeDiff, Nat.reducePow, Nat.reduceEqDiff, ↓reduceIte, reduceCtorEq, Int.reduceToNat, hkl, g1, beq_same, h7]
          refine again_mk ⟨(i + 1, false, lim), ⟨Nat.succ_le_of_lt hlt, hmt.symm⟩, by simp only; omega, ?_⟩
          rfl
    · obtain rfl : i = k.length := by omega
      rw [List.take_length] at hcb
      rw [← hcb] at r5
      have hxl : (L.take n ++ [((p, e) : S2)]).length = (stepsV (L.take n) ++ [PV.agg [.int .i64 p, .int .i64 e]]).length := by simp [stepsV]
      have hxs : stepsV (L.take n ++ [((p, e) : S2)]) = stepsV (L.take n) ++ [PV.agg [.int .i64 p, .int .i64 e]] := by simp [stepsV, sV]
      have hTl := stepsV_length (L.take n)
      have hTn : (L.take n).length = n := by rw [List.length_take]; omega
      rw [hTn] at hTl
      have hTw := allW_steps (L.take n)
      rw [hxs] at pc
      generalize playL cf tm (L.take n ++ [((p, e) : S2)]) zeroB w0T [] = R2 at *
      generalize hTs : stepsV (L.take n) = T at *
      have hTb : T.length ≤ 40 := by omega
      have hTa : (T ++ [PV.agg [.int .i64 p, .int .i64 e]]).length = T.length + 1 := by simp
      have sc2 : ∀ a b : Int, PV.scalar.go [.int .i64 a, .int .i64 b] = true := fun _ _ => rfl
      simp (maxSteps := 400000) -dsimp -implicitDefEqProofs (disch := first | exact TrueB.mk rfl | omega) only [go_sem, Nat.reduceMul, Nat.reduceAdd, Nat.reduceLT, Nat.reduceLeDiff, Nat.reducePow, Nat.reduceEqDiff, ↓reduceIte, reduceCtorEq, Int.reduceToNat, hll, ht0, hn, hw, Nat.sub_zero, htk, hTw, sc2, Bool.true_or, Bool.or_true]
      cases R2 with
      | none =>
        simp only [PlayV, playS] at pc
        obtain rfl : false = cb' := r5
        first | refine wpAct_callG (pc _ _) rfl rfl rfl rfl (argV_p rfl (argV_r rfl (by simp) argV_nil)) rfl rfl rfl rfl ?_ | done
        simp (maxSteps := 400000) -dsimp -implicitDefEqProofs (disch := first | exact TrueB.mk rfl | omega) only [go_sem, Nat.reduceMul, Nat.reduceAdd, Nat.reduceLT, Nat.reduceLeDiff, Nat.reducePow, Nat.reduceEqDiff, ↓reduceIte, reduceCtorEq, Int.reduceToNat]
        first | exact end_bool rfl rfl | done
      | some r =>
        simp only [PlayV, playS] at pc
        obtain rfl : true = cb' := r5
        first | refine wpAct_callG (pc _ _) rfl rfl rfl rfl (argV_p rfl (argV_r rfl (by simp) argV_nil)) rfl rfl rfl rfl ?_ | done
        simp (maxSteps := 400000) -dsimp -implicitDefEqProofs (disch := first | exact TrueB.mk rfl | omega) only [go_sem, Nat.reduceMul, Nat.reduceAdd, Nat.reduceLT, Nat.reduceLeDiff, Nat.reducePow, Nat.reduceEqDiff, ↓reduceIte, reduceCtorEq, Int.reduceToNat]
        first | exact end_bool rfl rfl | done

end Go.Proofs.Yticdhmcbooabaaa
