/- V15: an operation looks at no more than it tells. No claim. -/
import Derived.Test.YticdhmcbooabaaaDoor14
set_option linter.unusedVariables false
set_option linter.unusedSimpArgs false
namespace Go.Proofs.YticdhmcbooabaaaDoor.V
open Go

section
variable {P : Program} {E : Env} {S S' : Look} {base nk : Nat}

theorem over_agree {δ : Store} {k : Nat} (h : S' k = S k) : over δ S' k = over δ S k := by
  unfold over
  rw [h]

theorem freeze_congr {v : SV} (h : ∀ k ∈ refs v, S' k = S k) : freeze base S' v = freeze base S v := by
  cases v <;> simp only [freeze]
  · rename_i k len
    rw [h k (by simp [refs])]
  · rename_i k len q
    rw [h k (by simp [refs])]
  · rename_i k off z n
    rw [h k (by simp [refs])]

theorem freezeN_congr {v : SV} (h : ∀ k ∈ refs v, S' k = S k) : freezeN base S' v = freezeN base S v := by
  unfold freezeN
  rw [freeze_congr h]

theorem freezes_congr {cs : List SV} : ∀ {S S' : Look}, (∀ k ∈ refsL cs, S' k = S k) → freezes base S' cs = freezes base S cs := by
  induction cs with
  | nil => intro S S' h; rfl
  | cons v r ih =>
    intro S S' h
    try simp only [freezes]
    rw [freeze_congr fun k hk => h k (by simp [refsL, hk])]
    split
    · rename_i m x δ hf
      rw [ih fun k hk => over_agree (h k (by simp [refsL, hk]))]
    · rfl

theorem gather_congr {cs : List SV} (h : ∀ k ∈ refsL cs, S' k = S k) : gather base S' cs = gather base S cs := by
  unfold gather kept
  rw [freezes_congr h]

theorem freshKeys_congr {n : Nat} : ∀ {k : Nat}, (∀ j, k ≤ j → j < k + n → S' j = S j) → freshKeys S' k n = freshKeys S k n := by
  induction n with
  | zero => intro k h; rfl
  | succ n ih =>
    intro k h
    try simp only [freshKeys]
    rw [h k (Nat.le_refl _) (by omega), ih fun j h1 h2 => h j (by omega) (by omega)]

theorem range_agree {ks : List Nat} (h : ∀ k ∈ (List.range 16).map (nk + ·) ++ ks, S' k = S k) : ∀ j, nk ≤ j → j < nk + 16 → S' j = S j := fun j h1 h2 =>
  h j (List.mem_append_left _ (List.mem_map.2 ⟨j - nk, List.mem_range.2 (by omega), by omega⟩))

theorem range_agree' (h : ∀ k ∈ (List.range 16).map (nk + ·), S' k = S k) : ∀ j, nk ≤ j → j < nk + 16 → S' j = S j := fun j h1 h2 =>
  h j (List.mem_map.2 ⟨j - nk, List.mem_range.2 (by omega), by omega⟩)

theorem firstFree_congr {n : Nat} : ∀ {k : Nat}, (∀ j, k ≤ j → j < k + n → S' j = S j) → firstFree S' k n = firstFree S k n := by
  induction n with
  | zero => intro k h; rfl
  | succ n ih =>
    intro k h
    try simp only [firstFree]
    rw [h k (Nat.le_refl _) (by omega), ih fun j h1 h2 => h j (by omega) (by omega)]

/-- It gives the same where the keys that it tells are the same. -/
def Local (F : Look → Option Eff) : Prop := ∀ S S' e ks, F S = some e → e.rd = some ks → (∀ k ∈ ks, S' k = S k) → F S' = some e

theorem local_const (x : Option Eff) : Local fun _ => x := fun _ _ _ _ h _ _ => h

theorem moveV_local (nil : Bool) (x : SV) : Local fun S => moveV nk S nil x := by
  intro S S' e ks he hr hag
  dsimp only at he ⊢
  unfold moveV at he ⊢
  split at he
  · rename_i hn
    split at he
    · rename_i k hk
      cases he
      cases hr
      rw [if_pos hn, firstFree_congr (range_agree' hag), hk]
    · cases he
  · rename_i hn
    rw [if_neg hn]
    exact he

theorem allocV_local (t : TypeId) : Local fun S => allocV P base nk S t := by
  intro S S' e ks he hr hag
  dsimp only at he ⊢
  unfold allocV at he ⊢
  split at he
  · rename_i l hl
    split at he
    · rename_i hc
      cases he
      cases hr
      try simp only [hl]
      rw [freshKeys_congr (range_agree' hag), if_pos hc]
    · cases he
  · cases he

theorem boxV_local (x : SV) : Local fun S => boxV nk S x := by
  intro S S' e ks he hr hag
  dsimp only at he ⊢
  unfold boxV at he ⊢
  split at he
  · rename_i l hl
    split at he
    · rename_i hc
      cases he
      cases hr
      try simp only [hl]
      rw [hag nk (by simp), if_pos hc]
    · cases he
  · cases he

theorem buildV_local (t : TypeId) (ps : List (Nat × SV)) : Local fun S => buildV P base S t ps := by
  intro S S' e ks he hr hag
  dsimp only at he ⊢
  unfold buildV at he ⊢
  split at he
  · rename_i z place hz hp
    try simp only [hz, hp]
    split at he
    · cases he
    · rename_i l hl
      cases he
      cases hr
      try simp only [hl]
      rw [gather_congr hag]
  · cases he

theorem elemsV_congr {ag : Bool} {z : Nat} {ps : List (Nat × SV)} : ∀ {S S' : Look} {xs : List PV}, (∀ k ∈ refsL (ps.map (·.2)), S' k = S k) → elemsV base S' ag z xs ps = elemsV base S ag z xs ps := by
  induction ps with
  | nil => intro S S' xs h; rfl
  | cons p r ih =>
    intro S S' xs h
    obtain ⟨i, v⟩ := p
    try simp only [elemsV]
    rw [freezeN_congr fun k hk => h k (by simp [refsL, hk])]
    split
    · rename_i m y δ hf
      rw [ih fun k hk => over_agree (h k (by simp only [List.map_cons, refsL, List.mem_append]; exact .inr hk))]
    · rfl

theorem buildSliceV_local (t : TypeId) (n : Nat) (ps : List (Nat × SV)) : Local fun S => buildSliceV P base nk S t n ps := by
  intro S S' e ks he hr hag
  dsimp only at he ⊢
  unfold buildSliceV at he ⊢
  split at he
  · rename_i el hu
    try simp only [hu]
    split at he
    · rename_i y hy
      try simp only [hy]
      split at he
      · rename_i hc
        rw [if_pos hc]
        split at he
        · rename_i m xs δ hel
          split at he
          · rename_i hf
            cases he
            cases hr
            rw [elemsV_congr fun k hk => hag k (by simp [hk]), hel]
            try simp only
            rw [over_agree (hag nk (by simp)), if_pos hf]
          · cases he
        · cases he
      · cases he
    · cases he
  · cases he

theorem loadV_local (t : TypeId) (a : SV) : Local fun S => loadV P base S t a := by
  intro S S' e ks he hr hag
  dsimp only at he ⊢
  unfold loadV at he ⊢
  split at he
  · cases he
  · rename_i hok
    rw [if_neg hok]
    try simp only at he ⊢
    split at he
    · rename_i k off
      split at he
      · rename_i cs hk
        split at he
        · rename_i hle
          split at he
          · rename_i hag'
            cases he
            cases hr
            try simp only [hag k (by simp), hk]
            rw [if_pos hle, if_pos hag', gather_congr fun j hj => hag j (by simp [hj])]
          · rename_i hag'
            split at he
            · rename_i v hv
              cases he
              cases hr
              try simp only [hag k (by simp), hk]
              rw [if_pos hle, if_neg hag', hv]
            · cases he
        · cases he
      · rename_i m cs hk
        split at he
        · rename_i hle
          split at he
          · rename_i x hx
            cases he
            cases hr
            try simp only [hag k (by simp), hk]
            rw [if_pos hle, hx]
          · cases he
        · cases he
      · cases he
    · rename_i k len i r
      split at he
      · rename_i m z lim xs hk
        split at he
        · rename_i hlen
          split at he
          · rename_i x hx
            split at he
            · rename_i hle
              split at he
              · rename_i y hy
                cases he
                cases hr
                try simp only [hag k (by simp), hk]
                rw [if_pos hlen, hx]
                try simp only
                rw [if_pos hle, hy]
              · cases he
            · cases he
          · cases he
        · cases he
      · cases he
    · exact he
    · cases he

theorem storeV_local (t : TypeId) (a x : SV) : Local fun S => storeV P base S t a x := by
  intro S S' e ks he hr hag
  dsimp only at he ⊢
  unfold storeV at he ⊢
  split at he
  · cases he
  · rename_i hok
    rw [if_neg hok]
    try simp only at he ⊢
    split at he
    · rename_i k off
      split at he
      · rename_i cs hk
        split at he
        · rename_i l hl
          split at he
          · rename_i hc
            cases he
            cases hr
            try simp only [hag k (by simp), hk, hl]
            rw [if_pos hc]
          · cases he
        · cases he
      · cases he
    · rename_i k len i r
      split at he
      · rename_i m' y δ hf
        split at he
        · rename_i m z lim xs hk
          split at he
          · rename_i hc
            split at he
            · rename_i old hold
              split at he
              · rename_i hc2
                split at he
                · rename_i new hnew
                  cases he
                  cases hr
                  rw [freezeN_congr fun j hj => hag j (by simp [hj]), hf]
                  try simp only [over_agree (δ := δ) (hag k (by simp)), hk]
                  rw [if_pos hc, hold]
                  try simp only
                  rw [if_pos hc2, hnew]
                · cases he
              · cases he
            · cases he
          · cases he
        · cases he
      · cases he
    · cases he

theorem stands_congr {k len : Nat} (h : S' k = S k) : stands S' k len = stands S k len := by
  unfold stands
  rw [h]

theorem nilCheckV_local (x : SV) : Local fun S => nilCheckV S x := by
  intro S S' e ks he hr hag
  dsimp only at he ⊢
  unfold nilCheckV at he ⊢
  split at he
  · exact he
  · rename_i k a b c
    split at he
    · rename_i hs
      cases he
      cases hr
      try simp only
      rw [stands_congr (hag k (by simp)), if_pos hs]
    · cases he
  · exact he
  · exact he
  · cases he

theorem readS_congr {z : Nat} {v : SV} {m : Bool} {xs : List PV} {ks : List Nat} (hr : readS S z v = some (m, xs, ks)) (h : ∀ k ∈ ks, S' k = S k) : readS S' z v = some (m, xs, ks) := by
  unfold readS at hr ⊢
  split at hr
  · exact hr
  · exact hr
  · exact hr
  · rename_i k len
    try simp only
    split at hr
    · rename_i hk
      split at hr
      · rename_i hc
        simp only [Option.some.injEq, Prod.mk.injEq] at hr
        obtain ⟨rfl, rfl, rfl⟩ := hr
        rw [h k (by simp), hk]
        try simp only
        rw [if_pos hc]
      · rename_i hc
        split at hr
        · rename_i hc2
          simp only [Option.some.injEq, Prod.mk.injEq] at hr
          obtain ⟨rfl, rfl, rfl⟩ := hr
          rw [h k (by simp), hk]
          try simp only
          rw [if_neg hc, if_pos hc2]
        · cases hr
    · cases hr
  · rename_i k off z' n
    try simp only
    split at hr
    · rename_i hk
      split at hr
      · rename_i hp
        split at hr
        · rename_i hc
          simp only [Option.some.injEq, Prod.mk.injEq] at hr
          obtain ⟨rfl, rfl, rfl⟩ := hr
          rw [h k (by simp), hk]
          try simp only [hp]
          rw [if_pos hc]
        · cases hr
      · cases hr
    · rename_i hk
      split at hr
      · rename_i hc
        simp only [Option.some.injEq, Prod.mk.injEq] at hr
        obtain ⟨rfl, rfl, rfl⟩ := hr
        rw [h k (by simp), hk]
        try simp only
        rw [if_pos hc]
      · cases hr
    · cases hr
  · cases hr

theorem convertV_local (t1 t2 : TypeId) (x : SV) : Local fun S => convertV P nk S t1 t2 x := by
  intro S S' e ks he hr hag
  dsimp only at he ⊢
  unfold convertV at he ⊢
  split at he
  · exact he
  · exact he
  · split at he
    · rename_i hu
      split at he
      · rename_i hc
        cases he
        cases hr
        try simp only
        rw [hag nk (by simp), if_pos hc]
      · cases he
    · cases he
  · split at he
    · rename_i k len hu
      split at he
      · rename_i hk
        split at he
        · rename_i hc
          cases he
          cases hr
          try simp only [hu, hag k (by simp), hk]
          rw [if_pos hc]
        · cases he
      · cases he
    · cases he
  · split at he
    · rename_i hu hrd
      split at he
      · cases he
      · rename_i hstr
        split at he
        · rename_i s hs
          cases he
          cases hr
          try simp only [hu, readS_congr hrd hag]
          rw [if_neg hstr, hs]
        · cases he
    · cases he
  · cases he

theorem makeMapV_local (t : TypeId) : Local fun S => makeMapV P nk S t := by
  intro S S' e ks he hr hag
  dsimp only at he ⊢
  unfold makeMapV at he ⊢
  split at he
  · rename_i hc
    have hk : S' nk = S nk := by
      split at he
      · split at he <;> cases he <;> cases hr <;> exact hag nk (by simp)
      · cases he
    rw [hk, if_pos hc]
    exact he
  · cases he

theorem makeSliceV_local (t : TypeId) (l c : SV) : Local fun S => makeSliceV P nk S t l c := by
  intro S S' e ks he hr hag
  dsimp only at he ⊢
  unfold makeSliceV at he ⊢
  split at he
  · split at he
    · rename_i y hy
      split at he
      · rename_i hc
        cases he
        cases hr
        try simp only [hy]
        rw [hag nk (by simp), if_pos hc]
      · cases he
    · cases he
  · cases he

theorem sliceV_local (t : TypeId) (x : SV) (lo hi : Option SV) : Local fun S => sliceV P base S t x lo hi := by
  intro S S' e ks he hr hag
  dsimp only at he ⊢
  unfold sliceV at he ⊢
  split at he
  · exact he
  · exact he
  · rename_i el k n hu
    try simp only
    have hk : S' k = S k := by
      split at he
      · split at he
        · split at he
          · cases he; cases hr; exact hag k (by simp)
          · cases he
        · cases he
      · cases he
    rw [freeze_congr fun j hj => by simp [refs] at hj; subst hj; exact hk]
    exact he
  · exact he
  · cases he

theorem clearV_local (at_ : Array TypeId) (x : SV) : Local fun S => clearV P S at_ x := by
  intro S S' e ks he hr hag
  dsimp only at he ⊢
  unfold clearV at he ⊢
  split at he
  · split at he
    · split at he
      · rename_i k len i
        have hk : S' k = S k := by
          split at he
          · split at he
            · split at he
              · cases he; cases hr; exact hag k (by simp)
              · cases he
            · cases he
          · cases he
        simp only [hk]
        exact he
      · cases he
    · cases he
  · cases he

theorem tailQ_congr {t : TypeId} {x : SV} {lo hi : Option SV} (h : ∀ k n, x = .row k n → S' k = S k) : tailQ P base S' t x lo hi = tailQ P base S t x lo hi := by
  unfold tailQ
  split
  · cases hu : P.underlying t with
    | none => rfl
    | some d => cases d with
      | slice e => cases x with
        | row k n => simp only [h k n rfl]
        | _ => rfl
      | _ => rfl
  · rfl

theorem tailQ_row {t : TypeId} {x : SV} {lo hi : Option SV} {q : TailQ} (h : tailQ P base S t x lo hi = some q) : x = .row q.k q.n := by
  unfold tailQ at h
  split at h
  · split at h
    · split at h
      · split at h
        · split at h
          · cases h
            rfl
          · cases h
        · cases h
      · cases h
    · cases h
  · cases h

theorem headQ_congr {t : TypeId} {x : SV} {lo hi : Option SV} (h : ∀ k n, x = .row k n → S' k = S k) : headQ P S' t x lo hi = headQ P S t x lo hi := by
  unfold headQ
  split
  · cases hu : P.underlying t with
    | none => rfl
    | some d => cases d with
      | slice e => cases x with
        | row k n => simp only [h k n rfl]
        | _ => rfl
      | _ => rfl
  · rfl

theorem headQ_row {t : TypeId} {x : SV} {lo hi : Option SV} {k n q : Nat} (h : headQ P S t x lo hi = some (k, n, q)) : x = .row k n := by
  unfold headQ at h
  split at h
  · split at h
    · split at h
      · split at h
        · split at h
          · cases h
            rfl
          · cases h
        · cases h
      · cases h
    · cases h
  · cases h

theorem sliceT_local (t : TypeId) (x : SV) (lo hi : Option SV) : Local fun S => sliceT P base nk S t x lo hi := by
  intro S S' e ks he hr hag
  dsimp only at he ⊢
  unfold sliceT at he ⊢
  cases hq : tailQ P base S t x lo hi with
  | some q =>
    rw [hq] at he
    simp only at he
    have hx := tailQ_row hq
    split at he
    · rename_i hb
      cases he
      cases hr
      rw [tailQ_congr (S := S) (fun k n e => by
        rw [hx] at e
        cases e
        exact hag _ (by simp)), hq]
      simp only
      rw [if_pos hb]
    · rename_i hb
      split at he
      · rename_i hc
        cases he
        cases hr
        rw [tailQ_congr (S := S) (fun k n e => by
          rw [hx] at e
          cases e
          exact hag _ (by simp)), hq]
        simp only
        rw [if_neg hb, hag nk (by simp), if_pos hc]
      · cases he
  | none =>
    rw [hq] at he
    simp only at he
    cases hh : headQ P S t x lo hi with
    | some q =>
      obtain ⟨k, n, q⟩ := q
      rw [hh] at he
      cases he
      cases hr
      have hx := headQ_row hh
      rw [tailQ_congr (S := S) (fun k n e => by
        rw [hx] at e
        cases e
        exact hag _ (by simp)), hq]
      simp only
      rw [headQ_congr (S := S) (fun k n e => by
        rw [hx] at e
        cases e
        exact hag _ (by simp)), hh]
    | none =>
    rw [hh] at he
    simp only at he
    have key : ∀ k n, x = .row k n → S' k = S k := (fun k n e => by
      subst e
      unfold sliceV at he
      split at he
      · rename_i hx; cases hx
      · rename_i hx; cases hx
      · rename_i el k' n' hu hx
        cases hx
        split at he
        · split at he
          · split at he
            · cases he; cases hr; exact hag k (by simp)
            · cases he
          · cases he
        · cases he
      · rename_i hx; cases hx
      · cases he)
    rw [tailQ_congr (S := S) key, hq]
    simp only
    rw [headQ_congr (S := S) key, hh]
    exact sliceV_local t x lo hi S S' e ks he hr hag

theorem fieldAddrV_local (t : TypeId) (x : SV) (f : Nat) : Local fun S => fieldAddrV P S t x f := by
  intro S S' e ks he hr hag
  dsimp only at he ⊢
  unfold fieldAddrV at he ⊢
  split at he
  · rename_i fields hu
    split at he
    · rename_i fl hf
      split at he
      · cases he
      · rename_i hz
        try simp only [hf]
        rw [if_neg hz]
        split at he
        · exact he
        · rename_i k len i r
          split at he
          · rename_i hs
            cases he
            cases hr
            try simp only
            rw [stands_congr (hag k (by simp)), if_pos hs]
          · cases he
        · exact he
        · cases he
    · cases he
  · cases he

theorem indexAddrV_local (t : TypeId) (x i : SV) : Local fun S => indexAddrV P base S t x i := by
  intro S S' e ks he hr hag
  dsimp only at he ⊢
  unfold indexAddrV at he ⊢
  split at he
  · cases he
  · rename_i n hn
    split at he
    · cases he
    · rename_i hneg
      try simp only
      rw [if_neg hneg]
      split at he
      · exact he
      · rename_i k len j r hu
        split at he
        · rename_i hc
          cases he
          cases hr
          try simp only
          rw [stands_congr (hag k (by simp)), if_pos hc]
        · cases he
      · exact he
      · exact he
      · rename_i el k len hu
        try simp only
        split at he
        · rename_i m z lim xs hk
          have hk' : S' k = S k := by
            split at he
            · split at he
              · split at he
                · split at he
                  · cases he; cases hr; exact hag k (by simp)
                  · split at he
                    · cases he; cases hr; exact hag k (by simp)
                    · cases he
                · cases he
              · cases he
            · cases he
          rw [hk', hk]
          exact he
        · cases he
      · exact he
      · rename_i el k len q hu
        try simp only
        split at he
        · rename_i m z lim xs hk
          have hk' : S' k = S k := by
            split at he
            · cases he; cases hr; exact hag k (by simp)
            · cases he
          rw [hk', hk]
          exact he
        · cases he
      · cases he

theorem lookupV_local (t : TypeId) (x i : SV) (ok : Bool) : Local fun S => lookupV P E S t x i ok := by
  intro S S' e ks he hr hag
  dsimp only at he ⊢
  unfold lookupV at he ⊢
  split at he
  · split at he
    · rename_i hkt
      split at he
      · rename_i y hy
        try simp only [hy]
        rw [if_pos hkt]
        split at he
        · rename_i k
          have hk' : S' k = S k := by
            split at he
            · split at he
              · cases he; cases hr; exact hag k (by simp)
              · cases he; cases hr; exact hag k (by simp)
              · cases he
            · split at he
              · cases he; cases hr; exact hag k (by simp)
              · cases he; cases hr; exact hag k (by simp)
              · cases he
            · cases he
          try simp only [hk']
          exact he
        · exact he
        · cases he
      · cases he
    · cases he
  · cases he

theorem mapUpdateV_local (t : TypeId) (x i v : SV) : Local fun S => mapUpdateV P E base S t x i v := by
  intro S S' e ks he hr hag
  dsimp only at he ⊢
  unfold mapUpdateV at he ⊢
  split at he
  · rename_i k m key hu
    split at he
    · rename_i hkt
      try simp only
      rw [if_pos hkt]
      split at he
      · rename_i hk
        split at he
        · rename_i m' y δ hf
          split at he
          · rename_i hk2
            split at he
            · rename_i q hq
              cases he
              cases hr
              have hkk := hag k (by simp)
              rw [hkk, hk]
              try simp only
              rw [freezeN_congr fun j hj => hag j (by simp [hj]), hf]
              try simp only [over_agree (δ := δ) hkk, hk2, hq]
            · cases he
          · cases he
        · cases he
      · rename_i hk
        split at he
        · rename_i q hq
          cases he
          cases hr
          rw [hag k (by simp), hk]
          try simp only [hq]
        · cases he
      · cases he
    · cases he
  · cases he

theorem rangeV_local (t : TypeId) (x : SV) : Local fun S => rangeV P nk S t x := by
  intro S S' e ks he hr hag
  dsimp only at he ⊢
  unfold rangeV at he ⊢
  split at he
  · split at he
    · rename_i hc
      cases he
      cases hr
      try simp only
      rw [hag nk (by simp), if_pos hc]
    · cases he
  · cases he

theorem nextV_local (x : SV) : Local fun S => nextV S x := by
  intro S S' e ks he hr hag
  dsimp only at he ⊢
  unfold nextV at he ⊢
  split at he
  · rename_i k
    try simp only
    split at he
    · rename_i s pos hk
      have hk' : S' k = S k := by
        split at he
        · cases he; cases hr; exact hag k (by simp)
        · cases he; cases hr; exact hag k (by simp)
      rw [hk', hk]
      exact he
    · cases he
  · cases he

theorem lenV_local (t : TypeId) (x : SV) : Local fun S => lenV P S t x := by
  intro S S' e ks he hr hag
  dsimp only at he ⊢
  unfold lenV at he ⊢
  split at he
  · exact he
  · exact he
  · exact he
  · exact he
  · exact he
  · exact he
  · exact he
  · exact he
  · rename_i k hu
    try simp only
    have hk' : S' k = S k := by
      split at he
      · cases he; cases hr; exact hag k (by simp)
      · cases he; cases hr; exact hag k (by simp)
      · cases he
    rw [hk']
    exact he
  · cases he

theorem appendV_local (nilBase : Bool) (at_ : Array TypeId) (s x : SV) : Local fun S => appendV P nk S nilBase at_ s x := by
  intro S S' e ks he hr hag
  dsimp only at he ⊢
  unfold appendV at he ⊢
  split at he
  · rename_i st xt h0 h1
    try simp only [h0, h1]
    split at he
    · rename_i el d hu hx
      split at he
      · rename_i hc
        try simp only [hu, hx]
        rw [if_pos hc]
        split at he
        · rename_i m' ys ks' hrd
          split at he
          · rename_i hnb
            split at he
            · rename_i hroom
              cases he
              cases hr
              rw [readS_congr hrd fun k hk => hag k (by simp [hk])]
              try simp only
              rw [if_pos hnb, hag nk (by simp), if_pos hroom]
            · cases he
          · rename_i hnb
            split at he
            · rename_i k len
              split at he
              · rename_i m z lim xs hk
                split at he
                · rename_i hroom
                  cases he
                  cases hr
                  rw [readS_congr hrd fun k hk => hag k (by simp [hk])]
                  try simp only
                  rw [if_neg hnb]
                  try simp only [hag k (by simp), hk]
                  rw [if_pos hroom]
                · cases he
              · cases he
            · cases he
        · cases he
      · cases he
    · cases he
  · cases he

theorem copyV_local (at_ : Array TypeId) (d x : SV) : Local fun S => copyV P S at_ d x := by
  intro S S' e ks he hr hag
  dsimp only at he ⊢
  unfold copyV at he ⊢
  split at he
  · rename_i t h0
    try simp only
    split at he
    · rename_i el hu
      try simp only
      split at he
      · rename_i hz
        rw [if_pos hz]
        split at he
        · rename_i m' ys ks' hrd
          split at he
          · rename_i k off z len
            split at he
            · rename_i cs hk
              split at he
              · rename_i hc
                cases he
                cases hr
                rw [readS_congr hrd fun k hk => hag k (by simp [hk])]
                try simp only [hag k (by simp), hk]
                rw [if_pos hc]
              · cases he
            · cases he
          · cases he
        · cases he
      · cases he
    · cases he
  · cases he

theorem argV_congr {br : Bool} {args : List SV} : ∀ {S S' : Look}, (∀ k ∈ refsL args, S' k = S k) → argV base br S' args = argV base br S args := by
  induction args with
  | nil => intro S S' h; rfl
  | cons v r ih =>
    intro S S' h
    try simp only [argV]
    rw [freeze_congr fun k hk => h k (by simp [refsL, hk]), ih fun k hk => h k (by simp [refsL, hk])]
    split
    · split
      · rename_i m x δ hf
        rw [ih fun k hk => over_agree (h k (by simp [refsL, hk]))]
      · rfl
    · rfl

theorem callV_local (cf : FuncId → List SV → Store → Option (SV × Store)) (br : Bool) (g : FuncId) (args : List SV) : Local fun S => callV cf base nk br S g args := by
  intro S S' e ks he hr hag
  dsimp only at he ⊢
  unfold callV at he ⊢
  have hag' : ∀ k ∈ (List.range 16).map (nk + ·) ++ refsL args, S' k = S k := by
    split at he
    · cases he
    · simp only at he
      split at he
      · split at he
        · cases he
        · split at he
          · cases he; cases hr; exact hag
          · cases he
      · split at he
        · cases he
        · split at he
          · cases he; cases hr
          · cases he
  rw [argV_congr fun k hk => hag' k (List.mem_append_right _ hk)]
  split at he
  · cases he
  · rename_i as δ ha
    try simp only at he ⊢
    split at he
    · rename_i hrs
      split at he
      · cases he
      · rename_i res S1 hcf
        split at he
        · rename_i hf
          try simp only [hrs, hcf]
          rw [freshKeys_congr (range_agree hag'), if_pos hf]
          exact he
        · cases he
    · split at he
      · cases he
      · split at he
        · cases he; cases hr
        · cases he

theorem callB_local (b : Builtin) (nilBase : Bool) (at_ : Array TypeId) (args : List SV) : Local fun S => callB P base nk S b nilBase at_ args := by
  intro S S' e ks he hr hag
  dsimp only at he ⊢
  unfold callB at he ⊢
  split at he
  · split at he
    · rename_i t ht
      try simp only [ht]
      exact lenV_local t _ S S' e ks he hr hag
    · cases he
  · exact appendV_local nilBase at_ _ _ S S' e ks he hr hag
  · exact copyV_local at_ _ _ S S' e ks he hr hag
  · exact clearV_local at_ _ S S' e ks he hr hag
  · exact he
  · exact he
  · cases he

theorem act_local (hI : ∀ g hh, E.intr g = some hh → ∀ args nk, Local fun S => hh args S nk) (cf : FuncId → List SV → Store → Option (SV × Store)) (o : Oper) (ev : Operand → SV) : Local fun S => act P E cf base o ev S := by
  intro S S' e ks he hr hag
  dsimp only at he ⊢
  unfold act at he ⊢
  try simp only at he ⊢
  split at he
  · exact moveV_local _ _ S S' e ks he hr hag
  · exact moveV_local _ _ S S' e ks he hr hag
  · exact he
  · exact allocV_local _ S S' e ks he hr hag
  · exact boxV_local _ S S' e ks he hr hag
  · exact buildV_local _ _ S S' e ks he hr hag
  · exact buildSliceV_local _ _ _ S S' e ks he hr hag
  · exact loadV_local _ _ S S' e ks he hr hag
  · exact storeV_local _ _ _ S S' e ks he hr hag
  · exact nilCheckV_local _ S S' e ks he hr hag
  · exact he
  · exact he
  · exact convertV_local _ _ _ S S' e ks he hr hag
  · exact he
  · exact he
  · exact makeMapV_local _ S S' e ks he hr hag
  · exact makeSliceV_local _ _ _ S S' e ks he hr hag
  · exact sliceT_local _ _ _ _ S S' e ks he hr hag
  · exact fieldAddrV_local _ _ _ S S' e ks he hr hag
  · exact he
  · exact indexAddrV_local _ _ _ S S' e ks he hr hag
  · exact he
  · exact lookupV_local _ _ _ _ S S' e ks he hr hag
  · exact mapUpdateV_local _ _ _ _ S S' e ks he hr hag
  · exact mapUpdateV_local _ _ _ _ S S' e ks he hr hag
  · exact rangeV_local _ _ S S' e ks he hr hag
  · exact nextV_local _ S S' e ks he hr hag
  · exact he
  · rename_i c ho
    split at he
    · rename_i f hcal
      split at he
      · rename_i g caps hf
        split at he
        · rename_i hh hin
          try simp only [hin]
          exact hI g hh hin _ _ S S' e ks he hr hag
        · rename_i hin
          try simp only [hin]
          exact callV_local cf _ g _ S S' e ks he hr hag
      · cases he
    · exact callB_local _ _ _ _ S S' e ks he hr hag
    · cases he
  · cases he

end
end Go.Proofs.YticdhmcbooabaaaDoor.V
