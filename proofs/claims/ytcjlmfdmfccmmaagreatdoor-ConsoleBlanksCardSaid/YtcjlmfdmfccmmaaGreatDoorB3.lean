/- The analyser is sound, part 4. -/
import Derived.Test.YtcjlmfdmfccmmaaGreatDoorB2
namespace Go.Hal
noncomputable section
open Go
variable {P : Program}

section
variable {m : Mt} {η ζ : Va} {σ τ : Sig} (hf : Fits m η ζ) (hb : FitsB m σ τ) (hm : m.MOk η)
include hf hm
theorem rStr_sound {t s : AStr} (h : m.rStr t = .ok s) (hl : (slen t).ev ζ.int = ((t.ev ζ).size : Int)) : s.ev η = t.ev ζ ∧ (slen s).ev η.int = ((t.ev ζ).size : Int) := by
  unfold Mt.rStr at h
  split at h
  · cases h; exact ⟨rfl, slen_lit _ _⟩
  · rename_i a n
    cases hlt : Nat.blt a m.n0
    · rw [hlt] at h
      simp only [cond_false] at h
      split at h
      · rename_i s' hg
        cases h
        have h1 := hf.th a _ hg
        have h2 := hm a _ hg
        simp only [TBd] at h1
        simp only [TBok] at h2
        refine ⟨h1.symm, ?_⟩
        rw [h2]
        simp only [AStr.ev, h1]
      · rename_i b hg
        obtain ⟨n', hn, h⟩ := R.bind_ok h
        cases h
        have h1 := (hf.th a _ hg).2.1
        refine ⟨h1.symm, ?_⟩
        simp only [slen] at hl ⊢
        rw [subLin_sound hf hn]; exact hl
      · cases h
    · rw [hlt] at h
      simp only [cond_true] at h
      obtain ⟨n', hn, h⟩ := R.bind_ok h
      cases h
      have h1 := (hf.base a ((blt_iff _ _).1 hlt)).2.1
      refine ⟨h1, ?_⟩
      simp only [slen] at hl ⊢
      rw [subLin_sound hf hn]; exact hl
include hb
omit hf hm in
theorem rBlk1_sound {b c : Nat} (h : m.rBlk1 b = .ok c) : τ b = σ c := by
  unfold Mt.rBlk1 at h
  split at h
  · rename_i c' hi
    cases h
    exact img_fit hb hi
  · cases h
omit hf hm in
theorem rCaps_sound : ∀ {l r : List Nat}, R.mapL m.rBlk1 l = .ok r → ∀ {vs : List Value}, DenCaps τ l vs → DenCaps σ r vs
  | [], r, h, vs, hd => by cases h; cases vs <;> exact hd
  | b :: l, r, h, vs, hd => by
    simp only [R.mapL] at h
    obtain ⟨c, hc, h⟩ := R.bind_ok h
    obtain ⟨r', hr, h⟩ := R.bind_ok h
    cases h
    cases vs with
    | nil => exact hd.elim
    | cons v vs =>
      obtain ⟨⟨cc, n, hσ, hv⟩, hd⟩ := hd
      exact ⟨⟨cc, n, by rw [← rBlk1_sound hb hc]; exact hσ, hv⟩, rCaps_sound hr hd⟩
theorem rSV_sound {t s : SV} (h : m.rSV t = .ok s) {v : Value} (hd : Den ζ τ t v) : Den η σ s v := by
  unfold Mt.rSV at h
  split at h
  · obtain ⟨e, he, h⟩ := R.bind_ok h
    cases h
    simp only [Den] at hd ⊢
    rw [subLin_sound hf he]; exact hd
  · obtain ⟨e, he, h⟩ := R.bind_ok h
    cases h
    simp only [Den] at hd ⊢
    rw [rBool_sound hf he]; exact hd
  · obtain ⟨e, he, h⟩ := R.bind_ok h
    cases h
    obtain ⟨h1, h2⟩ := rStr_sound hf hm he hd.2
    simp only [Den] at hd ⊢
    exact ⟨by rw [h1]; exact hd.1, by rw [h2, h1]⟩
  · obtain ⟨b', hb', h⟩ := R.bind_ok h
    obtain ⟨e, he, h⟩ := R.bind_ok h
    cases h
    obtain ⟨c, n, o, h1, h2, h3⟩ := hd
    exact ⟨c, n, o, by rw [← rBlk1_sound hb hb']; exact h1, by rw [subLin_sound hf he]; exact h2, h3⟩
  · rename_i b o l es
    obtain ⟨b', hb', h⟩ := R.bind_ok h
    have hi : m.img b = some b' := by
      unfold Mt.rBlk at hb'
      split at hb'
      · rename_i c hc; cases hb'; exact hc
      · cases hb'
    have hτ := img_fit hb hi
    split at h
    · cases h
      rcases hd with ⟨_, _, h3⟩ | ⟨c, n, o', ln, cap, h1, _⟩
      · exact h3
      · rw [hτ] at h1; cases h1
    · rename_i c
      obtain ⟨o', ho, h⟩ := R.bind_ok h
      obtain ⟨l', hl, h⟩ := R.bind_ok h
      cases h
      rcases hd with ⟨h1, h2, h3⟩ | ⟨c', n, oo, ln, cap, h1, h2, h3, h4, h5⟩
      · exact .inl ⟨hτ.symm.trans h1, by rw [subLin_sound hf hl]; exact h2, h3⟩
      · exact .inr ⟨c', n, oo, ln, cap, hτ.symm.trans h1, by rw [subLin_sound hf hl]; exact h2, h3, by rw [subLin_sound hf ho]; exact h4, h5⟩
  · obtain ⟨e, he, h⟩ := R.bind_ok h
    cases h
    obtain ⟨a, l, cap, h1, h2⟩ := hd
    exact ⟨a, l, cap, h1, by rw [subLin_sound hf he]; exact h2⟩
  · obtain ⟨e, he, h⟩ := R.bind_ok h
    cases h
    simp only [Den] at hd ⊢
    rw [subLin_sound hf he]; exact hd
  · obtain ⟨b', hb', h⟩ := R.bind_ok h
    cases h
    obtain ⟨c, n, h1, h2⟩ := hd
    exact ⟨c, n, by rw [← rBlk1_sound hb hb']; exact h1, h2⟩
  · obtain ⟨cs, hcs, h⟩ := R.bind_ok h
    cases h
    obtain ⟨vs, h1, h2⟩ := hd
    exact ⟨vs, h1, rCaps_sound hb hcs h2⟩
  · rename_i h1 h2 h3 h4 h5 h6 h7 h8 h9
    cases h
    cases t
    · exact absurd rfl (h1 _ _)
    · exact absurd rfl (h2 _)
    · exact absurd rfl (h3 _)
    · exact absurd rfl (h4 _ _)
    · exact hd
    · exact absurd rfl (h5 _ _ _ _)
    · exact hd
    · exact absurd rfl (h6 _)
    · exact absurd rfl (h8 _)
    · exact hd
    · exact absurd rfl (h9 _ _)
    · exact hd
    · exact hd
    · exact absurd rfl (h7 _ _ _)
    · exact hd
    · exact hd
theorem rSVs_sound : ∀ {l r : List SV}, m.rSVs l = .ok r → ∀ {vs : List Value}, DenL ζ τ l vs → DenL η σ r vs
  | [], r, h, vs, hd => by cases h; cases vs <;> exact hd
  | t :: l, r, h, vs, hd => by
    simp only [Mt.rSVs, R.mapL] at h
    obtain ⟨s, hs, h⟩ := R.bind_ok h
    obtain ⟨r', hr, h⟩ := R.bind_ok h
    cases h
    cases vs with
    | nil => exact hd.elim
    | cons v vs => exact ⟨rSV_sound hf hb hm hs hd.1, rSVs_sound hr hd.2⟩
theorem rTup_sound : ∀ {l r : List (Bool × List SV)}, m.rTup l = .ok r → ∀ {vs : List Value}, DenT ζ τ l vs → DenT η σ r vs
  | [], r, h, vs, hd => by cases h; cases vs <;> exact hd
  | (b, t) :: l, r, h, vs, hd => by
    simp only [Mt.rTup] at h
    obtain ⟨s, hs, h⟩ := R.bind_ok h
    obtain ⟨r', hr, h⟩ := R.bind_ok h
    cases h
    cases vs with
    | nil => cases b <;> exact hd.elim
    | cons v vs =>
      cases b with
      | true =>
        obtain ⟨⟨xs, hx, hd⟩, hds⟩ := hd
        exact ⟨⟨xs, hx, rSVs_sound hf hb hm hs hd⟩, rTup_sound hr hds⟩
      | false =>
        obtain ⟨⟨t0, rfl, hd⟩, hds⟩ := hd
        have := rSVs_sound hf hb hm hs (vs := [v]) ⟨hd, trivial⟩
        cases s with
        | nil => exact this.elim
        | cons s0 sr => cases sr with
          | nil => exact ⟨⟨s0, rfl, this.1⟩, rTup_sound hr hds⟩
          | cons _ _ => exact this.2.elim
theorem rEs_sound : ∀ {l r : List (List Nat × List SV)}, m.rEs l = .ok r → ∀ {xs : List MapEntry}, DenE ζ τ l xs → DenE η σ r xs
  | [], r, h, xs, hd => by cases h; cases xs <;> exact hd
  | (b, t) :: l, r, h, xs, hd => by
    simp only [Mt.rEs] at h
    obtain ⟨s, hs, h⟩ := R.bind_ok h
    obtain ⟨r', hr, h⟩ := R.bind_ok h
    cases h
    cases xs with
    | nil => exact hd.elim
    | cons e xs =>
      obtain ⟨⟨hk, vs, hv, hd⟩, hds⟩ := hd
      exact ⟨⟨hk, vs, hv, rSVs_sound hf hb hm hs hd⟩, rEs_sound hr hds⟩
theorem rAV_sound {t s : AV} (h : m.rAV t = .ok s) {v : Value} (hd : DenV ζ τ t v) : DenV η σ s v := by
  unfold Mt.rAV at h
  split at h
  · rename_i t
    obtain ⟨s', hs', h⟩ := R.bind_ok h
    cases h
    by_cases ha : t = .any
    · subst ha
      simp only [Mt.rSV] at hs'
      cases hs'
      trivial
    · have ht : t.isAny = false := by cases t <;> first | rfl | exact absurd rfl ha
      exact DenV.of (rSV_sound hf hb hm hs' (DenV.un ht hd))
  · obtain ⟨cs, hcs, h⟩ := R.bind_ok h
    cases h
    obtain ⟨vs, h1, h2⟩ := hd
    exact ⟨vs, h1, rSVs_sound hf hb hm hcs h2⟩
  · obtain ⟨cs, hcs, h⟩ := R.bind_ok h
    cases h
    obtain ⟨vs, h1, h2⟩ := hd
    exact ⟨vs, h1, rTup_sound hf hb hm hcs h2⟩
/-- a block's content, where it lies; its type as it was where it is not told -/
theorem rContent_sound {o : Option TypeId} {t y : ABlk} (h : m.rContent o t = .ok y) {w : World} {l : Sg} (hd : BlkD ζ τ w t l) (ho : ∀ c n u X U fr, l = .at_ c n → o = some u → w.heap[c]? = some (.cells X U fr) → u = 0 ∨ u = U) :
    BlkD η σ w y l ∧ (t ≠ .dead → y ≠ .dead) := by
  have ret : ∀ {c n ty vs}, l = .at_ c n → CellsAt w c ty vs → CellsAt w c (Mt.tyOr ty o) vs := fun {c n ty vs} hl hc => by
    obtain ⟨u, fr, h1, h2, h3⟩ := hc
    refine ⟨u, fr, h1, ?_, h3⟩
    unfold Mt.tyOr
    cases h0 : Nat.beq ty 0
    · exact h2
    · simp only [cond_true]
      split
      · rename_i u'
        exact ho c n u' _ u fr hl rfl h1
      · exact .inl rfl
  unfold Mt.rContent at h
  split at h
  · rename_i ty cs
    obtain ⟨cs', hcs, h⟩ := R.bind_ok h
    cases h
    refine ⟨?_, by simp⟩
    cases l with
    | no => exact hd.elim
    | nil =>
      cases cs with
      | nil => simp only [Mt.rSVs, R.mapL] at hcs; cases hcs; trivial
      | cons _ _ => exact hd.elim
    | at_ c n =>
      obtain ⟨vs, more, h1, h2, h3⟩ := hd
      exact ⟨vs, more, ret rfl h1, h2, rSVs_sound hf hb hm hcs h3⟩
  · rename_i ty a n ct
    obtain ⟨n', hn, h⟩ := R.bind_ok h
    have ren : ∀ {b}, ζ.row a = η.row b → y = .blob (Mt.tyOr ty o) b n' ct → BlkD η σ w y l ∧ (ABlk.blob ty a n ct ≠ .dead → y ≠ .dead) := fun {b} hr hy => by
      subst hy
      refine ⟨?_, by simp⟩
      cases l with
      | no => exact hd.elim
      | nil =>
        obtain ⟨h1, h2⟩ := hd
        exact ⟨hr ▸ h1, by rw [subLin_sound hf hn]; exact h2⟩
      | at_ c nn =>
        obtain ⟨vs, more, h1, h2, h3, h4, h5⟩ := hd
        exact ⟨vs, more, ret rfl h1, h2, hr ▸ h3, by rw [subLin_sound hf hn]; exact h4, h5⟩
    cases hlt : Nat.blt a m.n0
    · rw [hlt] at h
      simp only [cond_false] at h
      split at h
      · rename_i cs hg
        cases h
        have h1 := hf.th a _ hg
        have h2 := hm a _ hg
        simp only [TBd] at h1
        simp only [TBok] at h2
        refine ⟨?_, by simp⟩
        cases l with
        | no => exact hd.elim
        | nil =>
          obtain ⟨h3, _⟩ := hd
          rw [h1] at h3
          cases cs with
          | nil => trivial
          | cons _ _ => simp at h3
        | at_ c nn =>
          obtain ⟨vs, more, h3, h4, h5, h6, h7⟩ := hd
          refine ⟨vs, more, ret rfl h3, h4, ?_⟩
          rw [← h5, h1]; exact h2 σ
      · rename_i b hg
        cases h
        exact ren (hf.th a _ hg).2.2.1 rfl
      · cases h
    · rw [hlt] at h
      simp only [cond_true] at h
      cases h
      exact ren (hf.base a ((blt_iff _ _).1 hlt)).2.2.1.symm rfl
  · rename_i ty n
    obtain ⟨n', hn, h⟩ := R.bind_ok h
    cases h
    refine ⟨?_, by simp⟩
    cases l with
    | no => exact hd.elim
    | nil =>
      show n'.ev η.int = 0
      rw [subLin_sound hf hn]; exact hd
    | at_ c nn =>
      obtain ⟨vs, more, h1, h2, h3, h4⟩ := hd
      exact ⟨vs, more, ret rfl h1, h2, by rw [subLin_sound hf hn]; exact h3, h4⟩
  · rename_i s p
    obtain ⟨s', hs', h⟩ := R.bind_ok h
    obtain ⟨p', hp', h⟩ := R.bind_ok h
    cases h
    refine ⟨?_, by simp⟩
    cases l with
    | at_ c nn =>
      obtain ⟨i, h1, h2, h3⟩ := hd
      obtain ⟨e1, e2⟩ := rStr_sound hf hm hs' h3
      exact ⟨i, by rw [e1]; exact h1, by rw [subLin_sound hf hp']; exact h2, by rw [e2, e1]⟩
    | _ => exact hd.elim
  · rename_i es
    obtain ⟨es', hes, h⟩ := R.bind_ok h
    cases h
    refine ⟨?_, by simp⟩
    cases l with
    | at_ c nn =>
      obtain ⟨ents, cl, h1, h2⟩ := hd
      exact ⟨ents, cl, h1, rEs_sound hf hb hm hes h2⟩
    | _ => exact hd.elim
  · rename_i a
    have ren : ∀ {b}, ζ.map a = η.map b → y = .mapi b → BlkD η σ w y l ∧ (ABlk.mapi a ≠ .dead → y ≠ .dead) := fun {b} hr hy => by
      subst hy
      refine ⟨?_, by simp⟩
      cases l with
      | at_ c nn =>
        obtain ⟨ents, cl, h1, h2, h3⟩ := hd
        exact ⟨ents, cl, h1, hr ▸ h2, h3⟩
      | _ => exact hd.elim
    cases hlt : Nat.blt a m.n0
    · rw [hlt] at h
      simp only [cond_false] at h
      split at h
      · rename_i b hg
        cases h
        exact ren (hf.th a _ hg).2.2.2 rfl
      · cases h
    · rw [hlt] at h
      simp only [cond_true] at h
      cases h
      exact ren (hf.base a ((blt_iff _ _).1 hlt)).2.2.2.symm rfl
  · cases h
    exact ⟨by cases l <;> trivial, fun h => absurd rfl h⟩
end
/-- renamed atoms -/
theorem renames_get : ∀ {n a b : Nat} {t : Tr TB} {k : Nat}, (Mt.renames n a b t).get k = if a ≤ k ∧ k < a + n then some (.ren (b + (k - a))) else t.get k
  | 0, a, b, t, k => by
    have : ¬ (a ≤ k ∧ k < a + 0) := by omega
    rw [if_neg this]; rfl
  | n + 1, a, b, t, k => by
    rw [Mt.renames, renames_get, Tr.get_set]
    by_cases h1 : a + 1 ≤ k ∧ k < a + 1 + n
    · rw [if_pos h1, if_pos (by omega)]
      congr 2; omega
    · rw [if_neg h1]
      by_cases h2 : k = a
      · subst h2; rw [if_pos rfl, if_pos (by omega)]; simp
      · rw [if_neg h2, if_neg (by omega)]
theorem rebinds_get : ∀ {n a b : Nat} {t : Tr Nat} {k : Nat}, (Mt.rebinds n a b t).get k = if a ≤ k ∧ k < a + n then some (b + (k - a) + 1) else t.get k
  | 0, a, b, t, k => by
    have : ¬ (a ≤ k ∧ k < a + 0) := by omega
    rw [if_neg this]; rfl
  | n + 1, a, b, t, k => by
    rw [Mt.rebinds, rebinds_get, Tr.get_set]
    by_cases h1 : a + 1 ≤ k ∧ k < a + 1 + n
    · rw [if_pos h1, if_pos (by omega)]
      congr 1; omega
    · rw [if_neg h1]
      by_cases h2 : k = a
      · subst h2; rw [if_pos rfl, if_pos (by omega)]; simp
      · rw [if_neg h2, if_neg (by omega)]
theorem addBnds_get {a0 b0 : Nat} : ∀ {l : List (Nat × Int × Int)} {t : Tr (Int × Int)} {k : Nat} {lo hi : Int}, (Mt.addBnds a0 b0 l t).get k = some (lo, hi) → (∃ a, (a, lo, hi) ∈ l ∧ a0 ≤ a ∧ k = b0 + (a - a0)) ∨ t.get k = some (lo, hi)
  | [], t, k, lo, hi, h => .inr h
  | (a, l, u) :: r, t, k, lo, hi, h => by
    simp only [Mt.addBnds] at h
    rcases addBnds_get h with ⟨a', h1, h2, h3⟩ | h1
    · exact .inl ⟨a', List.mem_cons_of_mem _ h1, h2, h3⟩
    · cases hle : Nat.ble a0 a
      · rw [hle] at h1; exact .inr h1
      · rw [hle] at h1
        simp only [cond_true] at h1
        rw [Tr.get_set] at h1
        split at h1
        · rename_i e
          simp only [Option.some.injEq, Prod.mk.injEq] at h1
          obtain ⟨rfl, rfl⟩ := h1
          exact .inl ⟨a, List.mem_cons_self, (ble_iff _ _).1 hle, e⟩
        · exact .inr h1
end
end Go.Hal
namespace Go.Hal
noncomputable section
open Go
variable {P : Program}

/-! What is bound is settled. -/
theorem tbsLt_sound {m : Mt} {n : Nat} : ∀ {k a : Nat}, m.tbsLt n k a = true → ∀ {b : Nat} {x : TB}, a ≤ b → b < a + k → m.th.get b = some x → Mt.tbLt n x = true
  | 0, a, _, b, x, h1, h2, _ => by omega
  | k + 1, a, h, b, x, h1, h2, hg => by
    simp only [Mt.tbsLt, Bool.and_eq_true] at h
    by_cases hb : b = a
    · subst hb; rw [hg] at h; exact h.1
    · exact tbsLt_sound h.2 (by omega) (by omega) hg
theorem besLe_sound {m : Mt} {nb : Nat} : ∀ {k t : Nat}, m.besLe nb k t = true → ∀ {s j : Nat}, t ≤ s → s < t + k → m.be.get s = some j → j ≤ nb
  | 0, a, _, b, x, h1, h2, _ => by omega
  | k + 1, a, h, b, x, h1, h2, hg => by
    simp only [Mt.besLe, Bool.and_eq_true] at h
    by_cases hb : b = a
    · subst hb; rw [hg] at h; exact (ble_iff _ _).1 h.1
    · exact besLe_sound h.2 (by omega) (by omega) hg
theorem AStr.ev_congr {n : Nat} {η η' : Va} (ha : Va.agr n η η') {s : AStr} (hl : s.lt n = true) : s.ev η = s.ev η' ∧ (slen s).ev η.int = (slen s).ev η'.int := by
  cases s with
  | lit l => exact ⟨rfl, by simp [slen]⟩
  | atom a k =>
    simp only [AStr.lt, Bool.and_eq_true, blt_iff] at hl
    exact ⟨(ha a hl.1).2.1, Lin.ev_congr (fun b hb => (ha b hb).1) hl.2⟩
theorem cellsLt_congr {n : Nat} {η η' : Va} (ha : Va.agr n η η') : ∀ {cs : List SV}, Mt.cellsLt n cs = true → cs.map (cellVal η) = cs.map (cellVal η')
  | [], _ => rfl
  | s :: cs, h => by
    cases s <;> simp only [Mt.cellsLt, Bool.and_eq_true] at h <;> first | (cases h; done) | skip
    · simp only [List.map_cons, cellsLt_congr ha h.2, cellVal, Lin.ev_congr (fun b hb => (ha b hb).1) h.1]
    · simp only [List.map_cons, cellsLt_congr ha h.2, cellVal, (AStr.ev_congr ha h.1).1]
theorem TBd.congr {n : Nat} {η η' ζ : Va} (ha : Va.agr n η η') {a : Nat} {x : TB} (hl : Mt.tbLt n x = true) (h : TBd η ζ a x) : TBd η' ζ a x := by
  cases x <;> simp only [Mt.tbLt] at hl <;> simp only [TBd] at h ⊢
  · rw [h]; exact Lin.ev_congr (fun b hb => (ha b hb).1) hl
  · rw [h, ABool.ev_congr ha hl]
  · rw [h]; exact (AStr.ev_congr ha hl).1
  · rw [h]; exact cellsLt_congr ha hl
  · obtain ⟨h1, h2, h3, h4⟩ := ha _ ((blt_iff _ _).1 hl)
    exact ⟨h.1.trans h1, h.2.1.trans h2, h.2.2.1.trans h3, h.2.2.2.trans h4⟩
theorem TBd.to {η ζ ζ' : Va} {n : Nat} (ha : Va.agr n ζ ζ') {a : Nat} (hlt : a < n) {x : TB} (h : TBd η ζ a x) : TBd η ζ' a x := by
  obtain ⟨h1, h2, h3, h4⟩ := ha a hlt
  cases x <;> simp only [TBd] at h ⊢
  · rw [← h1]; exact h
  · rw [← h1]; exact h
  · rw [← h2]; exact h
  · rw [← h3]; exact h
  · rw [← h1, ← h2, ← h3, ← h4]; exact h
theorem addFacts_sound {m : Mt} {ζ : Va} {q : Pt} (hfit : q.All fun η => Fits m η ζ) : ∀ {l : List (Bool × Lin)} {Φ : Ctx} {o : Option Ctx}, m.addFacts l Φ = .ok o → Sat q Φ → (∀ g e, (g, e) ∈ l → if g = true then 0 ≤ e.ev ζ.int else e.ev ζ.int ≠ 0) → ∃ Ψ, o = some Ψ ∧ Sat q Ψ
  | [], Φ, o, h, hs, _ => by cases h; exact ⟨Φ, rfl, hs⟩
  | (g, e) :: l, Φ, o, h, hs, hf => by
    simp only [Mt.addFacts] at h
    obtain ⟨f, hsub, h⟩ := R.bind_ok h
    have hev : q.All fun η => f.ev η.int = e.ev ζ.int := fun η hη => subLin_sound (hfit η hη) hsub
    have hrest : ∀ g e, (g, e) ∈ l → if g = true then 0 ≤ e.ev ζ.int else e.ev ζ.int ≠ 0 := fun g' e' hm => hf g' e' (List.mem_cons_of_mem _ hm)
    have h0 := hf g e List.mem_cons_self
    cases hlt : f.lt Φ.n
    · rw [hlt] at h
      exact addFacts_sound hfit h hs hrest
    · rw [hlt] at h
      simp only [cond_true] at h
      cases g
      · simp only [cond_false, Bool.false_eq_true, if_false] at h h0
        obtain ⟨Ψ, hΨ, hn, _⟩ := Ctx.assumeNe_sound hs.says (e := f) (by rw [hev.self]; exact h0)
        rw [hΨ] at h
        refine addFacts_sound hfit h (hs.assume hn fun η hη => ?_) hrest
        obtain ⟨Ω, hΩ, _, h2⟩ := Ctx.assumeNe_sound (hs.2 η hη) (e := f) (by rw [hev η hη]; exact h0)
        rw [hΨ] at hΩ; cases hΩ; exact h2
      · simp only [cond_true, if_true] at h h0
        obtain ⟨Ψ, hΨ, hn, _⟩ := Ctx.assumeGe_sound hs.says (e := f) (by rw [hev.self]; exact h0)
        rw [hΨ] at h
        refine addFacts_sound hfit h (hs.assume hn fun η hη => ?_) hrest
        obtain ⟨Ω, hΩ, _, h2⟩ := Ctx.assumeGe_sound (hs.2 η hη) (e := f) (by rw [hev η hη]; exact h0)
        rw [hΨ] at hΩ; cases hΩ; exact h2

/-! The heap put back. -/
def TyV (σ : Sig) (w : World) (b : Nat) (x : ABlk) : Prop := ∀ u c n X U fr, blkType x = some u → σ b = .at_ c n → w.heap[c]? = some (.cells X U fr) → u = 0 ∨ u = U
theorem BlkD.tyv {η : Va} {σ : Sig} {w : World} {x : ABlk} {b : Nat} (h : BlkD η σ w x (σ b)) : TyV σ w b x := fun u c n X U fr hu hb hc => by
  rw [hb] at h
  have key : ∀ vs, CellsAt w c u vs → u = 0 ∨ u = U := fun vs hv => by
    obtain ⟨U', fr', h1, h2, _⟩ := hv
    rw [hc] at h1
    cases h1; exact h2
  cases x <;> simp only [blkType, Option.some.injEq] at hu <;> first | (cases hu; done) | skip
  · subst hu; obtain ⟨vs, more, h1, _⟩ := h; exact key _ h1
  · subst hu; obtain ⟨vs, more, h1, _⟩ := h; exact key _ h1
  · subst hu; obtain ⟨vs, more, h1, _⟩ := h; exact key _ h1
def actB (pre post : Tr ABlk) (i : Nat) : Bool := Mt.alive pre i || Mt.alive post i
theorem putHeap_sound {m : Mt} {q : Pt} {ζ : Va} {σ τ : Sig} {w : World} (hfit : q.All fun η => Fits m η ζ) (hB : FitsB m σ τ) (hm : q.All fun η => m.MOk η) {pre post : Tr ABlk} (hp : ∀ i, BlkD ζ τ w (blk post i) (τ i)) :
    ∀ {n i : Nat} {h0 h1 : Tr ABlk}, m.putHeap pre post n i h0 = .ok h1 → (∀ b, TyV σ w b (blk h0 b)) → ∀ b,
      (blk h1 b = blk h0 b ∧ ∀ k, i ≤ k → k < i + n → actB pre post k = true → m.img k ≠ some (b + 1)) ∨
      (∃ k, i ≤ k ∧ k < i + n ∧ actB pre post k = true ∧ m.img k = some (b + 1) ∧ (q.All fun η => BlkD η σ w (blk h1 b) (σ b)) ∧ (Alive h1 b → Alive post k))
  | 0, i, h0, h1, h, _, b => by cases h; exact .inl ⟨rfl, fun k a b => by omega⟩
  | n + 1, i, h0, h1, h, hty, b => by
    simp only [Mt.putHeap] at h
    have next : ∀ {h0' : Tr ABlk}, m.putHeap pre post n (i + 1) h0' = .ok h1 → (∀ b, TyV σ w b (blk h0' b)) → (blk h0' b = blk h0 b ∧ (actB pre post i = true → m.img i ≠ some (b + 1)) ∨ (actB pre post i = true ∧ m.img i = some (b + 1) ∧ (q.All fun η => BlkD η σ w (blk h0' b) (σ b)) ∧ (Alive h0' b → Alive post i))) →
        (blk h1 b = blk h0 b ∧ ∀ k, i ≤ k → k < i + (n + 1) → actB pre post k = true → m.img k ≠ some (b + 1)) ∨
        (∃ k, i ≤ k ∧ k < i + (n + 1) ∧ actB pre post k = true ∧ m.img k = some (b + 1) ∧ (q.All fun η => BlkD η σ w (blk h1 b) (σ b)) ∧ (Alive h1 b → Alive post k)) := fun {h0'} h hty' hi => by
      rcases putHeap_sound hfit hB hm hp h hty' b with ⟨e1, e2⟩ | ⟨k, k1, k2, k3, k4, k5, k6⟩
      · rcases hi with ⟨f1, f2⟩ | ⟨f1, f2, f3, f4⟩
        · refine .inl ⟨e1.trans f1, fun k a c ha => ?_⟩
          by_cases hk : k = i
          · subst hk; exact f2 ha
          · exact e2 k (by omega) (by omega) ha
        · refine .inr ⟨i, Nat.le_refl _, by omega, f1, f2, ?_, fun ha => f4 ?_⟩
          · rw [e1]; exact f3
          · unfold Alive at ha ⊢; rw [e1] at ha; exact ha
      · exact .inr ⟨k, by omega, by omega, k3, k4, k5, k6⟩
    cases hact : (Mt.alive pre i || Mt.alive post i)
    · rw [hact] at h
      exact next h hty (.inl ⟨rfl, fun ha => by unfold actB at ha; rw [hact] at ha; cases ha⟩)
    · rw [hact] at h
      simp only [cond_true] at h
      split at h
      · cases h
      · rename_i himg
        exact next h hty (.inl ⟨rfl, fun _ hi => by rw [himg] at hi; cases hi⟩)
      · rename_i j himg
        obtain ⟨y, hy, h⟩ := R.bind_ok h
        have hτ := img_fit hB himg
        have hyd : q.All fun η => BlkD η σ w y (σ j) := fun η hη => by
          have := (rContent_sound (hfit η hη) hB (hm η hη) hy (hp i) (fun c n u X U fr hl ho hc => hty j u c n X U fr ho (by rw [← hl, hτ]; rfl) hc)).1
          rw [hτ] at this; exact this
        have hya : y ≠ .dead → Alive post i := fun hne h0 => by
          rw [h0] at hy
          cases hy
          exact hne rfl
        refine next h (fun b' => ?_) ?_
        · rw [blk_set]
          split
          · rename_i e; subst e; exact BlkD.tyv hyd.self
          · exact hty b'
        · by_cases hbj : b = j
          · subst hbj
            refine .inr ⟨hact, himg, ?_, fun ha => hya ?_⟩
            · rw [blk_set, if_pos rfl]; exact hyd
            · unfold Alive at ha; rw [blk_set, if_pos rfl] at ha; exact ha
          · refine .inl ⟨by rw [blk_set, if_neg hbj], fun _ hi => ?_⟩
            rw [himg] at hi
            simp only [Option.some.injEq] at hi
            omega
theorem noRise_sound {pre post : Tr ABlk} : ∀ {n i : Nat}, noRise pre post n i = true → ∀ k, i ≤ k → k < i + n → Mt.alive post k = true → Mt.alive pre k = true
  | 0, i, _, k, a, b, _ => by omega
  | n + 1, i, h, k, a, b, ha => by
    simp only [noRise, Bool.and_eq_true, Bool.or_eq_true, Bool.not_eq_true'] at h
    by_cases hk : k = i
    · subst hk
      rcases h.1 with h1 | h1
      · rw [ha] at h1; cases h1
      · exact h1
    · exact noRise_sound h.2 k (by omega) (by omega) ha
theorem postsWf_mem {c : Contract} : ∀ {l : List Post} {p : Post}, postsWf c l = true → p ∈ l → c.n ≤ p.n ∧ c.nb ≤ p.nb ∧ p.heap.keysLt 1 0 p.nb = true ∧ noRise c.heap p.heap c.nb 0 = true
  | x :: r, p, h, hm => by
    simp only [postsWf, Bool.and_eq_true, ble_iff] at h
    rcases List.mem_cons.1 hm with rfl | hm
    · exact ⟨h.1.1.1.1, h.1.1.1.2, h.1.1.2, h.1.2⟩
    · exact postsWf_mem h.2 hm
/-- what a contract says of a function -/
def CSound (P : Program) (f : FuncId) (c : Contract) : Prop :=
  ∀ r, Sat r c.ctx → (∃ τ w, ∃ vs : Array Value, (r.All fun ζ => DenVs ζ τ c.args vs.toList) ∧ RelH r τ c.heap c.nb w) →
    ∃ post ∈ c.posts, ∃ r', r.le r' ∧ r'.n = post.n ∧ (∀ a lo hi, (a, lo, hi) ∈ post.bnds → c.n ≤ a ∧ a < post.n ∧ lo ≤ r'.η.int a ∧ r'.η.int a ≤ hi) ∧ (∀ g e, (g, e) ∈ post.facts → if g = true then 0 ≤ e.ev r'.η.int else e.ev r'.η.int ≠ 0) ∧
      ∀ τ w (vs : Array Value), (r.All fun ζ => DenVs ζ τ c.args vs.toList) → RelH r τ c.heap c.nb w →
        (callFunc f vs).run P w = .ok (.enter f vs) w ∧ Calls P f vs w fun e w' => ∃ v, e = .returned v ∧ ∃ τ', Step c.nb τ c.heap w post.nb τ' post.heap w' ∧ (r'.All fun ζ => DenV ζ τ' post.val v) ∧ RelH r' τ' post.heap post.nb w'
/-- where the blocks lie behind a call -/
def backSig (S c : Nat) (n : Nat) (σ τ : Sig) : Sig := fun b => if b < S then σ b else if b < S + n then τ (c + (b - S)) else .no
def backPt (S c n : Nat) (p r : Pt) : Pt := ⟨S + n, ⟨fun a => if a < S then p.η.int a else r.η.int (c + (a - S)), fun a => if a < S then p.η.str a else r.η.str (c + (a - S)), fun a => if a < S then p.η.row a else r.η.row (c + (a - S)), fun a => if a < S then p.η.map a else r.η.map (c + (a - S))⟩⟩
theorem backPt_le {S c n : Nat} {p r : Pt} (hp : p.n = S) : p.le (backPt S c n p r) := ⟨by simp [backPt]; omega, fun a ha => by
  have : a < S := by omega
  simp [backPt, this]⟩
theorem backPt_new {S c n : Nat} {p r : Pt} {k : Nat} (hk : k < n) {η : Va} (hη : Va.agr (backPt S c n p r).n (backPt S c n p r).η η) : r.η.int (c + k) = η.int (S + k) ∧ r.η.str (c + k) = η.str (S + k) ∧ r.η.row (c + k) = η.row (S + k) ∧ r.η.map (c + k) = η.map (S + k) := by
  have := hη (S + k) (by simp [backPt]; omega)
  have h1 : ¬ S + k < S := by omega
  simp only [backPt, h1, if_false, Nat.add_sub_cancel_left] at this
  exact this
theorem usePosts_mem {c : Contract} {m : Mt} {S : St} : ∀ {l : List Post} {outs : Outs} {post : Post}, usePosts c m S l = .ok outs → post ∈ l → ∃ a, usePost c m S post = .ok a ∧ ∀ o ∈ a, o ∈ outs
  | x :: r, outs, post, h, hm => by
    simp only [usePosts] at h
    obtain ⟨a, ha, h⟩ := R.bind_ok h
    obtain ⟨l, hl, h⟩ := R.bind_ok h
    cases h
    rcases List.mem_cons.1 hm with rfl | hm
    · exact ⟨a, ha, fun o ho => List.mem_append_left _ ho⟩
    · obtain ⟨a', h1, h2⟩ := usePosts_mem hl hm
      exact ⟨a', h1, fun o ho => List.mem_append_right _ (h2 o ho)⟩
end
end Go.Hal
namespace Go.Hal
noncomputable section
open Go
variable {P : Program}

/-- what is behind a call, in the caller's words -/
theorem back_sound {c : Contract} {post : Post} {m m' : Mt} {S : St} {p q r' : Pt} {Φ : Ctx} (M : Matched Φ S.heap m c.heap) (hs : Sat p Φ) (hb1 : m.b1 = c.nb) (hb0S : m.b0 ≤ S.nb) (hset : ∀ t k, m.be.get t = some k → k ≤ S.nb)
    (hm' : m' = ⟨m.n0, m.n1, m.b0, m.b1, Mt.renames (post.n - c.n) c.n S.ctx.n m.th, Mt.rebinds (post.nb - c.nb) c.nb S.nb m.be⟩) (h8 : 8 ≤ S.nb) (hpw : c.nb ≤ post.nb ∧ post.heap.keysLt 1 0 post.nb = true ∧ noRise c.heap post.heap c.nb 0 = true)
    (hpq : p.le q) (hfit : q.All fun η => Fits m' η r'.η) (hmok : q.All fun η => m'.MOk η)
    {σ τ' : Sig} {w w' : World} (hR : RelH p σ S.heap S.nb w) (hstep : Step c.nb (m.sg σ) c.heap w post.nb τ' post.heap w') (hR' : RelH r' τ' post.heap post.nb w')
    {h1 : Tr ABlk} (hput : m'.putHeap c.heap post.heap post.nb 0 S.heap = .ok h1) :
    FitsB m' (backSig S.nb c.nb (post.nb - c.nb) σ τ') τ' ∧ Step S.nb σ S.heap w (S.nb + (post.nb - c.nb)) (backSig S.nb c.nb (post.nb - c.nb) σ τ') h1 w' ∧ RelH q (backSig S.nb c.nb (post.nb - c.nb) σ τ') h1 (S.nb + (post.nb - c.nb)) w' := by
  have hRt := M.rel hs hR
  rw [hb1] at hRt
  have hbk : ∀ b, b < S.nb → backSig S.nb c.nb (post.nb - c.nb) σ τ' b = σ b := fun b hb => by simp [backSig, hb]
  have hbn : ∀ k, k < post.nb - c.nb → backSig S.nb c.nb (post.nb - c.nb) σ τ' (S.nb + k) = τ' (c.nb + k) := fun k hk => by
    have e1 : ¬ S.nb + k < S.nb := by omega
    have e2 : S.nb + k < S.nb + (post.nb - c.nb) := by omega
    simp [backSig, e1, e2]
  have hMb := M.b
  -- the images of the template's own blocks
  have img_old : ∀ i, i < c.nb → m'.img i = m.img i := fun i hi => by
    subst hm'
    unfold Mt.img
    cases Nat.blt i m.b0
    · simp only [cond_false]
      rw [rebinds_get, if_neg (by omega)]
    · rfl
  have img_new : ∀ i, c.nb ≤ i → i < post.nb → m'.img i = some (S.nb + (i - c.nb) + 1) := fun i h1 h2 => by
    subst hm'
    unfold Mt.img
    have : Nat.blt i m.b0 = false := by
      cases h : Nat.blt i m.b0
      · rfl
      · have := (blt_iff _ _).1 h; omega
    simp only [this, cond_false]
    rw [rebinds_get, if_pos (by omega)]
  have img_lt : ∀ i j, m.img i = some (j + 1) → i < c.nb → j < S.nb := fun i j hi _ => by
    unfold Mt.img at hi
    cases hlt : Nat.blt i m.b0
    · rw [hlt] at hi
      have := hset i (j + 1) hi
      omega
    · rw [hlt] at hi
      simp only [cond_true, Option.some.injEq] at hi
      have := (blt_iff _ _).1 hlt
      omega
  have hFB : FitsB m' (backSig S.nb c.nb (post.nb - c.nb) σ τ') τ' := by
    refine ⟨fun b hb => ?_, fun t k hk => ?_⟩
    · have hb' : b < m.b0 := by subst hm'; exact hb
      rw [hbk b (by omega), hstep.ext b (by omega)]
      exact (Mt.sg_fits M.wf σ).base b hb'
    · subst hm'
      dsimp only at hk
      rw [rebinds_get] at hk
      split at hk
      · rename_i ht
        simp only [Option.some.injEq] at hk
        subst hk
        simp only [imgS]
        rw [hbn _ (by omega)]
        congr 1; omega
      · have ht1 := (M.wf.be t k hk).2
        rw [hstep.ext t (by omega), (Mt.sg_fits M.wf σ).be t k hk]
        cases k with
        | zero => rfl
        | succ j => simp only [imgS]; rw [hbk j (by have := hset t (j + 1) hk; omega)]
  have hext : σ.ext (backSig S.nb c.nb (post.nb - c.nb) σ τ') := fun b hb => by
    rcases Nat.lt_or_ge b S.nb with h | h
    · exact hbk b h
    · exact absurd (hR.full b h) hb
  -- types stay
  have hty : ∀ b, TyV (backSig S.nb c.nb (post.nb - c.nb) σ τ') w' b (blk S.heap b) := fun b u cc n X U fr hu hσ hc => by
    have hal : Alive S.heap b := fun h0 => by rw [h0] at hu; cases hu
    have hbS : b < S.nb := by
      rcases Nat.lt_or_ge b S.nb with h | h
      · exact h
      · exact absurd (hR.full b h) (hR.sg hal)
    rw [hbk b hbS] at hσ
    have hB := (hR.rel b).self
    have hty0 : ∀ X U fr, w.heap[cc]? = some (.cells X U fr) → u = 0 ∨ u = U := fun X U fr hc0 => BlkD.tyv hB u cc n X U fr hu hσ hc0
    -- the row was there
    have hcell : ∃ X0 U0 fr0, w.heap[cc]? = some (.cells X0 U0 fr0) := by
      rw [hσ] at hB
      cases hx : blk S.heap b <;> rw [hx] at hu hB <;> simp only [blkType] at hu <;> first | (cases hu; done) | skip
      · obtain ⟨vs, more, ⟨U0, fr0, h0, _⟩, _⟩ := hB; exact ⟨_, _, _, h0⟩
      · obtain ⟨vs, more, ⟨U0, fr0, h0, _⟩, _⟩ := hB; exact ⟨_, _, _, h0⟩
      · obtain ⟨vs, more, ⟨U0, fr0, h0, _⟩, _⟩ := hB; exact ⟨_, _, _, h0⟩
    obtain ⟨X0, U0, fr0, hc0⟩ := hcell
    obtain ⟨X1, fr1, hc1, _⟩ := hstep.shp cc X0 U0 fr0 hc0
    rw [hc] at hc1
    cases hc1
    exact hty0 X0 U fr0 hc0
  have hput' := putHeap_sound hfit hFB hmok (fun i => (hR'.rel i).self) hput hty
  -- a block that is left alone
  have alone : ∀ b, (∀ k, 0 ≤ k → k < 0 + post.nb → actB c.heap post.heap k = true → m'.img k ≠ some (b + 1)) → Alive S.heap b → ∀ cc n, σ b = .at_ cc n → ¬ Own c.heap (m.sg σ) cc := fun b hno hal cc n hσ ho => by
    obtain ⟨k, nk, hka, hkc⟩ := ho
    obtain ⟨j, hj1, hj2, hj3⟩ := M.at hs hR hka hkc
    have hjb := hR.inj j b cc nk n hj2 hal hj3 hσ
    subst hjb
    have hk : k < c.nb := by
      rcases Nat.lt_or_ge k c.nb with h | h
      · exact h
      · have := hRt.full k h
        rw [this] at hkc; cases hkc
    exact hno k (Nat.zero_le _) (by omega) (by unfold actB; rw [alive_to hka]; rfl) (by rw [img_old k hk]; exact hj1)
  have live : ∀ b, Alive S.heap b → b < S.nb := fun b hal => by
    rcases Nat.lt_or_ge b S.nb with h | h
    · exact h
    · exact absurd (hR.full b h) (hR.sg hal)
  have tmpl : ∀ k b, actB c.heap post.heap k = true → m'.img k = some (b + 1) → backSig S.nb c.nb (post.nb - c.nb) σ τ' b = τ' k := fun k b _ hi => by
    rw [img_fit hFB hi]; rfl
  refine ⟨hFB, ⟨by omega, fun b hb => hbk b hb, hstep.size, fun cc hc ho => hstep.fr cc hc fun ho' => ho (M.own hs hR ho'), fun cc hc ho => ?_, hstep.shp, fun cc X0 U0 fr0 hc0 ho => ?_, hstep.io⟩, ⟨fun b hb => ?_, fun b => ?_, fun b b' cc n n' ha ha' hb hb' => ?_, fun g hg ha => ?_⟩⟩
  · obtain ⟨b, n, ha, hb⟩ := ho
    rcases hput' b with ⟨e1, e2⟩ | ⟨k, _, k2, k3, k4, _, k6⟩
    · have hal : Alive S.heap b := by unfold Alive at ha ⊢; rw [e1] at ha; exact ha
      rw [hbk b (live b hal)] at hb
      exact ⟨b, n, hal, hb⟩
    · rw [tmpl k b k3 k4] at hb
      exact M.own hs hR (hstep.own cc hc ⟨k, n, k6 ha, hb⟩)
  · obtain ⟨b, n, ha, hb⟩ := ho
    rcases hput' b with ⟨e1, e2⟩ | ⟨k, _, k2, k3, k4, _, k6⟩
    · have hal : Alive S.heap b := by unfold Alive at ha ⊢; rw [e1] at ha; exact ha
      rw [hbk b (live b hal)] at hb
      exact ⟨X0, by rw [hstep.fr cc (lt_of_get hc0) (alone b e2 hal cc n hb)]; exact hc0⟩
    · rw [tmpl k b k3 k4] at hb
      exact hstep.frz cc X0 U0 fr0 hc0 ⟨k, n, k6 ha, hb⟩
  · have e1 : ¬ b < S.nb := by omega
    have e2 : ¬ b < S.nb + (post.nb - c.nb) := by omega
    simp [backSig, e1, e2]
  · rcases hput' b with ⟨e1, e2⟩ | ⟨k, _, k2, k3, k4, k5, k6⟩
    · rw [e1]
      by_cases hal : Alive S.heap b
      · rw [hbk b (live b hal)]
        intro η hη
        have h0 := ((hR.rel b).mono hpq η hη).ext hext
        refine BlkD.world h0 fun cc n hc => ?_
        have hlt : cc < w.heap.size := hR.own_lt ⟨b, n, hal, hc⟩
        exact hstep.fr cc hlt (alone b e2 hal cc n hc)
      · have : blk S.heap b = .dead := Classical.not_not.1 hal
        rw [this]
        exact fun η _ => by cases backSig S.nb c.nb (post.nb - c.nb) σ τ' b <;> trivial
    · exact k5
  · rcases hput' b with ⟨e1, e2⟩ | ⟨k, _, k2, k3, k4, k5, k6⟩ <;> rcases hput' b' with ⟨f1, f2⟩ | ⟨l, _, l2, l3, l4, l5, l6⟩
    · have hal : Alive S.heap b := by unfold Alive at ha ⊢; rw [e1] at ha; exact ha
      have hal' : Alive S.heap b' := by unfold Alive at ha' ⊢; rw [f1] at ha'; exact ha'
      rw [hbk b (live b hal)] at hb
      rw [hbk b' (live b' hal')] at hb'
      exact hR.inj b b' cc n n' hal hal' hb hb'
    · exfalso
      have hal : Alive S.heap b := by unfold Alive at ha ⊢; rw [e1] at ha; exact ha
      rw [hbk b (live b hal)] at hb
      rw [tmpl l b' l3 l4] at hb'
      have hlt := hR.own_lt ⟨b, n, hal, hb⟩
      exact alone b e2 hal cc n hb (hstep.own cc hlt ⟨l, n', l6 ha', hb'⟩)
    · exfalso
      have hal' : Alive S.heap b' := by unfold Alive at ha' ⊢; rw [f1] at ha'; exact ha'
      rw [hbk b' (live b' hal')] at hb'
      rw [tmpl k b k3 k4] at hb
      have hlt := hR.own_lt ⟨b', n', hal', hb'⟩
      exact alone b' f2 hal' cc n' hb' (hstep.own cc hlt ⟨k, n, k6 ha, hb⟩)
    · rw [tmpl k b k3 k4] at hb
      rw [tmpl l b' l3 l4] at hb'
      have := hR'.inj k l cc n n' (k6 ha) (l6 ha') hb hb'
      subst this
      rw [k4] at l4
      simp only [Option.some.injEq] at l4
      omega
  · rcases hput' g with ⟨e1, e2⟩ | ⟨k, _, k2, k3, k4, k5, k6⟩
    · have hal : Alive S.heap g := by unfold Alive at ha ⊢; rw [e1] at ha; exact ha
      rw [hbk g (live g hal)]
      exact hR.glob g hg hal
    · have hkc : k < c.nb := by
        rcases Nat.lt_or_ge k c.nb with h | h
        · exact h
        · rw [img_new k h (by omega)] at k4
          simp only [Option.some.injEq] at k4
          omega
      have hka : Alive c.heap k := alive_of (noRise_sound hpw.2.2 k (Nat.zero_le _) (by omega) (alive_to (k6 ha)))
      obtain ⟨j, hj1, hj2, _⟩ := M.blk hs hR hka
      rw [img_old k hkc, hj1] at k4
      cases k4
      rw [hbk g (by omega)]
      exact hR.glob g hg (hj2 g rfl)
theorem use_sound {f : FuncId} {c : Contract} (hcs : CSound P f c) (hwf : c.wf = true) {args : List AV} {S : St} {outs : Outs} (h : useContract c args S = .ok outs) (h8 : 8 ≤ S.nb) {p : Pt} (hs : Sat p S.ctx)
    (hex : ∃ σ w, ∃ vs : Array Value, (p.All fun η => DenVs η σ args vs.toList) ∧ RelH p σ S.heap S.nb w) :
    ∃ o ∈ outs, ∃ q, p.le q ∧ Sat q o.2.1 ∧ ∀ σ w (vs : Array Value), (p.All fun η => DenVs η σ args vs.toList) → RelH p σ S.heap S.nb w →
      (callFunc f vs).run P w = .ok (.enter f vs) w ∧ Calls P f vs w fun e w' => ∃ v, e = .returned v ∧ Goes q S.nb σ S.heap w ⟨o.2.1, o.1, o.2.2.1, o.2.2.2⟩ v w' := by
  simp only [Contract.wf, Bool.and_eq_true, ble_iff] at hwf
  obtain ⟨⟨⟨w8, wb⟩, wk⟩, wp⟩ := hwf
  unfold useContract at h
  obtain ⟨m1, hm1, h⟩ := R.bind_ok h
  obtain ⟨m, hm, h⟩ := R.bind_ok h
  obtain ⟨hc, h⟩ := bif_ok h
  obtain ⟨_, hbo, h⟩ := R.bind_ok h
  obtain ⟨_, hfa, h⟩ := R.bind_ok h
  simp only [Bool.and_eq_true, ble_iff, Mt.settled] at hc
  obtain ⟨⟨hap, hb0⟩, hst, hsb⟩ := hc
  have s1 := (mAVs_sound hm1 []).1
  obtain ⟨s2, e2⟩ := mHeap_sound hm
  have hst12 := s1.trans s2
  have en0 : m.n0 = 0 := hst12.le.n0
  have en1 : m.n1 = c.n := hst12.le.n1
  have eb0 : m.b0 = c.b0 := hst12.le.b0
  have eb1 : m.b1 = c.nb := hst12.le.b1
  have M : Matched S.ctx S.heap m c.heap := ⟨hst12.wf (Mt.wf0 _ _ _ _), by omega, by omega, by omega, by rw [eb1]; exact wk, ⟨m1, by rw [eb1]; exact hm⟩, by rw [eb1]; exact hap⟩
  have hsr : Sat (m.pt p) c.ctx := contract_sat M en1 hs hbo hfa
  have hargs : ∀ {σ} {vs : Array Value}, (p.All fun η => DenVs η σ args vs.toList) → (m.pt p).All fun ζ => DenVs ζ (m.sg σ) c.args vs.toList := fun {σ vs} hd ζ hζ => by
    have := ((mAVs_sound hm1 vs.toList).2 p.η σ hd.self).2 ζ (m.sg σ) hs.says ((M.fits p ζ hζ).of_le s2.le) ((Mt.sg_fits M.wf σ).of_le s2.le)
    exact this
  have hrel : ∀ {σ w}, RelH p σ S.heap S.nb w → RelH (m.pt p) (m.sg σ) c.heap c.nb w := fun {σ w} hR => by
    have := M.rel hs hR
    rw [eb1] at this; exact this
  obtain ⟨post, hpm, r', hr', hrn, hbnd, hfct, hcall⟩ := hcs (m.pt p) hsr (by
    obtain ⟨σ, w, vs, hd, hR⟩ := hex
    exact ⟨m.sg σ, w, vs, hargs hd, hrel hR⟩)
  obtain ⟨pw1, pw2, pw3, pw4⟩ := postsWf_mem wp hpm
  obtain ⟨a, ha, hsub⟩ := usePosts_mem h hpm
  unfold usePost at ha
  generalize hm' : (⟨m.n0, m.n1, m.b0, m.b1, Mt.renames (post.n - c.n) c.n S.ctx.n m.th, Mt.rebinds (post.nb - c.nb) c.nb S.nb m.be⟩ : Mt) = m' at ha
  dsimp only at ha
  obtain ⟨o, ho, ha⟩ := R.bind_ok ha
  have hpq : p.le (backPt S.ctx.n c.n (post.n - c.n) p r') := backPt_le hs.1
  have hth : ∀ a x, m.th.get a = some x → a < c.n ∧ Mt.tbLt S.ctx.n x = true := fun a x hx => by
    have hw := M.wf.th a x hx
    exact ⟨by omega, tbsLt_sound hst hw.1 (by omega) hx⟩
  have hfitr : Fits m p.η r'.η := (M.fits p r'.η (hr'.agr))
  have hfit : (backPt S.ctx.n c.n (post.n - c.n) p r').All fun η => Fits m' η r'.η := fun η hη => by
    refine ⟨fun b hb => ?_, fun b x hx => ?_⟩
    · have : b < m.n0 := by subst hm'; exact hb
      omega
    · subst hm'
      dsimp only at hx
      rw [renames_get] at hx
      split at hx
      · rename_i hb
        cases hx
        have := backPt_new (S := S.ctx.n) (c := c.n) (n := post.n - c.n) (p := p) (r := r') (k := b - c.n) (by omega) hη
        rw [show c.n + (b - c.n) = b by omega] at this
        exact this
      · obtain ⟨h1, h2⟩ := hth b x hx
        refine TBd.congr (Va.agr_trans hpq.agr (Va.agr_mono hpq.n hη)) ?_ (hfitr.th b x hx)
        rw [hs.1]; exact h2
  have hmok : ∀ {σ w} {vs : Array Value}, (p.All fun η => DenVs η σ args vs.toList) → RelH p σ S.heap S.nb w → (backPt S.ctx.n c.n (post.n - c.n) p r').All fun η => m'.MOk η := fun {σ w vs} hd hR η hη => by
    have hη' : Va.agr p.n p.η η := Va.agr_trans hpq.agr (Va.agr_mono hpq.n hη)
    have k1 : m1.MOk η := ((mAVs_sound hm1 vs.toList).2 η σ (hd η hη')).1 (Mt.ok0 _ _ _ _ _)
    have k2 : m.MOk η := (e2 η σ w (fun b => hR.rel b η hη') (hs.2 η hη')).1 k1
    subst hm'
    intro b x hx
    dsimp only at hx
    rw [renames_get] at hx
    split at hx
    · cases hx; trivial
    · exact k2 b x hx
  -- the context behind
  have hsat0 : Sat (backPt S.ctx.n c.n (post.n - c.n) p r') ⟨S.ctx.n + (post.n - c.n), Mt.addBnds c.n S.ctx.n post.bnds S.ctx.bnd, S.ctx.facts, S.ctx.quo⟩ := by
    refine ⟨rfl, fun η hη => ?_⟩
    have hsy := hs.2.mono hpq η hη
    refine ⟨fun k lo hi hg => ?_, hsy.facts, hsy.quo⟩
    rcases addBnds_get hg with ⟨b, h1, h2, h3⟩ | h1
    · obtain ⟨_, g2, g3, g4⟩ := hbnd b lo hi h1
      have := (backPt_new (S := S.ctx.n) (c := c.n) (n := post.n - c.n) (p := p) (r := r') (k := b - c.n) (by omega) hη).1
      rw [show c.n + (b - c.n) = b by omega, ← h3] at this
      rw [← this]; exact ⟨g3, g4⟩
    · exact hsy.bnd k lo hi h1
  obtain ⟨Ψ, rfl, hsatΨ⟩ := addFacts_sound hfit ho hsat0 hfct
  dsimp only at ha
  obtain ⟨v, hv, ha⟩ := R.bind_ok ha
  obtain ⟨h1, hh1, ha⟩ := R.bind_ok ha
  cases ha
  refine ⟨_, hsub _ (List.mem_singleton.2 rfl), backPt S.ctx.n c.n (post.n - c.n) p r', hpq, hsatΨ, fun σ w vs hd hR => ?_⟩
  obtain ⟨c1, c2⟩ := hcall (m.sg σ) w vs (hargs hd) (hrel hR)
  refine ⟨c1, Calls.mono c2 fun e w' he => ?_⟩
  obtain ⟨x, rfl, τ', hstep, hx, hR'⟩ := he
  refine ⟨x, rfl, backSig S.nb c.nb (post.nb - c.nb) σ τ', ?_⟩
  obtain ⟨b1, b2, b3⟩ := back_sound M hs eb1 (by omega) (fun t k hk => by
    have hw := M.wf.be t k hk
    exact besLe_sound hsb hw.1 (by omega) hk) hm'.symm h8 ⟨pw2, pw3, pw4⟩ hpq hfit (hmok hd hR) hR hstep hR' hh1
  exact ⟨b2, fun η hη => rAV_sound (hfit η hη) b1 (hmok hd hR η hη) hv hx.self, b3⟩
end
end Go.Hal
namespace Go.Hal
noncomputable section
open Go
variable {P : Program}

/-- a round of a loop, and what comes behind -/
def LoopWp (P : Program) (c : Code) (Q : Exit → Act → World → Prop) (a : Act) (w : World) : Prop :=
  ∀ (b : Frame) (k : List Item) (cs : List Frame), ∃ e a' w', Q e a' w' ∧ Arrives P (lone (b.at a (.code c :: .inLoop c :: k)) cs w) b k cs e a' w'
theorem LoopWp.wp {c : Code} {Q : Exit → Act → World → Prop} {a : Act} {w : World} (h : LoopWp P c Q a w) : (Code.loop c).wp P Q a w := fun b k cs => by
  obtain ⟨e, a', w', hq, harr⟩ := h b k cs
  exact ⟨e, a', w', hq, .of_steps (.one step_loop) harr⟩
theorem LoopWp.round {c : Code} {Q : Exit → Act → World → Prop} {a : Act} {w : World} (h : c.wp P (Exit.then (LoopWp P c Q) Q) a w) : LoopWp P c Q a w := fun b k cs => by
  obtain ⟨e, a₁, w₁, hq, harr⟩ := h b (.inLoop c :: k) cs
  cases e with
  | normal =>
    obtain ⟨e₂, a₂, w₂, hq₂, harr₂⟩ := hq b k cs
    exact ⟨e₂, a₂, w₂, hq₂, .of_steps (Steps.trans harr (.one step_inLoop)) harr₂⟩
  | exit id => exact ⟨_, a₁, w₁, hq, .pass (x := .inLoop c) rfl (fun _ _ => .inl (by simp)) harr⟩
  | goto l => exact ⟨_, a₁, w₁, hq, .pass (x := .inLoop c) rfl (fun _ _ => .inl (by simp)) harr⟩
  | ret => exact ⟨_, a₁, w₁, hq, .pass (x := .inLoop c) rfl (fun _ _ => .inl (by simp)) harr⟩
  | panic ch => exact ⟨_, a₁, w₁, hq, .pass (x := .inLoop c) rfl (fun _ _ => .inl (by simp)) harr⟩
  | outgrown => exact ⟨_, a₁, w₁, hq, .pass (x := .inLoop c) rfl (fun _ _ => .inl (by simp)) harr⟩
/-- code; a loop from its first round on -/
def CodeWp (P : Program) (c : Code) (Q : Exit → Act → World → Prop) (a : Act) (w : World) : Prop :=
  match c with
  | .loop body => LoopWp P body Q a w
  | c => c.wp P Q a w
theorem CodeWp.wp {c : Code} {Q : Exit → Act → World → Prop} {a : Act} {w : World} (h : CodeWp P c Q a w) : c.wp P Q a w := by
  unfold CodeWp at h
  split at h
  · exact h.wp
  · exact h
theorem CodeWp.of {c : Code} (hc : ∀ body, c ≠ .loop body) {Q : Exit → Act → World → Prop} {a : Act} {w : World} (h : c.wp P Q a w) : CodeWp P c Q a w := by
  unfold CodeWp
  split
  · exact absurd rfl (hc _)
  · exact h
def exitOf : AExit → Exit
  | .normal => .normal
  | .exit id => .exit id
  | .ret => .ret
def LeadsE (p : Pt) (st : St) (q : Pt) (e : AExit) (st' : St) (F : (Exit → Act → World → Prop) → Act → World → Prop) : Prop :=
  p.le q ∧ Sat q st'.ctx ∧ st'.nt = st.nt ∧ 8 ≤ st'.nb ∧ (∃ σ w a, Rel q σ st' a w) ∧
    ∀ σ w a, Rel p σ st a w → ∀ Q : Exit → Act → World → Prop, (∀ σ' w' a', Step st.nb σ st.heap w st'.nb σ' st'.heap w' → Rel q σ' st' a' w' → Q (exitOf e) a' w') → F Q a w

/-! The disjuncts. -/
theorem mTmps_sound {Φ : Ctx} {T S : Tr AV} : ∀ {n : Nat} {m m' : Mt}, mTmps Φ T S n m = .ok m' → MStep m m' ∧ ∀ η σ (x : Nat → Value), (∀ k, k < n → DenV η σ (getT S k) (x k)) → (m.MOk η → m'.MOk η) ∧ ∀ ζ τ, Φ.Says η.int → Fits m' η ζ → FitsB m' σ τ → ∀ k, k < n → DenV ζ τ (getT T k) (x k)
  | 0, m, m', h => by cases h; exact ⟨.refl _, fun η σ x _ => ⟨id, fun ζ τ _ _ _ k hk => by omega⟩⟩
  | n + 1, m, m', h => by
    simp only [mTmps] at h
    obtain ⟨m1, h1, h⟩ := R.bind_ok h
    obtain ⟨s1, e1⟩ := mTmps_sound h1
    split at h
    · rename_i hT
      cases h
      refine ⟨s1, fun η σ x hx => ?_⟩
      obtain ⟨g1, e1⟩ := e1 η σ x fun k hk => hx k (by omega)
      refine ⟨g1, fun ζ τ hs hf hb k hk => ?_⟩
      by_cases hkn : k = n
      · subst hkn
        unfold getT
        rw [hT]; trivial
      · exact e1 ζ τ hs hf hb k (by omega)
    · rename_i t hT
      split at h
      · rename_i m2 hm2
        cases h
        refine ⟨s1.trans (mAV_sound hm2 default).1, fun η σ x hx => ?_⟩
        obtain ⟨g1, e1⟩ := e1 η σ x fun k hk => hx k (by omega)
        obtain ⟨g2, e2⟩ := (mAV_sound hm2 (x n)).2 η σ (hx n (by omega))
        have hle := (mAV_sound hm2 default).1.le
        refine ⟨fun hm => g2 (g1 hm), fun ζ τ hs hf hb k hk => ?_⟩
        by_cases hkn : k = n
        · subst hkn
          have : getT T k = t := by unfold getT; rw [hT]
          rw [this]
          exact e2 ζ τ hs hf hb
        · exact e1 ζ τ hs (hf.of_le hle) (hb.of_le hle) k (by omega)
      · cases h
/-- a disjunct is made of its base -/
structure GenOk (base : St) (γ : Gen) : Prop where
  ctx : γ.g.ctx = ⟨γ.g.ctx.n, setBnds γ.bnds base.ctx.bnd, γ.facts ++ base.ctx.facts, base.ctx.quo⟩
  nt : γ.g.nt = base.nt
theorem mkGen_ok {base : St} {slots : List Nat} {d : Disj} {γ : Gen} (h : mkGen base slots d = .ok γ) : GenOk base γ := by
  unfold mkGen at h
  obtain ⟨g, hg, h⟩ := R.bind_ok h
  obtain ⟨μ, hμ, h⟩ := R.bind_ok h
  cases h
  exact ⟨rfl, rfl⟩
theorem mapL_mem {α β : Type} {f : α → R β} : ∀ {l : List α} {r : List β}, R.mapL f l = .ok r → ∀ y ∈ r, ∃ x ∈ l, f x = .ok y
  | [], r, h, y, hy => by cases h; cases hy
  | a :: l, r, h, y, hy => by
    simp only [R.mapL] at h
    obtain ⟨b, hb, h⟩ := R.bind_ok h
    obtain ⟨c, hc, h⟩ := R.bind_ok h
    cases h
    rcases List.mem_cons.1 hy with rfl | hy
    · exact ⟨a, List.mem_cons_self, hb⟩
    · obtain ⟨x, h1, h2⟩ := mapL_mem hc y hy
      exact ⟨x, List.mem_cons_of_mem _ h1, h2⟩
/-- a state that comes to a disjunct -/
theorem fitsGen_sound {base S : St} {γ : Gen} {m : Mt} (h : fitsGen base γ S = .ok m) (hγ : GenOk base γ) (h8 : 8 ≤ base.nb) {pb q : Pt} (hpb : Sat pb base.ctx) (hle : pb.le q) (hs : Sat q S.ctx) :
    pb.le (m.pt q) ∧ Sat (m.pt q) γ.g.ctx ∧ base.nb ≤ γ.g.nb ∧ (∀ ζ, Va.agr (m.pt q).n (m.pt q).η ζ → Fits m q.η ζ) ∧ (∀ σ w a, Rel q σ S a w → Rel (m.pt q) (m.sg σ) γ.g a w) ∧
      ∀ σ0 w0 σ w a, Rel q σ S a w → Step base.nb σ0 base.heap w0 S.nb σ S.heap w → Step base.nb σ0 base.heap w0 γ.g.nb (m.sg σ) γ.g.heap w := by
  unfold fitsGen at h
  obtain ⟨hc, h⟩ := bif_ok h
  simp only [Bool.and_eq_true, beq_iff, ble_iff] at hc
  obtain ⟨⟨⟨⟨hnt, hn⟩, hnb⟩, hk⟩, hkt⟩ := hc
  obtain ⟨m1, hm1, h⟩ := R.bind_ok h
  obtain ⟨m2, hm2, h⟩ := R.bind_ok h
  obtain ⟨hap, h⟩ := bif_ok h
  obtain ⟨_, hbo, h⟩ := R.bind_ok h
  obtain ⟨_, hfa, h⟩ := R.bind_ok h
  cases h
  obtain ⟨s1, e1⟩ := mTmps_sound hm1
  obtain ⟨s2, e2⟩ := mHeap_sound hm2
  have hst := s1.trans s2
  have en0 : m.n0 = base.ctx.n := hst.le.n0
  have en1 : m.n1 = γ.g.ctx.n := hst.le.n1
  have eb0 : m.b0 = base.nb := hst.le.b0
  have eb1 : m.b1 = γ.g.nb := hst.le.b1
  have M : Matched S.ctx S.heap m γ.g.heap := ⟨hst.wf (Mt.wf0 _ _ _ _), by omega, by omega, by omega, by rw [eb1]; exact hk, ⟨m1, by rw [eb1]; exact hm2⟩, by rw [eb1]; exact hap⟩
  have hfits := M.fits q
  have hple : pb.le (m.pt q) := by
    refine ⟨by show pb.n ≤ m.n1; rw [hpb.1]; omega, Va.agr_trans hle.agr ?_⟩
    have := (Mt.va_fits M.wf q.η).base
    rw [en0, ← hpb.1] at this
    exact this
  refine ⟨hple, ⟨?_, fun ζ hζ => ?_⟩, hnb, hfits, fun σ w a hr => ?_, fun σ0 w0 σ w a hr hstep => ?_⟩
  · show m.n1 = γ.g.ctx.n
    exact en1
  · have hbs := hpb.2.mono hple ζ hζ
    have hf := hfits ζ hζ
    rw [hγ.ctx]
    refine ⟨fun a lo hi hg => ?_, fun g e hm => ?_, hbs.quo⟩
    · rcases setBnds_get hg with hm | hm
      · exact boundsOk_sound hbo q.η ζ hs.says hf a lo hi hm
      · exact hbs.bnd a lo hi hm
    · rcases List.mem_append.1 hm with hm | hm
      · exact factsOk_sound hfa q.η ζ hs.says hf g e hm
      · exact hbs.facts g e hm
  · have hrel := M.rel hs hr.hp
    rw [eb1] at hrel
    refine ⟨fun t ζ hζ => ?_, by rw [hr.sz, hnt], hrel, hr.df⟩
    have htm := ((e1 q.η σ (fun k => a.tmps.getD k undef) fun k _ => (hr.tm k).self).2 ζ (m.sg σ) hs.says ((hfits ζ hζ).of_le s2.le) ((Mt.sg_fits M.wf σ).of_le s2.le))
    by_cases ht : t < γ.g.nt
    · exact htm t ht
    · have : getT γ.g.tmps t = .sc .any := by
        unfold getT
        cases hg : γ.g.tmps.get t with
        | none => rfl
        | some x => have := Tr.keysLt_sound hkt hg; omega
      rw [this]; trivial
  · refine ⟨hnb, fun b hb => ?_, hstep.size, hstep.fr, fun c hcc ho => hstep.own c hcc (M.own hs hr.hp ho), hstep.shp, fun c X0 U0 fr0 hc0 ho => hstep.frz c X0 U0 fr0 hc0 (M.own hs hr.hp ho), hstep.io⟩
    rw [← hstep.ext b hb]
    exact (Mt.sg_fits M.wf σ).base b (by omega)
theorem tryGens_ok {base S : St} {μ : Option Lin} : ∀ {gens : List Gen} {k i : Nat}, tryGens base S μ gens k = .ok i → ∃ γ m, k ≤ i ∧ gens[i - k]? = some γ ∧ fitsGen base γ S = .ok m ∧ ∀ μ0, μ = some μ0 → ∃ ν, m.subLin γ.meas = .ok ν ∧ S.ctx.ge0 ((μ0.sub ν).addc (-1)) = true
  | γ :: r, k, i, h => by
    simp only [tryGens] at h
    split at h
    · rename_i u hu
      cases h
      obtain ⟨m, hm, hu⟩ := R.bind_ok hu
      refine ⟨γ, m, Nat.le_refl _, by simp, hm, fun μ0 hμ => ?_⟩
      subst hμ
      obtain ⟨ν, hν, hu⟩ := R.bind_ok hu
      exact ⟨ν, hν, need_ok hu⟩
    · split at h
      · rename_i j hj
        cases h
        obtain ⟨γ', m, h1, h2, h3⟩ := tryGens_ok hj
        refine ⟨γ', m, by omega, ?_, h3⟩
        rw [show i - k = (i - (k + 1)) + 1 by omega]
        simpa using h2
      · cases h
theorem loopGo_spec {one : Nat → R (List Nat × Es)} : ∀ {n : Nat} {todo seen : List Nat} {outs : Es}, loopGo one n todo seen = .ok outs → ∃ V : List Nat, (∀ i ∈ todo, i ∈ V ∨ i ∈ seen) ∧ ∀ i ∈ V, ∃ p, one i = .ok p ∧ (∀ o ∈ p.2, o ∈ outs) ∧ ∀ j ∈ p.1, j ∈ V ∨ j ∈ seen
  | n + 1, [], seen, outs, h => by cases h; exact ⟨[], ⟨(fun i hi => by cases hi), (fun i hi => by cases hi)⟩⟩
  | n + 1, i :: todo, seen, outs, h => by
    simp only [loopGo] at h
    cases hs : Mt.memN i seen
    · rw [hs] at h
      simp only [cond_false] at h
      obtain ⟨p, hp, h⟩ := R.bind_ok h
      obtain ⟨r, hr, h⟩ := R.bind_ok h
      cases h
      obtain ⟨V, h1, h2⟩ := loopGo_spec hr
      have hcase : ∀ j, j ∈ V ∨ j ∈ i :: seen → j ∈ i :: V ∨ j ∈ seen := fun j hj => by
        rcases hj with hj | hj
        · exact .inl (List.mem_cons_of_mem _ hj)
        · rcases List.mem_cons.1 hj with rfl | hj
          · exact .inl List.mem_cons_self
          · exact .inr hj
      refine ⟨i :: V, fun j hj => ?_, fun j hj => ?_⟩
      · rcases List.mem_cons.1 hj with rfl | hj
        · exact .inl List.mem_cons_self
        · exact hcase j (h1 j (List.mem_append_right _ hj))
      · rcases List.mem_cons.1 hj with rfl | hj
        · exact ⟨p, hp, fun o ho => List.mem_append_left _ ho, fun k hk => hcase k (h1 k (List.mem_append_left _ hk))⟩
        · obtain ⟨p', q1, q2, q3⟩ := h2 j hj
          exact ⟨p', q1, fun o ho => List.mem_append_right _ (q2 o ho), fun k hk => hcase k (q3 k hk)⟩
    · rw [hs] at h
      obtain ⟨V, h1, h2⟩ := loopGo_spec (n := n) h
      refine ⟨V, fun j hj => ?_, h2⟩
      rcases List.mem_cons.1 hj with rfl | hj
      · exact .inr (memN_iff.1 hs)
      · exact h1 j hj
theorem rounds_mem {base : St} {gens : List Gen} {μ : Lin} : ∀ {outs : Es} {r : List Nat × Es}, rounds base gens μ outs = .ok r → ∀ e s, (e, s) ∈ outs → (e = .normal ∧ ∃ j, tryGens base s (some μ) gens 0 = .ok j ∧ j ∈ r.1) ∨ (e ≠ .normal ∧ (e, s) ∈ r.2)
  | [], r, h, e, s, hm => by cases hm
  | (.normal, s0) :: l, r, h, e, s, hm => by
    simp only [rounds] at h
    obtain ⟨j, hj, h⟩ := R.bind_ok h
    obtain ⟨p, hp, h⟩ := R.bind_ok h
    cases h
    rcases List.mem_cons.1 hm with hm | hm
    · cases hm; exact .inl ⟨rfl, j, hj, List.mem_cons_self⟩
    · rcases rounds_mem hp e s hm with ⟨h1, j', h2, h3⟩ | h1
      · exact .inl ⟨h1, j', h2, List.mem_cons_of_mem _ h3⟩
      · exact .inr h1
  | (.exit id, s0) :: l, r, h, e, s, hm => by
    simp only [rounds] at h
    obtain ⟨p, hp, h⟩ := R.bind_ok h
    cases h
    rcases List.mem_cons.1 hm with hm | hm
    · cases hm; exact .inr ⟨by simp, List.mem_cons_self⟩
    · rcases rounds_mem hp e s hm with h1 | ⟨h1, h2⟩
      · exact .inl h1
      · exact .inr ⟨h1, List.mem_cons_of_mem _ h2⟩
  | (.ret, s0) :: l, r, h, e, s, hm => by
    simp only [rounds] at h
    obtain ⟨p, hp, h⟩ := R.bind_ok h
    cases h
    rcases List.mem_cons.1 hm with hm | hm
    · cases hm; exact .inr ⟨by simp, List.mem_cons_self⟩
    · rcases rounds_mem hp e s hm with h1 | ⟨h1, h2⟩
      · exact .inl h1
      · exact .inr ⟨h1, List.mem_cons_of_mem _ h2⟩
end
end Go.Hal
namespace Go.Hal
noncomputable section
open Go
variable {P : Program}

/-- what regions of an open order come to -/
def DrawOk (P : Program) (env : Env) : Prop := ∀ (callF : CallF), CallOk P callF → ∀ (id : Nat) (ops : Array Oper) (st : St) (outs : List St), runRegion env callF ops true st = .ok outs → ∀ p, Sat p st.ctx → 8 ≤ st.nb → (∃ σ w a, Rel p σ st a w) →
  ∃ st' ∈ outs, ∃ q, Leads p st q st' fun Q a w => (Code.region id ops true).wp P Q a w
theorem normals_mem {l : List St} {s : St} (h : s ∈ l) : (AExit.normal, s) ∈ normals l := List.mem_map_of_mem (f := fun s => (AExit.normal, s)) h
theorem andThen_normal {f : St → R Es} : ∀ {l : Es} {r : Es} {s : St}, andThen f l = .ok r → (AExit.normal, s) ∈ l → ∃ a, f s = .ok a ∧ ∀ o ∈ a, o ∈ r
  | (.normal, s0) :: l, r, s, h, hm => by
    simp only [andThen] at h
    obtain ⟨a, ha, h⟩ := R.bind_ok h
    obtain ⟨b, hb, h⟩ := R.bind_ok h
    cases h
    rcases List.mem_cons.1 hm with hm | hm
    · cases hm; exact ⟨a, ha, fun o ho => List.mem_append_left _ ho⟩
    · obtain ⟨a', h1, h2⟩ := andThen_normal hb hm
      exact ⟨a', h1, fun o ho => List.mem_append_right _ (h2 o ho)⟩
  | (.exit id, s0) :: l, r, s, h, hm => by
    simp only [andThen] at h
    obtain ⟨b, hb, h⟩ := R.bind_ok h
    cases h
    rcases List.mem_cons.1 hm with hm | hm
    · cases hm
    · obtain ⟨a', h1, h2⟩ := andThen_normal hb hm
      exact ⟨a', h1, fun o ho => List.mem_cons_of_mem _ (h2 o ho)⟩
  | (.ret, s0) :: l, r, s, h, hm => by
    simp only [andThen] at h
    obtain ⟨b, hb, h⟩ := R.bind_ok h
    cases h
    rcases List.mem_cons.1 hm with hm | hm
    · cases hm
    · obtain ⟨a', h1, h2⟩ := andThen_normal hb hm
      exact ⟨a', h1, fun o ho => List.mem_cons_of_mem _ (h2 o ho)⟩
theorem andThen_other {f : St → R Es} : ∀ {l : Es} {r : Es} {e : AExit} {s : St}, andThen f l = .ok r → e ≠ .normal → (e, s) ∈ l → (e, s) ∈ r
  | (.normal, s0) :: l, r, e, s, h, he, hm => by
    simp only [andThen] at h
    obtain ⟨a, ha, h⟩ := R.bind_ok h
    obtain ⟨b, hb, h⟩ := R.bind_ok h
    cases h
    rcases List.mem_cons.1 hm with hm | hm
    · cases hm; exact absurd rfl he
    · exact List.mem_append_right _ (andThen_other hb he hm)
  | (.exit id, s0) :: l, r, e, s, h, he, hm => by
    simp only [andThen] at h
    obtain ⟨b, hb, h⟩ := R.bind_ok h
    cases h
    rcases List.mem_cons.1 hm with hm | hm
    · cases hm; exact List.mem_cons_self
    · exact List.mem_cons_of_mem _ (andThen_other hb he hm)
  | (.ret, s0) :: l, r, e, s, h, he, hm => by
    simp only [andThen] at h
    obtain ⟨b, hb, h⟩ := R.bind_ok h
    cases h
    rcases List.mem_cons.1 hm with hm | hm
    · cases hm; exact List.mem_cons_self
    · exact List.mem_cons_of_mem _ (andThen_other hb he hm)
theorem bothWays_mem {f : Bool → St → R Es} {st : St} : ∀ {l : List (Bool × Ctx)} {r : Es} {v : Bool} {Φ : Ctx}, bothWays f st l = .ok r → (v, Φ) ∈ l → ∃ a, f v (st.atCtx Φ) = .ok a ∧ ∀ o ∈ a, o ∈ r
  | (v0, Φ0) :: l, r, v, Φ, h, hm => by
    simp only [bothWays] at h
    obtain ⟨a, ha, h⟩ := R.bind_ok h
    obtain ⟨b, hb, h⟩ := R.bind_ok h
    cases h
    rcases List.mem_cons.1 hm with hm | hm
    · cases hm; exact ⟨a, ha, fun o ho => List.mem_append_left _ ho⟩
    · obtain ⟨a', h1, h2⟩ := bothWays_mem hb hm
      exact ⟨a', h1, fun o ho => List.mem_append_right _ (h2 o ho)⟩
theorem unblock_mem {id : Nat} : ∀ {l : Es} {e : AExit} {s : St}, (e, s) ∈ l → ∃ e', (e', s) ∈ unblock id l ∧ e' = (match e with | .exit j => bif Nat.beq j id then .normal else .exit j | e => e)
  | (e0, s0) :: l, e, s, hm => by
    rcases List.mem_cons.1 hm with hm | hm
    · cases hm
      cases e0
      · exact ⟨.normal, by simp [unblock], rfl⟩
      · exact ⟨_, by simp only [unblock]; exact List.mem_cons_self, rfl⟩
      · exact ⟨.ret, by simp [unblock], rfl⟩
    · obtain ⟨e', h1, h2⟩ := unblock_mem (id := id) hm
      refine ⟨e', ?_, h2⟩
      cases e0 <;> simp only [unblock] <;> exact List.mem_cons_of_mem _ h1
theorem Leads.toE {p q : Pt} {st st' : St} {F : (Exit → Act → World → Prop) → Act → World → Prop} (h : Leads p st q st' F) : LeadsE p st q .normal st' F := h
theorem LeadsE.imp {p q : Pt} {st st' : St} {e : AExit} {F G : (Exit → Act → World → Prop) → Act → World → Prop} (h : LeadsE p st q e st' F) (hi : ∀ Q a w, F Q a w → G Q a w) : LeadsE p st q e st' G :=
  ⟨h.1, h.2.1, h.2.2.1, h.2.2.2.1, h.2.2.2.2.1, fun σ w a hr Q hQ => hi _ _ _ (h.2.2.2.2.2 σ w a hr Q hQ)⟩
theorem LeadsE.ctx {p q : Pt} {st st' : St} {e : AExit} {Φ : Ctx} {F : (Exit → Act → World → Prop) → Act → World → Prop} (h : LeadsE p (st.atCtx Φ) q e st' F) : LeadsE p st q e st' F :=
  ⟨h.1, h.2.1, h.2.2.1, h.2.2.2.1, h.2.2.2.2.1, fun σ w a hr Q hQ => h.2.2.2.2.2 σ w a ⟨hr.tm, hr.sz, hr.hp, hr.df⟩ Q hQ⟩
theorem Rel.ctx {p : Pt} {σ : Sig} {st : St} {Φ : Ctx} {a : Act} {w : World} (h : Rel p σ st a w) : Rel p σ (st.atCtx Φ) a w := ⟨h.tm, h.sz, h.hp, h.df⟩

/-! Results. -/
def resVal (a : Act) : ResultVar → Sem Value
  | .tmp t => pure (a.tmps.getD t undef)
  | .cell c t => do loadVar t (← asAddr (a.tmps.getD c undef))
theorem resultA_sound {env : Env} (hE : EnvOk P env) {st : St} {r : ResultVar} {o : AV × Ctx} (h : resultA env st r = .ok o) {p : Pt} (hs : Sat p st.ctx) (_hex : ∃ σ w a, TmpsD p σ st.tmps a ∧ RelH p σ st.heap st.nb w) :
    ∃ q, p.le q ∧ Sat q o.2 ∧ ∀ σ w a, TmpsD p σ st.tmps a → RelH p σ st.heap st.nb w → ∃ x, (resVal a r).run P w = .ok x w ∧ q.All fun η => DenV η σ o.1 x := by
  unfold resultA at h
  split at h
  · rename_i t
    cases h
    exact ⟨p, p.le_refl, hs, fun σ w a hT _ => ⟨a.tmps.getD t undef, rfl, hT t⟩⟩
  · rename_i c t
    split at h
    · rename_i ti hti
      obtain ⟨us, hus, h⟩ := R.bind_ok h
      split at h
      · rename_i u
        cases h
        obtain ⟨u', hu, q, hq, hsq, hx⟩ := loadOp_sound (P := P) hE.ty hti hus hs
        simp only [List.mem_singleton] at hu
        subst hu
        refine ⟨q, hq, hsq, fun σ w a hT hR => ?_⟩
        obtain ⟨v, h1, h2⟩ := hx σ w (a.tmps.getD c undef) (hT c) hR
        refine ⟨v, ?_, h2⟩
        cases hv : a.tmps.getD c undef with
        | pointer o => cases o with
          | none => rw [hv] at h1; simp [Instr.loadAt, Instr.sureAddr, stuck, Sem.run] at h1
          | some ad =>
            rw [hv] at h1
            simp only [Instr.loadAt, Instr.sureAddr, pure_bind] at h1
            simp only [resVal, hv, asAddr, Sem.run_bind, Sem.run_pure, Result.andThen_ok]
            exact h1
        | _ => rw [hv] at h1; simp [Instr.loadAt, Instr.sureAddr, stuck, Sem.run] at h1
      · cases h
    · cases h
theorem partOf_sound {v : AV} {o : Bool × List SV} (h : partOf v = .ok o) {η : Va} {σ : Sig} {x : Value} (hd : DenV η σ v x) : DenT η σ [o] [x] := by
  unfold partOf at h
  split at h
  · cases h
  · rename_i s hs
    cases h
    have hsa : s.isAny = false := by cases s <;> first | rfl | exact absurd rfl hs
    exact ⟨⟨s, rfl, DenV.un hsa hd⟩, trivial⟩
  · cases h
    obtain ⟨vs, h1, h2⟩ := hd
    exact ⟨⟨vs, h1, h2⟩, trivial⟩
  · cases h
theorem DenT.cons {η : Va} {σ : Sig} {o : Bool × List SV} {l : List (Bool × List SV)} {x : Value} {xs : List Value} (h : DenT η σ [o] [x]) (h' : DenT η σ l xs) : DenT η σ (o :: l) (x :: xs) := by
  obtain ⟨b, cs⟩ := o
  cases b <;> exact ⟨h.1, h'⟩
theorem resultsL_sound {env : Env} (hE : EnvOk P env) {st : St} : ∀ {rs : List ResultVar} {Φ : Ctx} {o : List (Bool × List SV) × Ctx}, resultsL env st rs Φ = .ok o → ∀ {p : Pt}, Sat p Φ → (∃ σ w a, TmpsD p σ st.tmps a ∧ RelH p σ st.heap st.nb w) →
    ∃ q, p.le q ∧ Sat q o.2 ∧ ∀ σ w a, TmpsD p σ st.tmps a → RelH p σ st.heap st.nb w → ∃ xs : List Value, xs.length = rs.length ∧ (rs.mapM (resVal a)).run P w = .ok xs w ∧ q.All fun η => DenT η σ o.1 xs
  | [], Φ, o, h, p, hs, _ => by cases h; exact ⟨p, p.le_refl, hs, fun σ w a _ _ => ⟨[], rfl, rfl, fun _ _ => trivial⟩⟩
  | r :: rs, Φ, o, h, p, hs, hex => by
    simp only [resultsL] at h
    obtain ⟨v, hv, h⟩ := R.bind_ok h
    obtain ⟨y, hy, h⟩ := R.bind_ok h
    obtain ⟨z, hz, h⟩ := R.bind_ok h
    cases h
    obtain ⟨q1, hq1, hsq1, hx1⟩ := resultA_sound hE hv (p := p) hs hex
    obtain ⟨σ0, w0, a0, hT0, hR0⟩ := hex
    obtain ⟨q2, hq2, hsq2, hx2⟩ := resultsL_sound hE hz hsq1 ⟨σ0, w0, a0, fun t => (hT0 t).mono hq1, hR0.mono hq1⟩
    refine ⟨q2, hq1.trans hq2, hsq2, fun σ w a hT hR => ?_⟩
    obtain ⟨x, h1, h2⟩ := hx1 σ w a hT hR
    obtain ⟨xs, hl, h3, h4⟩ := hx2 σ w a (fun t => (hT t).mono hq1) (hR.mono hq1)
    refine ⟨x :: xs, by simp [hl], ?_, fun η hη => DenT.cons (partOf_sound hy (h2.mono hq2 η hη)) (h4 η hη)⟩
    rw [List.mapM_cons]
    simp only [Sem.run_bind, h1, Result.andThen_ok, h3, Sem.run_pure]
theorem results_eq {fn : Func} {a : Act} {w : World} {xs : List Value} (hx : (fn.results.toList.mapM (resVal a)).run P w = .ok xs w) : (results fn a.tmps).run P w = .ok (if h : xs.toArray.size = 1 then xs.toArray[0] else .tuple xs.toArray) w := by
  have e : fn.results = fn.results.toList.toArray := by simp
  have e2 : (fn.results.mapM (resVal a)).run P w = .ok xs.toArray w := by
    rw [e, List.mapM_toArray, map_eq_pure_bind]
    simp only [Sem.run_bind, hx, Result.andThen_ok, Sem.run_pure]
  have e3 : results fn a.tmps = (do let vs ← fn.results.mapM (resVal a); return if h : vs.size = 1 then vs[0] else .tuple vs) := by
    unfold results
    rfl
  rw [e3]
  simp only [Sem.run_bind, e2, Result.andThen_ok, Sem.run_pure]
theorem resultsA_sound {env : Env} (hE : EnvOk P env) {st : St} {fn : Func} {o : AV × Ctx} (h : resultsA env st fn.results.toList = .ok o) {p : Pt} (hs : Sat p st.ctx) (hex : ∃ σ w a, TmpsD p σ st.tmps a ∧ RelH p σ st.heap st.nb w) :
    ∃ q, p.le q ∧ Sat q o.2 ∧ ∀ σ w a, TmpsD p σ st.tmps a → RelH p σ st.heap st.nb w → ∃ x, (results fn a.tmps).run P w = .ok x w ∧ q.All fun η => DenV η σ o.1 x := by
  unfold resultsA at h
  split at h
  · rename_i r hr
    obtain ⟨q, hq, hsq, hx⟩ := resultA_sound hE h hs hex
    refine ⟨q, hq, hsq, fun σ w a hT hR => ?_⟩
    obtain ⟨x, h1, h2⟩ := hx σ w a hT hR
    refine ⟨x, ?_, h2⟩
    have := results_eq (fn := fn) (a := a) (w := w) (xs := [x]) (P := P) (by rw [hr, List.mapM_cons]; simp only [Sem.run_bind, h1, Result.andThen_ok, List.mapM_nil, Sem.run_pure])
    rw [this]; rfl
  · rename_i hne
    obtain ⟨z, hz, h⟩ := R.bind_ok h
    cases h
    obtain ⟨q, hq, hsq, hx⟩ := resultsL_sound hE hz hs hex
    refine ⟨q, hq, hsq, fun σ w a hT hR => ?_⟩
    obtain ⟨xs, hl, h1, h2⟩ := hx σ w a hT hR
    have := results_eq h1
    have hl : xs.length ≠ 1 := fun h1 => by
      rw [hl] at h1
      match hr : fn.results.toList, h1 with
      | [r], _ => exact hne r hr
    rw [dif_neg (by simpa using hl)] at this
    exact ⟨_, this, fun η hη => ⟨xs, rfl, h2 η hη⟩⟩
end
end Go.Hal
namespace Go.Hal
noncomputable section
open Go
variable {P : Program}

/-- calls, as the analyser makes them -/
def callG (env : Env) (fuel : Nat) : CallF := fun g args S =>
  match env.cons g with
  | con :: more => tryAll (con :: more) args S
  | [] => match env.fns g with
    | none => .err "call: no function"
    | some fn => match fn.body with
      | none => .err "call: no body"
      | some body => bif Nat.ble (llenG args) fn.ntmps then
          (sayAt fn.name (run env fuel g 0 body (enterSt fn args S.ctx S.heap S.nb))).bind (endsOf env fn.results.toList)
        else .err "call: more arguments than slots"
theorem run_region_eq (env : Env) (fuel f cur id : Nat) (ops : Array Oper) (drawn : Bool) (st : St) :
    run env (fuel + 1) f cur (.region id ops drawn) st = (runRegion env (callG env fuel) ops drawn st).bind fun l => .ok (normals l) := rfl
theorem tryAll_ok : ∀ {l : List Contract} {args : List AV} {S : St} {outs : Outs}, tryAll l args S = .ok outs → ∃ c ∈ l, useContract c args S = .ok outs
  | c :: r, args, S, outs, h => by
    simp only [tryAll] at h
    split at h
    · rename_i l hl
      cases h
      exact ⟨c, List.mem_cons_self, hl⟩
    · split at h
      · cases h
      · split at h
        · rename_i l hl
          cases h
          obtain ⟨c', h1, h2⟩ := tryAll_ok hl
          exact ⟨c', List.mem_cons_of_mem _ h1, h2⟩
        · cases h
theorem endsOf_mem {env : Env} {rs : List ResultVar} : ∀ {l : Es} {outs : Outs} {e : AExit} {s : St}, endsOf env rs l = .ok outs → (e, s) ∈ l → (e = .normal ∨ e = .ret) ∧ ∃ o, resultsA env s rs = .ok o ∧ (o.1, o.2, s.heap, s.nb) ∈ outs
  | (.exit id, s0) :: l, outs, e, s, h, hm => by simp only [endsOf] at h; cases h
  | (.normal, s0) :: l, outs, e, s, h, hm => by
    simp only [endsOf] at h
    obtain ⟨o, ho, h⟩ := R.bind_ok h
    obtain ⟨r, hr, h⟩ := R.bind_ok h
    cases h
    rcases List.mem_cons.1 hm with hm | hm
    · cases hm
      exact ⟨.inl rfl, o, ho, List.mem_cons_self⟩
    · obtain ⟨h1, o', h2, h3⟩ := endsOf_mem hr hm
      exact ⟨h1, o', h2, List.mem_cons_of_mem _ h3⟩
  | (.ret, s0) :: l, outs, e, s, h, hm => by
    simp only [endsOf] at h
    obtain ⟨o, ho, h⟩ := R.bind_ok h
    obtain ⟨r, hr, h⟩ := R.bind_ok h
    cases h
    rcases List.mem_cons.1 hm with hm | hm
    · cases hm
      exact ⟨.inr rfl, o, ho, List.mem_cons_self⟩
    · obtain ⟨h1, o', h2, h3⟩ := endsOf_mem hr hm
      exact ⟨h1, o', h2, List.mem_cons_of_mem _ h3⟩

/-! Entering a function. -/
theorem getT_putArgs : ∀ (l : List AV) (i : Nat) (T : Tr AV) (t : Nat), getT (putArgs i l T) t = if i ≤ t ∧ t < i + l.length then l.getD (t - i) (.sc .any) else getT T t
  | [], i, T, t => by
    have : ¬ (i ≤ t ∧ t < i + 0) := by omega
    simp only [putArgs, List.length_nil, this, if_false]
  | a :: l, i, T, t => by
    simp only [putArgs, getT_putArgs l (i + 1), getT_set, List.length_cons]
    by_cases h1 : t = i
    · subst h1
      have h2 : ¬ (t + 1 ≤ t ∧ t < t + 1 + l.length) := by omega
      have h3 : t ≤ t ∧ t < t + (l.length + 1) := by omega
      rw [if_neg h2, if_pos rfl, if_pos h3]
      simp
    · by_cases h2 : i + 1 ≤ t ∧ t < i + 1 + l.length
      · have h3 : i ≤ t ∧ t < i + (l.length + 1) := by omega
        rw [if_pos h2, if_pos h3]
        obtain ⟨k, rfl⟩ : ∃ k, t = i + 1 + k := ⟨t - (i + 1), by omega⟩
        rw [show i + 1 + k - (i + 1) = k by omega, show i + 1 + k - i = k + 1 by omega]
        simp
      · have h3 : ¬ (i ≤ t ∧ t < i + (l.length + 1)) := by omega
        rw [if_neg h2, if_neg h3, if_neg h1]
theorem DenVs.length {η : Va} {σ : Sig} : ∀ {l : List AV} {vs : List Value}, DenVs η σ l vs → l.length = vs.length
  | [], [], _ => rfl
  | _ :: _, _ :: _, h => by simp [DenVs.length h.2]
theorem DenVs.getD {η : Va} {σ : Sig} : ∀ {l : List AV} {vs : List Value}, DenVs η σ l vs → ∀ i, DenV η σ (l.getD i (.sc .any)) (vs.getD i undef)
  | [], [], _, i => by simp [DenV]
  | _ :: _, _ :: _, h, 0 => by simpa using h.1
  | _ :: _, _ :: _, h, i + 1 => by simpa using DenVs.getD h.2 i
theorem llenG_eq {α : Type} : ∀ l : List α, llenG l = l.length
  | [] => rfl
  | _ :: r => by simp [llenG, llenG_eq r]
theorem enter_rel {fn : Func} {args : List AV} (hn : args.length ≤ fn.ntmps) {Φ : Ctx} {h : Tr ABlk} {nb : Nat} {p : Pt} {σ : Sig} {w : World} {vs : Array Value} (hd : p.All fun η => DenVs η σ args vs.toList) (hR : RelH p σ h nb w) :
    Rel p σ (enterSt fn args Φ h nb) ⟨vs ++ Array.replicate (fn.ntmps - vs.size) undef, []⟩ w := by
  have hl : vs.size = args.length := by rw [hd.self.length]; simp
  refine ⟨fun t η hη => ?_, ?_, hR, rfl⟩
  · simp only [enterSt, getT_putArgs, Nat.zero_le, true_and, Nat.zero_add, Nat.sub_zero]
    split
    · rename_i ht
      have := DenVs.getD (hd η hη) t
      rw [Array.getD_eq_getD_getElem?, Array.getElem?_append_left (by omega)]
      simpa [Array.getElem?_toList] using this
    · simp only [getT, Tr.get_nil]
      trivial
  · simp only [Array.size_append, Array.size_replicate, enterSt]
    omega

/-! What comes out. -/
def Out (P : Program) (p : Pt) (st : St) (c : Code) (outs : Es) : Prop := ∃ o ∈ outs, ∃ q, LeadsE p st q o.1 o.2 (CodeWp P c)
def RunOk (P : Program) (env : Env) (fuel : Nat) : Prop := ∀ (f cur : Nat) (c : Code) (st : St) (outs : Es), run env fuel f cur c st = .ok outs → ∀ p, Sat p st.ctx → 8 ≤ st.nb → (∃ σ w a, Rel p σ st a w) → Out P p st c outs

theorem callG_ok {env : Env} (hE : EnvOk P env) (hK : ∀ g, ∀ c ∈ env.cons g, CSound P g c ∧ c.wf = true) {fuel : Nat} (IH : RunOk P env fuel) : CallOk P (callG env fuel) := by
  intro f args S outs h h8 p hs hex
  unfold callG at h
  split at h
  · rename_i con more hc
    obtain ⟨c, hm, hu⟩ := tryAll_ok h
    obtain ⟨k1, k2⟩ := hK f c (by rw [hc]; exact hm)
    exact use_sound k1 k2 hu h8 hs hex
  · split at h
    · cases h
    · rename_i fn hfn
      split at h
      · cases h
      · rename_i body hbody
        obtain ⟨hn, h⟩ := bif_ok h
        rw [ble_iff, llenG_eq] at hn
        obtain ⟨l, hl, h⟩ := R.bind_ok h
        obtain ⟨hfn, hname⟩ := hE.fns f fn hfn
        obtain ⟨⟨e, s⟩, hm, q, hpq, hsq, hnt, hnb, hex', hx⟩ := IH f 0 body _ l (sayAt_ok hl) p hs h8 (by
          obtain ⟨σ, w, vs, h1, h2⟩ := hex
          exact ⟨σ, w, _, enter_rel hn h1 h2⟩)
        obtain ⟨he, o, ho, hmo⟩ := endsOf_mem h hm
        obtain ⟨q2, hq2, hsq2, hx2⟩ := resultsA_sound hE ho hsq (by
          obtain ⟨σ, w, a, hr⟩ := hex'
          exact ⟨σ, w, a, hr.tm, hr.hp⟩)
        refine ⟨_, hmo, q2, hpq.trans hq2, hsq2, fun σ w vs hd hR => ⟨by
            have h1 : fn.name ≠ "runtime.NumGoroutine" := by simpa using hname
            simp [callFunc, hfn, h1, hbody], calls_of_wp hfn hbody (CodeWp.wp (hx σ w _ (enter_rel hn hd hR) _ fun σ' w' a' hst hr => ?_))⟩⟩
        obtain ⟨x, h1, h2⟩ := hx2 σ' w' a' hr.tm hr.hp
        have key : a'.defers = [] ∧ ∃ v, (results fn a'.tmps).run P w' = .ok v w' ∧ ∃ v', Ending.returned v = .returned v' ∧ Goes q2 S.nb σ S.heap w ⟨o.2, o.1, s.heap, s.nb⟩ v' w' :=
          ⟨hr.df, x, h1, x, rfl, σ', hst, h2, hr.hp.mono hq2⟩
        rcases he with he | he
        · subst he
          exact key
        · subst he
          exact key

/-! Loops with invariants. -/
theorem inv_sound {env : Env} {fuel f cur : Nat} (IH : RunOk P env fuel) {body : Code} {st : St} (h8 : 8 ≤ st.nb) {gens : List Gen} (hG : ∀ γ ∈ gens, GenOk st γ) {one : Nat → R (List Nat × Es)}
    (hone : ∀ i pr, one i = .ok pr → ∃ γ outsB, gens[i]? = some γ ∧ γ.g.ctx.ge0 γ.meas = true ∧ γ.meas.lt γ.g.ctx.n = true ∧ run env fuel f cur body γ.g = .ok outsB ∧ rounds st gens γ.meas outsB = .ok pr)
    {V : List Nat} {outs : Es} (hV : ∀ i ∈ V, ∃ p, one i = .ok p ∧ (∀ o ∈ p.2, o ∈ outs) ∧ ∀ j ∈ p.1, j ∈ V) {p : Pt} (hs : Sat p st.ctx) :
    ∀ (N i : Nat), i ∈ V → ∀ γ, gens[i]? = some γ → ∀ r, p.le r → Sat r γ.g.ctx → (γ.meas.ev r.η.int).toNat ≤ N → st.nb ≤ γ.g.nb → (∃ σ w a, Rel r σ γ.g a w) →
      ∃ o ∈ outs, ∃ q, p.le q ∧ Sat q o.2.ctx ∧ o.2.nt = st.nt ∧ 8 ≤ o.2.nb ∧ (∃ σ w a, Rel q σ o.2 a w) ∧
        ∀ σ0 w0 σ w a, Step st.nb σ0 st.heap w0 γ.g.nb σ γ.g.heap w → Rel r σ γ.g a w → ∀ Q : Exit → Act → World → Prop, (∀ σ' w' a', Step st.nb σ0 st.heap w0 o.2.nb σ' o.2.heap w' → Rel q σ' o.2 a' w' → Q (exitOf o.1) a' w') → LoopWp P body Q a w := by
  intro N
  induction N using Nat.strongRecOn with
  | _ N ih =>
    intro i hi γ hγ r hpr hsr hμ hnb hex
    obtain ⟨pr, hpr1, hsub, hback⟩ := hV i hi
    obtain ⟨γ0, outsB, h1, h2, h3, h4, h5⟩ := hone i pr hpr1
    rw [hγ] at h1
    cases h1
    obtain ⟨⟨e1, s1⟩, hm, q1, hrq, hsq1, hnt1, hnb1, hex1, hx1⟩ := IH f cur body γ.g outsB h4 r hsr (by omega) hex
    have hgk := hG γ (List.mem_of_getElem? hγ)
    rcases rounds_mem h5 e1 s1 hm with ⟨he, j, hj, hjm⟩ | ⟨he, hmo⟩
    · subst he
      obtain ⟨γ', m, _, hg', hfit, hmeas⟩ := tryGens_ok hj
      rw [Nat.sub_zero] at hg'
      obtain ⟨ν, hν, hge⟩ := hmeas _ rfl
      obtain ⟨f1, f2, f3, f4, f5, f6⟩ := fitsGen_sound hfit (hG γ' (List.mem_of_getElem? hg')) h8 hs (hpr.trans hrq) hsq1
      have e0 : ν.ev q1.η.int = γ'.meas.ev (m.pt q1).η.int := subLin_sound (f4 _ (Va.agr_refl _ _)) hν
      have e2 := Ctx.ge0_sound hsq1.says hge
      have e3 : γ.meas.ev q1.η.int = γ.meas.ev r.η.int := (Sat.int_ev hsr.1 h3) q1.η hrq.agr
      have e4 := Ctx.ge0_sound hsr.says h2
      simp only [Lin.ev_addc, Lin.ev_sub] at e2
      have e5 : 0 ≤ γ'.meas.ev (m.pt q1).η.int := by
        obtain ⟨pr', hpr', _, _⟩ := hV j (hback j hjm)
        obtain ⟨γ2, _, k1, k2, _⟩ := hone j pr' hpr'
        rw [hg'] at k1
        cases k1
        exact Ctx.ge0_sound f2.says k2
      have hlt : (γ'.meas.ev (m.pt q1).η.int).toNat < N := by omega
      obtain ⟨o, ho, q, g1, g2, g3, g4, g5, g6⟩ := ih _ hlt j (hback j hjm) γ' hg' (m.pt q1) f1 f2 (Nat.le_refl _) f3 (by
        obtain ⟨σ, w, a, hr⟩ := hex1
        exact ⟨_, w, a, f5 σ w a hr⟩)
      refine ⟨o, ho, q, g1, g2, g3, g4, g5, fun σ0 w0 σ w a hst hr Q hQ => LoopWp.round (CodeWp.wp (hx1 σ w a hr _ fun σ' w' a' hst' hr' => ?_))⟩
      exact g6 σ0 w0 (m.sg σ') w' a' (f6 σ0 w0 σ' w' a' hr' (hst.trans hst')) (f5 σ' w' a' hr') Q hQ
    · refine ⟨(e1, s1), hsub _ hmo, q1, hpr.trans hrq, hsq1, hnt1.trans hgk.nt, hnb1, hex1, fun σ0 w0 σ w a hst hr Q hQ => LoopWp.round (CodeWp.wp (hx1 σ w a hr _ fun σ' w' a' hst' hr' => ?_))⟩
      have := hQ σ' w' a' (hst.trans hst') hr'
      cases e1
      · exact absurd rfl he
      · exact this
      · exact this

/-! All. -/
theorem run_sound {env : Env} (hE : EnvOk P env) (hD : DrawOk P env) (hK : ∀ g, ∀ c ∈ env.cons g, CSound P g c ∧ c.wf = true) : ∀ fuel, RunOk P env fuel
  | 0 => fun f cur c st outs h => by simp only [run] at h; cases h
  | fuel + 1 => by
    have IH := run_sound hE hD hK fuel
    intro f cur c st outs h p hs h8 hex
    cases c with
    | skip =>
      simp only [run] at h
      cases h
      exact ⟨_, List.mem_singleton.2 rfl, p, p.le_refl, hs, rfl, h8, hex, fun σ w a hr Q hQ => wp_skip (hQ σ w a (Step.refl _ _ _ _) hr)⟩
    | label l =>
      simp only [run] at h
      cases h
      exact ⟨_, List.mem_singleton.2 rfl, p, p.le_refl, hs, rfl, h8, hex, fun σ w a hr Q hQ => wp_label (hQ σ w a (Step.refl _ _ _ _) hr)⟩
    | exit id =>
      simp only [run] at h
      cases h
      exact ⟨_, List.mem_singleton.2 rfl, p, p.le_refl, hs, rfl, h8, hex, fun σ w a hr Q hQ => wp_exit (hQ σ w a (Step.refl _ _ _ _) hr)⟩
    | ret =>
      simp only [run] at h
      cases h
      exact ⟨_, List.mem_singleton.2 rfl, p, p.le_refl, hs, rfl, h8, hex, fun σ w a hr Q hQ => wp_ret (hQ σ w a (Step.refl _ _ _ _) hr)⟩
    | region id ops drawn =>
      rw [run_region_eq] at h
      obtain ⟨l, hl, h⟩ := R.bind_ok h
      cases h
      have hC := callG_ok hE hK IH
      cases drawn
      · obtain ⟨st', hm, q, hq⟩ := region_sound (id := id) hE hC hl hs h8 hex
        exact ⟨_, normals_mem hm, q, hq.toE⟩
      · obtain ⟨st', hm, q, hq⟩ := hD _ hC id ops st l hl p hs h8 hex
        exact ⟨_, normals_mem hm, q, hq.toE⟩
    | seq x y =>
      simp only [run] at h
      obtain ⟨l, hl, h⟩ := R.bind_ok h
      obtain ⟨⟨e1, s1⟩, hm, q1, hpq, hsq1, hnt1, hnb1, hex1, hx1⟩ := IH f cur x st l hl p hs h8 hex
      by_cases he : e1 = .normal
      · subst he
        obtain ⟨l2, hl2, hsub⟩ := andThen_normal h hm
        obtain ⟨⟨e2, s2⟩, hm2, q2, hqq, hsq2, hnt2, hnb2, hex2, hx2⟩ := IH f cur y s1 l2 hl2 q1 hsq1 hnb1 hex1
        refine ⟨_, hsub _ hm2, q2, hpq.trans hqq, hsq2, hnt2.trans hnt1, hnb2, hex2, fun σ w a hr Q hQ => wp_seq (CodeWp.wp (hx1 σ w a hr _ fun σ' w' a' hst hr' => ?_))⟩
        exact CodeWp.wp (hx2 σ' w' a' hr' Q fun σ'' w'' a'' hst' hr'' => hQ σ'' w'' a'' (hst.trans hst') hr'')
      · refine ⟨_, andThen_other h he hm, q1, hpq, hsq1, hnt1, hnb1, hex1, fun σ w a hr Q hQ => wp_seq (CodeWp.wp (hx1 σ w a hr _ fun σ' w' a' hst hr' => ?_))⟩
        have := hQ σ' w' a' hst hr'
        cases e1
        · exact absurd rfl he
        · exact this
        · exact this
    | cond x y z =>
      simp only [run] at h
      split at h
      · rename_i v hv
        obtain ⟨l, hl, h⟩ := R.bind_ok h
        obtain ⟨t, Ψ, hm, hsΨ, hev⟩ := split_sound hs hl
        obtain ⟨l2, hl2, hsub⟩ := bothWays_mem h hm
        have hc : ∀ {σ w a}, Rel p σ st a w → a.eval x = .bool t := fun {σ w a} hr => by
          have h0 := (evalA_sound hr.tm hr.hp x).self
          rw [hv] at h0
          have h1 : a.eval x = .bool (v.ev p.η) := h0
          rw [h1, hev.self]
        cases t
        · obtain ⟨⟨e, s⟩, hm2, q, hq⟩ := IH f cur z _ l2 hl2 p hsΨ h8 (by
            obtain ⟨σ, w, a, hr⟩ := hex
            exact ⟨σ, w, a, hr.ctx⟩)
          have hq := hq.ctx
          exact ⟨_, hsub _ hm2, q, hq.1, hq.2.1, hq.2.2.1, hq.2.2.2.1, hq.2.2.2.2.1, fun σ w a hr Q hQ => wp_cond_false (hc hr) (CodeWp.wp (hq.2.2.2.2.2 σ w a hr Q hQ))⟩
        · obtain ⟨⟨e, s⟩, hm2, q, hq⟩ := IH f cur y _ l2 hl2 p hsΨ h8 (by
            obtain ⟨σ, w, a, hr⟩ := hex
            exact ⟨σ, w, a, hr.ctx⟩)
          have hq := hq.ctx
          exact ⟨_, hsub _ hm2, q, hq.1, hq.2.1, hq.2.2.1, hq.2.2.2.1, hq.2.2.2.2.1, fun σ w a hr Q hQ => wp_cond_true (hc hr) (CodeWp.wp (hq.2.2.2.2.2 σ w a hr Q hQ))⟩
      · cases h
    | block id x =>
      simp only [run] at h
      obtain ⟨l, hl, h⟩ := R.bind_ok h
      cases h
      obtain ⟨⟨e1, s1⟩, hm, q1, hpq, hsq1, hnt1, hnb1, hex1, hx1⟩ := IH f id x st l hl p hs h8 hex
      obtain ⟨e', hm', he'⟩ := unblock_mem (id := id) hm
      refine ⟨_, hm', q1, hpq, hsq1, hnt1, hnb1, hex1, fun σ w a hr Q hQ => wp_block (CodeWp.wp (hx1 σ w a hr _ fun σ' w' a' hst hr' => ?_))⟩
      have := hQ σ' w' a' hst hr'
      subst he'
      cases e1
      · exact this
      · rename_i j
        dsimp only at this
        show if j = id then Q .normal a' w' else Q (.exit j) a' w'
        by_cases hj : j = id
        · subst hj
          rw [if_pos rfl]
          have hb : Nat.beq j j = true := (beq_iff _ _).2 rfl
          rw [hb] at this
          exact this
        · rw [if_neg hj]
          have hb : Nat.beq j id = false := by
            cases hb : Nat.beq j id
            · rfl
            · exact absurd ((beq_iff _ _).1 hb) hj
          rw [hb] at this
          exact this
      · exact this
    | loop body =>
      simp only [run] at h
      split at h
      · obtain ⟨l, hl, h⟩ := R.bind_ok h
        obtain ⟨⟨e1, s1⟩, hm, q1, hpq, hsq1, hnt1, hnb1, hex1, hx1⟩ := IH f cur body st l hl p hs h8 hex
        by_cases he : e1 = .normal
        · subst he
          obtain ⟨l2, hl2, hsub⟩ := andThen_normal h hm
          obtain ⟨⟨e2, s2⟩, hm2, q2, hqq, hsq2, hnt2, hnb2, hex2, hx2⟩ := IH f cur (.loop body) s1 l2 hl2 q1 hsq1 hnb1 hex1
          refine ⟨_, hsub _ hm2, q2, hpq.trans hqq, hsq2, hnt2.trans hnt1, hnb2, hex2, fun σ w a hr Q hQ => LoopWp.round (CodeWp.wp (hx1 σ w a hr _ fun σ' w' a' hst hr' => ?_))⟩
          exact hx2 σ' w' a' hr' Q fun σ'' w'' a'' hst' hr'' => hQ σ'' w'' a'' (hst.trans hst') hr''
        · refine ⟨_, andThen_other h he hm, q1, hpq, hsq1, hnt1, hnb1, hex1, fun σ w a hr Q hQ => LoopWp.round (CodeWp.wp (hx1 σ w a hr _ fun σ' w' a' hst hr' => ?_))⟩
          have := hQ σ' w' a' hst hr'
          cases e1
          · exact absurd rfl he
          · exact this
          · exact this
      · rename_i ds hds
        obtain ⟨gens, hgens, h⟩ := R.bind_ok h
        have hG : ∀ γ ∈ gens, GenOk st γ := fun γ hγ => by
          obtain ⟨d, _, hd⟩ := mapL_mem hgens γ hγ
          exact mkGen_ok hd
        split at h
        · cases h
        · rename_i i0 hi0
          have key : ∀ (one : Nat → R (List Nat × Es)), (∀ i pr, one i = .ok pr → ∃ γ outsB, gens[i]? = some γ ∧ γ.g.ctx.ge0 γ.meas = true ∧ γ.meas.lt γ.g.ctx.n = true ∧ run env fuel f cur body γ.g = .ok outsB ∧ rounds st gens γ.meas outsB = .ok pr) →
              loopGo one 100 [i0] [] = .ok outs → Out P p st (.loop body) outs := fun one hone h => by
            obtain ⟨V, hV1, hV2⟩ := loopGo_spec h
            obtain ⟨γ0, m0, _, hg0, hfit0, _⟩ := tryGens_ok hi0
            rw [Nat.sub_zero] at hg0
            obtain ⟨f1, f2, f3, f4, f5, f6⟩ := fitsGen_sound hfit0 (hG γ0 (List.mem_of_getElem? hg0)) h8 hs p.le_refl hs
            have hi0V : i0 ∈ V := by
              rcases hV1 i0 (List.mem_singleton.2 rfl) with h | h
              · exact h
              · cases h
            obtain ⟨o, ho, q, g1, g2, g3, g4, g5, g6⟩ := inv_sound (P := P) (f := f) (cur := cur) (body := body) IH h8 hG hone
              (V := V) (outs := outs) (fun i hi => by
                obtain ⟨pr, h1, h2, h3⟩ := hV2 i hi
                refine ⟨pr, h1, h2, fun j hj => ?_⟩
                rcases h3 j hj with h | h
                · exact h
                · cases h) hs _ i0 hi0V γ0 hg0 (m0.pt p) f1 f2 (Nat.le_refl _) f3 (by
                  obtain ⟨σ, w, a, hr⟩ := hex
                  exact ⟨_, w, a, f5 σ w a hr⟩)
            exact ⟨o, ho, q, g1, g2, g3, g4, g5, fun σ w a hr Q hQ => g6 σ w (m0.sg σ) w a (f6 σ w σ w a hr (Step.refl _ _ _ _)) (f5 σ w a hr) Q hQ⟩
          refine key _ (fun i pr hpr => ?_) h
          split at hpr
          · cases hpr
          · rename_i γ hγ
            obtain ⟨hc, hpr⟩ := bif_ok hpr
            simp only [Bool.and_eq_true] at hc
            obtain ⟨outsB, hB, hpr⟩ := R.bind_ok hpr
            exact ⟨γ, outsB, hγ, hc.1, hc.2, hB, sayAt_ok hpr⟩
    | _ => simp only [run] at h; cases h
end
end Go.Hal
namespace Go.Hal
noncomputable section
open Go
variable {P : Program}

theorem boundsOk_range {Φ : Ctx} {m : Mt} : ∀ {l : List (Nat × Int × Int)}, Mt.boundsOk Φ m l = .ok () → ∀ a lo hi, (a, lo, hi) ∈ l → m.n0 ≤ a ∧ a < m.n1
  | [], _, a, lo, hi, hm => by cases hm
  | (b, lo', hi') :: r, h, a, lo, hi, hm => by
    simp only [Mt.boundsOk] at h
    obtain ⟨hc, h⟩ := bif_ok h
    simp only [Bool.and_eq_true, ble_iff, blt_iff] at hc
    have hr : Mt.boundsOk Φ m r = .ok () := by
      split at h
      · exact (bif_ok h).2
      · exact (bif_ok h).2
      · cases h
    rcases List.mem_cons.1 hm with hm | hm
    · cases hm; exact hc
    · exact boundsOk_range hr a lo hi hm
theorem fitsAny_ok {c : Contract} {v : AV} {Φ : Ctx} {h : Tr ABlk} : ∀ {l : List Post}, fitsAny c v Φ h l = .ok () → ∃ p ∈ l, fitsPost c p v Φ h = .ok ()
  | p :: r, hf => by
    simp only [fitsAny] at hf
    split at hf
    · rename_i hp
      exact ⟨p, List.mem_cons_self, hp⟩
    · split at hf
      · rename_i hr
        obtain ⟨p', h1, h2⟩ := fitsAny_ok hr
        exact ⟨p', List.mem_cons_of_mem _ h1, h2⟩
      · cases hf
theorem fitsAll_mem {c : Contract} : ∀ {l : Outs} {v : AV} {Φ : Ctx} {h : Tr ABlk} {nb : Nat}, fitsAll c l = .ok () → (v, Φ, h, nb) ∈ l → fitsAny c v Φ h c.posts = .ok ()
  | (v0, Φ0, h0, nb0) :: r, v, Φ, h, nb, hf, hm => by
    simp only [fitsAll] at hf
    obtain ⟨_, h1, h2⟩ := R.bind_ok hf
    rcases List.mem_cons.1 hm with hm | hm
    · cases hm; exact h1
    · exact fitsAll_mem h2 hm
theorem checkContract_wf {env : Env} {fuel f : Nat} {c : Contract} (h : checkContract env fuel f c = .ok ()) : c.wf = true := by
  unfold checkContract at h
  split at h
  · cases h
  · split at h
    · cases h
    · obtain ⟨hc, h⟩ := bif_ok h
      simp only [Bool.and_eq_true] at hc
      exact hc.2
theorem checkContract_sound {env : Env} (hE : EnvOk P env) (hD : DrawOk P env) (hK : ∀ g, ∀ c ∈ env.cons g, CSound P g c ∧ c.wf = true) {fuel f : Nat} {c : Contract} (h : checkContract env fuel f c = .ok ()) : CSound P f c := by
  have hwf := checkContract_wf h
  simp only [Contract.wf, Bool.and_eq_true, ble_iff] at hwf
  obtain ⟨⟨⟨w8, wb⟩, wk⟩, wp⟩ := hwf
  unfold checkContract at h
  split at h
  · cases h
  · rename_i fn hfn
    split at h
    · cases h
    · rename_i body hbody
      obtain ⟨hc, h⟩ := bif_ok h
      simp only [Bool.and_eq_true, ble_iff, llenG_eq] at hc
      have hn := hc.1
      obtain ⟨outs, houts, h⟩ := R.bind_ok h
      obtain ⟨l, hl, h⟩ := R.bind_ok h
      obtain ⟨hfn, hname⟩ := hE.fns f fn hfn
      intro r hsr hex
      obtain ⟨⟨e, s⟩, hm, q, hpq, hsq, hnt, hnb, hex', hx⟩ := run_sound hE hD hK fuel f 0 body _ outs houts r hsr (by show 8 ≤ c.nb; omega) (by
        obtain ⟨σ, w, vs, h1, h2⟩ := hex
        exact ⟨σ, w, _, enter_rel hn h1 h2⟩)
      obtain ⟨he, o, ho, hmo⟩ := endsOf_mem hl hm
      obtain ⟨q2, hq2, hsq2, hx2⟩ := resultsA_sound hE ho hsq (by
        obtain ⟨σ, w, a, hr⟩ := hex'
        exact ⟨σ, w, a, hr.tm, hr.hp⟩)
      obtain ⟨post, hpm, hf⟩ := fitsAny_ok (fitsAll_mem h hmo)
      obtain ⟨pw1, pw2, pw3, pw4⟩ := postsWf_mem wp hpm
      unfold fitsPost at hf
      obtain ⟨m1, hm1, hf⟩ := R.bind_ok hf
      obtain ⟨m, hm2, hf⟩ := R.bind_ok hf
      obtain ⟨hap, hf⟩ := bif_ok hf
      obtain ⟨_, hbo, hfa⟩ := R.bind_ok hf
      have s1 := (mAV_sound hm1 default).1
      obtain ⟨s2, e2⟩ := mHeap_sound hm2
      have hst := s1.trans s2
      have en0 : m.n0 = c.n := hst.le.n0
      have en1 : m.n1 = post.n := hst.le.n1
      have eb0 : m.b0 = c.nb := hst.le.b0
      have eb1 : m.b1 = post.nb := hst.le.b1
      have M : Matched o.2 s.heap m post.heap := ⟨hst.wf (Mt.wf0 _ _ _ _), by omega, by omega, by omega, by rw [eb1]; exact pw3, ⟨m1, by rw [eb1]; exact hm2⟩, by rw [eb1]; exact hap⟩
      have hfits := M.fits q2
      have hrn : r.n = c.n := hsr.1
      have hrq := hpq.trans hq2
      refine ⟨post, hpm, m.pt q2, ⟨by show r.n ≤ m.n1; omega, ?_⟩, en1, fun a lo hi hmem => ?_, fun g e hmem => factsOk_sound hfa q2.η _ hsq2.says hfits.self g e hmem, fun τ w vs hd hR => ⟨?_, ?_⟩⟩
      · refine Va.agr_trans hrq.agr ?_
        have := (Mt.va_fits M.wf q2.η).base
        rw [en0, ← hrn] at this
        exact this
      · have h1 := boundsOk_range hbo a lo hi hmem
        have h2 := boundsOk_sound hbo q2.η _ hsq2.says hfits.self a lo hi hmem
        exact ⟨by omega, by omega, h2.1, h2.2⟩
      · have h1 : fn.name ≠ "runtime.NumGoroutine" := by simpa using hname
        simp [callFunc, hfn, h1, hbody]
      · refine calls_of_wp hfn hbody (CodeWp.wp (hx τ w _ (enter_rel hn hd hR) _ fun σ' w' a' hstep hr => ?_))
        obtain ⟨x, h1, h2⟩ := hx2 σ' w' a' hr.tm hr.hp
        have hR2 := hr.hp.mono hq2
        have hrel := M.rel hsq2 hR2
        rw [eb1] at hrel
        have key : a'.defers = [] ∧ ∃ v, (results fn a'.tmps).run P w' = .ok v w' ∧ ∃ v', Ending.returned v = .returned v' ∧ ∃ τ', Step c.nb τ c.heap w post.nb τ' post.heap w' ∧ ((m.pt q2).All fun ζ => DenV ζ τ' post.val v') ∧ RelH (m.pt q2) τ' post.heap post.nb w' := by
          refine ⟨hr.df, x, h1, x, rfl, m.sg σ', ⟨pw2, fun b hb => ?_, hstep.size, hstep.fr, fun d hd2 ho2 => hstep.own d hd2 (M.own hsq2 hR2 ho2), hstep.shp, fun d X0 U0 fr0 hc0 ho2 => hstep.frz d X0 U0 fr0 hc0 (M.own hsq2 hR2 ho2), hstep.io⟩, fun ζ hζ => ?_, hrel⟩
          · rw [← hstep.ext b hb]
            exact (Mt.sg_fits M.wf σ').base b (by omega)
          · exact ((mAV_sound hm1 x).2 q2.η σ' h2.self).2 ζ (m.sg σ') hsq2.says ((hfits ζ hζ).of_le s2.le) ((Mt.sg_fits M.wf σ').of_le s2.le)
        rcases he with he | he
        · subst he
          exact key
        · subst he
          exact key
end
end Go.Hal
namespace Go.Hal
noncomputable section
open Go

/-- blocks lie alike below -/
def Sig.agr (nb : Nat) (σ τ : Sig) : Prop := ∀ b, b < nb → σ b = τ b
theorem DenCaps.wf {nb : Nat} {σ τ : Sig} (hs : Sig.agr nb σ τ) : ∀ {l : List Nat} {vs : List Value}, natsLt nb l = true → DenCaps σ l vs → DenCaps τ l vs
  | [], [], _, _ => trivial
  | b :: l, v :: vs, hw, h => by
    simp only [natsLt, Bool.and_eq_true, blt_iff] at hw
    obtain ⟨⟨c, n, h1, h2⟩, h3⟩ := h
    exact ⟨⟨c, n, by rw [← hs b hw.1]; exact h1, h2⟩, DenCaps.wf hs hw.2 h3⟩
theorem Den.wf {n nb : Nat} {η η' : Va} {σ τ : Sig} (ha : Va.agr n η η') (hs : Sig.agr nb σ τ) {s : SV} (hw : s.wf n nb = true) {v : Value} (h : Den η σ s v) : Den η' τ s v := by
  have hi : ∀ a < n, η.int a = η'.int a := fun a h => (ha a h).1
  cases s with
  | int k e =>
    simp only [SV.wf] at hw
    simp only [Den, ← Lin.ev_congr hi hw] at h ⊢
    exact h
  | bool b =>
    simp only [SV.wf] at hw
    simp only [Den, ← ABool.ev_congr ha hw] at h ⊢
    exact h
  | str s =>
    simp only [SV.wf] at hw
    simp only [Den, ← (AStr.ev_congr ha hw).1, ← (AStr.ev_congr ha hw).2] at h ⊢
    exact h
  | ptr b o =>
    simp only [SV.wf, Bool.and_eq_true, blt_iff] at hw
    simp only [Den, ← Lin.ev_congr hi hw.2, ← hs b hw.1] at h ⊢
    exact h
  | slice b o l es =>
    simp only [SV.wf, Bool.and_eq_true, blt_iff] at hw
    simp only [Den, ← Lin.ev_congr hi hw.2, ← Lin.ev_congr hi hw.1.2, ← hs b hw.1.1] at h ⊢
    exact h
  | slen l =>
    simp only [SV.wf] at hw
    simp only [Den, ← Lin.ev_congr hi hw] at h ⊢
    exact h
  | map b =>
    simp only [SV.wf, blt_iff] at hw
    simp only [Den, ← hs b hw] at h ⊢
    exact h
  | func f cs =>
    simp only [SV.wf] at hw
    obtain ⟨vs, h1, h2⟩ := h
    exact ⟨vs, h1, h2.wf hs hw⟩
  | ifi t k e =>
    simp only [SV.wf] at hw
    simp only [Den, ← Lin.ev_congr hi hw] at h ⊢
    exact h
  | _ => exact h
theorem DenL.wf {n nb : Nat} {η η' : Va} {σ τ : Sig} (ha : Va.agr n η η') (hs : Sig.agr nb σ τ) : ∀ {cs : List SV} {vs : List Value}, svsWf n nb cs = true → DenL η σ cs vs → DenL η' τ cs vs
  | [], [], _, _ => trivial
  | s :: cs, v :: vs, hw, h => by
    simp only [svsWf, Bool.and_eq_true] at hw
    exact ⟨h.1.wf ha hs hw.1, DenL.wf ha hs hw.2 h.2⟩
theorem DenT.wf {n nb : Nat} {η η' : Va} {σ τ : Sig} (ha : Va.agr n η η') (hs : Sig.agr nb σ τ) : ∀ {cs : List (Bool × List SV)} {vs : List Value}, tupWf n nb cs = true → DenT η σ cs vs → DenT η' τ cs vs
  | [], [], _, _ => trivial
  | (true, cs) :: l, v :: vs, hw, h => by
    simp only [tupWf, Bool.and_eq_true] at hw
    obtain ⟨⟨xs, h1, h2⟩, h3⟩ := h
    exact ⟨⟨xs, h1, h2.wf ha hs hw.1⟩, DenT.wf ha hs hw.2 h3⟩
  | (false, cs) :: l, v :: vs, hw, h => by
    simp only [tupWf, Bool.and_eq_true] at hw
    obtain ⟨⟨s, rfl, h2⟩, h3⟩ := h
    simp only [svsWf, Bool.and_eq_true] at hw
    exact ⟨⟨s, rfl, h2.wf ha hs hw.1.1⟩, DenT.wf ha hs hw.2 h3⟩
theorem DenV.wf {n nb : Nat} {η η' : Va} {σ τ : Sig} (ha : Va.agr n η η') (hs : Sig.agr nb σ τ) {s : AV} (hw : s.wf n nb = true) {v : Value} (h : DenV η σ s v) : DenV η' τ s v := by
  cases s with
  | sc s =>
    have hw' : s.wf n nb = true := hw
    cases s <;> first | trivial | exact DenV.of (Den.wf ha hs hw' (DenV.un rfl h))
  | agg cs => obtain ⟨vs, hv, hd⟩ := h; exact ⟨vs, hv, hd.wf ha hs hw⟩
  | tup cs => obtain ⟨vs, hv, hd⟩ := h; exact ⟨vs, hv, hd.wf ha hs hw⟩
theorem DenE.wf {n nb : Nat} {η η' : Va} {σ τ : Sig} (ha : Va.agr n η η') (hs : Sig.agr nb σ τ) : ∀ {es : List (List Nat × List SV)} {xs : List MapEntry}, esWf n nb es = true → DenE η σ es xs → DenE η' τ es xs
  | [], [], _, _ => trivial
  | (k, cs) :: l, e :: r, hw, h => by
    simp only [esWf, Bool.and_eq_true] at hw
    obtain ⟨⟨h0, xs, h1, h2⟩, h3⟩ := h
    exact ⟨⟨h0, xs, h1, h2.wf ha hs hw.1⟩, DenE.wf ha hs hw.2 h3⟩
theorem BlkD.wf {n nb : Nat} {η η' : Va} {σ τ : Sig} (ha : Va.agr n η η') (hs : Sig.agr nb σ τ) {w : World} {x : ABlk} (hw : x.wf n nb = true) {l : Sg} (h : BlkD η σ w x l) : BlkD η' τ w x l := by
  have hi : ∀ a < n, η.int a = η'.int a := fun a h => (ha a h).1
  cases x with
  | cells t cs =>
    simp only [ABlk.wf] at hw
    cases l with
    | at_ c k =>
      obtain ⟨vs, more, h1, h2, h3⟩ := h
      exact ⟨vs, more, h1, h2, h3.wf ha hs hw⟩
    | nil => cases cs <;> exact h
    | no => exact h
  | blob t a m ct =>
    simp only [ABlk.wf, Bool.and_eq_true, blt_iff] at hw
    have h1 := (ha a hw.1).2.2.1
    have h2 := Lin.ev_congr hi hw.2
    cases l with
    | at_ c k =>
      simp only [BlkD, ← h1, ← h2] at h ⊢
      exact h
    | nil =>
      simp only [BlkD, ← h1, ← h2] at h ⊢
      exact h
    | no => exact h
  | opq t m =>
    simp only [ABlk.wf] at hw
    have h2 := Lin.ev_congr hi hw
    cases l with
    | at_ c k =>
      simp only [BlkD, ← h2] at h ⊢
      exact h
    | nil =>
      simp only [BlkD, ← h2] at h ⊢
      exact h
    | no => exact h
  | iter s p =>
    simp only [ABlk.wf, Bool.and_eq_true] at hw
    have h1 := AStr.ev_congr ha hw.1
    have h2 := Lin.ev_congr hi hw.2
    cases l with
    | at_ c k =>
      simp only [BlkD, ← h1.1, ← h1.2, ← h2] at h ⊢
      exact h
    | nil => exact h
    | no => exact h
  | mapk es =>
    simp only [ABlk.wf] at hw
    cases l with
    | at_ c k =>
      obtain ⟨ents, clock, h1, h2⟩ := h
      exact ⟨ents, clock, h1, h2.wf ha hs hw⟩
    | nil => exact h
    | no => exact h
  | mapi a =>
    simp only [ABlk.wf, blt_iff] at hw
    have h1 := (ha a hw).2.2.2
    cases l with
    | at_ c k =>
      simp only [BlkD, ← h1] at h ⊢
      exact h
    | nil => exact h
    | no => exact h
  | dead => cases l <;> trivial
/-- cells from a place on; any others -/
def maskCells : Nat → Nat → List SV → List SV
  | _, _, [] => []
  | o + 1, n, _ :: l => .any :: maskCells o n l
  | 0, n + 1, x :: l => x :: maskCells 0 n l
  | 0, 0, _ :: l => .any :: maskCells 0 0 l
def maskBlk (o n : Nat) : ABlk → ABlk
  | .cells t cs => .cells t (maskCells o n cs)
  | _ => .dead
theorem mask_den {η : Va} {σ : Sig} : ∀ {o n : Nat} {cs : List SV} {vs : List Value}, DenL η σ cs vs → DenL η σ (maskCells o n cs) vs
  | 0, 0, [], [], _ => trivial
  | 0, _n + 1, [], [], _ => trivial
  | _o + 1, _n, [], [], _ => trivial
  | 0, 0, _ :: _cs, _ :: _vs, h => ⟨h.1.one, mask_den h.2⟩
  | 0, _n + 1, _ :: _cs, _ :: _vs, h => ⟨h.1, mask_den h.2⟩
  | _o + 1, _n, _ :: _cs, _ :: _vs, h => ⟨h.1.one, mask_den h.2⟩
theorem mask_blk {η : Va} {σ : Sig} {w : World} {o n : Nat} {x : ABlk} {l : Sg} (h : BlkD η σ w x l) : BlkD η σ w (maskBlk o n x) l := by
  cases x with
  | cells t cs =>
    cases l with
    | at_ c k =>
      obtain ⟨vs, more, h1, h2, h3⟩ := h
      exact ⟨vs, more, h1, h2, mask_den h3⟩
    | nil =>
      cases cs with
      | nil => cases o <;> cases n <;> exact h
      | cons => exact h.elim
    | no => exact h.elim
  | _ => cases l <;> trivial
theorem slotsWf_mem {st : St} : ∀ {l : List Nat} {t : Nat}, slotsWf st l = true → t ∈ l → (getT st.tmps t).wf st.ctx.n st.nb = true
  | s :: l, t, h, hm => by
    simp only [slotsWf, Bool.and_eq_true] at h
    rcases List.mem_cons.1 hm with rfl | hm
    · exact h.1
    · exact slotsWf_mem h.2 hm
theorem blksWf_mem {n nb : Nat} {h : Tr ABlk} : ∀ {l : List Nat} {b : Nat}, blksWf n nb h l = true → b ∈ l → b < nb ∧ (blk h b).wf n nb = true
  | s :: l, t, hw, hm => by
    simp only [blksWf, Bool.and_eq_true, blt_iff] at hw
    rcases List.mem_cons.1 hm with rfl | hm
    · exact ⟨hw.1.1, hw.1.2⟩
    · exact blksWf_mem hw.2 hm
theorem blk_restrict (h : Tr ABlk) : ∀ (l : List Nat) (b : Nat), blk (restrictTo h l) b = if b ∈ l then blk h b else .dead
  | [], b => by simp [restrictTo, blk]
  | s :: l, b => by
    simp only [restrictTo]
    cases hg : h.get s with
    | none =>
      simp only
      rw [blk_restrict h l b]
      by_cases hb : b = s
      · subst hb
        have : blk h b = .dead := by unfold blk; rw [hg]
        rw [this]; simp
      · simp [hb]
    | some x =>
      simp only
      rw [blk_set, blk_restrict h l b]
      by_cases hb : b = s
      · subst hb
        have : blk h b = x := by unfold blk; rw [hg]
        simp [this]
      · simp [hb]
theorem blk_copy (src : Tr ABlk) : ∀ (l : List Nat) (h : Tr ABlk) (b : Nat), blk (copyBlks src l h) b = if b ∈ l then blk src b else blk h b
  | [], h, b => by simp [copyBlks]
  | s :: l, h, b => by
    simp only [copyBlks, blk_copy src l, blk_set]
    by_cases hb : b = s
    · subst hb; simp
    · simp [hb]
theorem getT_restrict (T : Tr AV) : ∀ (l : List Nat) (t : Nat), getT (restrictT T l) t = if t ∈ l then getT T t else .sc .any
  | [], t => by simp [restrictT, getT]
  | s :: l, t => by
    simp only [restrictT, getT_set, getT_restrict T l]
    by_cases hb : t = s
    · subst hb; simp
    · simp [hb]
theorem mem_numsFrom : ∀ {n i b : Nat}, b ∈ numsFrom n i ↔ i ≤ b ∧ b < i + n
  | 0, i, b => by simp only [numsFrom, List.not_mem_nil, false_iff]; omega
  | n + 1, i, b => by
    simp only [numsFrom, List.mem_cons, mem_numsFrom (n := n)]
    omega
end
end Go.Hal
namespace Go.Hal
noncomputable section
open Go
variable {P : Program}

/-- blocks below alone -/
def Sig.cut (σ : Sig) (nb : Nat) : Sig := fun b => if b < nb then σ b else .no
theorem Sig.cut_agr (σ : Sig) (nb : Nat) : Sig.agr nb σ (σ.cut nb) := fun b hb => by simp [Sig.cut, hb]
theorem Sig.cut_ext (σ : Sig) (nb : Nat) : (σ.cut nb).ext σ := fun b hb => by
  unfold Sig.cut at hb ⊢
  split at hb
  · rename_i h; simp [h]
  · exact absurd rfl hb
theorem Sig.cut_at {σ : Sig} {nb b c n : Nat} (h : σ.cut nb b = .at_ c n) : σ b = .at_ c n := by
  have := σ.cut_ext nb b (by rw [h]; simp)
  rw [← this] at h; exact h
theorem agr_at {q pn : Pt} {n : Nat} (hq : q.le pn) (hqn : q.n = n) {η : Va} (hη : Va.agr q.n q.η η) : Va.agr n pn.η η := by
  subst hqn
  exact Va.agr_trans (Va.agr_symm hq.agr) hη
/-- what is looked at, out of a heap that is alike there -/
theorem rel_only {q pn : Pt} {σ : Sig} {h : Tr ABlk} {NB : Nat} {w : World} {st : St} {ts : List Nat} (hq : q.le pn) (hqn : q.n = st.ctx.n) (h8 : 8 ≤ st.nb) (hR : RelH pn σ h NB w)
    (hwf : blksWf st.ctx.n st.nb st.heap ts = true) (hag : ∀ b ∈ ts, blk h b = blk st.heap b) : RelH q (σ.cut st.nb) (restrictTo st.heap ts) st.nb w := by
  have hal : ∀ b, Alive (restrictTo st.heap ts) b → b ∈ ts ∧ Alive h b := fun b ha => by
    unfold Alive at ha
    rw [blk_restrict] at ha
    by_cases hb : b ∈ ts
    · rw [if_pos hb] at ha
      exact ⟨hb, by unfold Alive; rw [hag b hb]; exact ha⟩
    · rw [if_neg hb] at ha; exact absurd rfl ha
  refine ⟨fun b hb => by simp [Sig.cut, Nat.not_lt.2 hb], fun b η hη => ?_, fun b b' c n n' h1 h2 h3 h4 => hR.inj b b' c n n' (hal b h1).2 (hal b' h2).2 (Sig.cut_at h3) (Sig.cut_at h4), fun g hg ha => ?_⟩
  · rw [blk_restrict]
    split
    · rename_i hb
      obtain ⟨hlt, hw⟩ := blksWf_mem hwf hb
      rw [← σ.cut_agr st.nb b hlt]
      have := (hR.rel b).self
      rw [hag b hb] at this
      exact this.wf (agr_at hq hqn hη) (σ.cut_agr st.nb) hw
    · cases σ.cut st.nb b <;> trivial
  · obtain ⟨n, hn⟩ := hR.glob g hg (hal g ha).2
    exact ⟨n, by rw [← σ.cut_agr st.nb g (by omega)]; exact hn⟩
theorem tmps_only {q pn : Pt} {σ : Sig} {st : St} {a : Act} {op : Op} (hq : q.le pn) (hqn : q.n = st.ctx.n) (hwf : ∀ t ∈ tmpsIn op.operands.toList, (getT st.tmps t).wf st.ctx.n st.nb = true)
    (hd : ∀ t ∈ tmpsIn op.operands.toList, DenV pn.η σ (getT st.tmps t) (a.tmps.getD t undef)) : TmpsD q (σ.cut st.nb) (restrictT st.tmps (tmpsIn op.operands.toList)) a := fun t η hη => by
  rw [getT_restrict]
  split
  · rename_i ht
    exact (hd t ht).wf (agr_at hq hqn hη) (σ.cut_agr st.nb) (hwf t ht)
  · trivial
/-- what comes of it, among other blocks -/
theorem frame {q' pn : Pt} {st : St} {u : Upd} {σ : Sig} {h : Tr ABlk} {NB : Nat} {w w' : World} {v : Value} {ts : List Nat} (hq' : q'.le pn) (hNB : u.nb ≤ NB) (_h8 : 8 ≤ st.nb)
    (hR : RelH pn σ h NB w) (hts : ∀ b ∈ ts, b < st.nb) (hag : ∀ b ∈ ts, blk h b = blk st.heap b) (hno : ∀ b, st.nb ≤ b → b < u.nb → σ b = .no)
    (hg : Goes q' st.nb (σ.cut st.nb) (restrictTo st.heap ts) w u v w') :
    ∃ σ', (∀ b, b < st.nb ∨ u.nb ≤ b → σ' b = σ b) ∧ σ.ext σ' ∧ (pn.All fun η => DenV η σ' u.val v) ∧ RelH pn σ' (copyBlks u.heap (ts ++ numsFrom (u.nb - st.nb) st.nb) h) NB w' ∧
      Step 0 σ h w 0 σ' (copyBlks u.heap (ts ++ numsFrom (u.nb - st.nb) st.nb) h) w' := by
  obtain ⟨σ₁, hst, hd, hR'⟩ := hg
  have hle := hst.le
  have e1 : ∀ b, b < st.nb → σ₁ b = σ b := fun b hb => (hst.ext b hb).trans (σ.cut_agr st.nb b hb).symm
  obtain ⟨σ₂, hσ₂⟩ : ∃ σ₂ : Sig, σ₂ = fun b => if st.nb ≤ b ∧ b < u.nb then σ₁ b else σ b := ⟨_, rfl⟩
  have e2 : ∀ b, b < u.nb → σ₂ b = σ₁ b := fun b hb => by
    subst hσ₂
    by_cases hb2 : st.nb ≤ b
    · simp [hb, hb2]
    · have : ¬ (st.nb ≤ b ∧ b < u.nb) := by omega
      simp only [this, if_false]
      exact (e1 b (by omega)).symm
  have e3 : ∀ b, b < st.nb ∨ u.nb ≤ b → σ₂ b = σ b := fun b hb => by
    subst hσ₂
    have : ¬ (st.nb ≤ b ∧ b < u.nb) := by omega
    simp only [this, if_false]
  have hext₁ : σ₁.ext σ₂ := fun b hb => e2 b (by
    rcases Nat.lt_or_ge b u.nb with h | h
    · exact h
    · exact absurd (hR'.full b h) hb)
  have hext : σ.ext σ₂ := fun b hb => e3 b (by
    rcases Nat.lt_or_ge b st.nb with h | h
    · exact .inl h
    · rcases Nat.lt_or_ge b u.nb with h' | h'
      · exact absurd (hno b h h') hb
      · exact .inr h')
  obtain ⟨L, hL⟩ : ∃ L, L = ts ++ numsFrom (u.nb - st.nb) st.nb := ⟨_, rfl⟩
  rw [← hL]
  have hLlt : ∀ b, b ∈ L → b < u.nb := fun b hb => by
    rw [hL, List.mem_append, mem_numsFrom] at hb
    rcases hb with hb | hb
    · have := hts b hb; omega
    · omega
  have hLno : ∀ b, b ∉ L → b ∉ ts ∧ (b < st.nb ∨ u.nb ≤ b) := fun b hb => by
    rw [hL, List.mem_append, mem_numsFrom] at hb
    exact ⟨fun h => hb (.inl h), by
      have : ¬ (st.nb ≤ b ∧ b < st.nb + (u.nb - st.nb)) := fun h => hb (.inr h)
      omega⟩
  have hblk : ∀ b, blk (copyBlks u.heap L h) b = if b ∈ L then blk u.heap b else blk h b := fun b => blk_copy _ _ _ _
  have hownR : ∀ c, Own (restrictTo st.heap ts) (σ.cut st.nb) c → ∃ b n, b ∈ ts ∧ Alive h b ∧ σ b = .at_ c n := fun c ⟨b, n, ha, hb⟩ => by
    unfold Alive at ha
    rw [blk_restrict] at ha
    by_cases hm : b ∈ ts
    · rw [if_pos hm] at ha
      exact ⟨b, n, hm, by unfold Alive; rw [hag b hm]; exact ha, Sig.cut_at hb⟩
    · rw [if_neg hm] at ha; exact absurd rfl ha
  have hoth : ∀ b c n, b ∉ L → Alive h b → σ b = .at_ c n → c < w.heap.size ∧ ¬ Own (restrictTo st.heap ts) (σ.cut st.nb) c := fun b c n hb ha hc => by
    refine ⟨hR.own_lt ⟨b, n, ha, hc⟩, fun ho => ?_⟩
    obtain ⟨b', n', hm, ha', hc'⟩ := hownR c ho
    have := hR.inj b b' c n n' ha ha' hc hc'
    subst this
    exact (hLno b hb).1 hm
  have halive : ∀ b, Alive (copyBlks u.heap L h) b → (b ∈ L ∧ Alive u.heap b) ∨ (b ∉ L ∧ Alive h b) := fun b ha => by
    unfold Alive at ha
    rw [hblk] at ha
    by_cases hb : b ∈ L
    · rw [if_pos hb] at ha; exact .inl ⟨hb, ha⟩
    · rw [if_neg hb] at ha; exact .inr ⟨hb, ha⟩
  refine ⟨σ₂, e3, hext, fun η hη => (hd.mono hq' η hη).ext hext₁, ⟨fun b hb => ?_, fun b η hη => ?_, fun b b' c n n' h1 h2 h3 h4 => ?_, fun g hg ha => ?_⟩, ⟨Nat.le_refl _, fun b hb => by omega, hst.size, fun c hc ho => hst.fr c hc fun h => ?_, fun c hc ho => ?_, hst.shp, fun c X0 U0 fr0 hc0 ho => ?_, hst.io⟩⟩
  · rw [e3 b (.inr (by omega))]; exact hR.full b hb
  · rw [hblk]
    split
    · rename_i hb
      rw [e2 b (hLlt b hb)]
      exact ((hR'.rel b).mono hq' η hη).ext hext₁
    · rename_i hb
      rw [e3 b (hLno b hb).2]
      have h0 := hR.rel b η hη
      by_cases hdead : blk h b = .dead
      · rw [hdead]; cases σ b <;> trivial
      · exact (h0.world fun c n hc => hst.fr c (hoth b c n hb hdead hc).1 (hoth b c n hb hdead hc).2).ext hext
  · rcases halive b h1 with ⟨k1, k2⟩ | ⟨k1, k2⟩ <;> rcases halive b' h2 with ⟨k3, k4⟩ | ⟨k3, k4⟩
    · rw [e2 b (hLlt b k1)] at h3
      rw [e2 b' (hLlt b' k3)] at h4
      exact hR'.inj b b' c n n' k2 k4 h3 h4
    · rw [e2 b (hLlt b k1)] at h3
      rw [e3 b' (hLno b' k3).2] at h4
      obtain ⟨g1, g2⟩ := hoth b' c n' k3 k4 h4
      exact absurd (hst.own c g1 ⟨b, n, k2, h3⟩) g2
    · rw [e3 b (hLno b k1).2] at h3
      rw [e2 b' (hLlt b' k3)] at h4
      obtain ⟨g1, g2⟩ := hoth b c n k1 k2 h3
      exact absurd (hst.own c g1 ⟨b', n', k4, h4⟩) g2
    · rw [e3 b (hLno b k1).2] at h3
      rw [e3 b' (hLno b' k3).2] at h4
      exact hR.inj b b' c n n' k2 k4 h3 h4
  · rcases halive g ha with ⟨k1, k2⟩ | ⟨k1, k2⟩
    · obtain ⟨n, hn⟩ := hR'.glob g hg k2
      exact ⟨n, by rw [e2 g (hLlt g k1)]; exact hn⟩
    · obtain ⟨n, hn⟩ := hR.glob g hg k2
      exact ⟨n, by rw [e3 g (hLno g k1).2]; exact hn⟩
  · obtain ⟨b, n, _, h2, h3⟩ := hownR c h
    exact ho ⟨b, n, h2, h3⟩
  · obtain ⟨b, n, ha, hb⟩ := ho
    rcases halive b ha with ⟨k1, k2⟩ | ⟨k1, k2⟩
    · rw [e2 b (hLlt b k1)] at hb
      obtain ⟨b', n', _, h2, h3⟩ := hownR c (hst.own c hc ⟨b, n, k2, hb⟩)
      exact ⟨b', n', h2, h3⟩
    · rw [e3 b (hLno b k1).2] at hb
      exact ⟨b, n, k2, hb⟩
  · obtain ⟨b, n, ha, hb⟩ := ho
    rcases halive b ha with ⟨k1, k2⟩ | ⟨k1, k2⟩
    · rw [e2 b (hLlt b k1)] at hb
      exact hst.frz c X0 U0 fr0 hc0 ⟨b, n, k2, hb⟩
    · rw [e3 b (hLno b k1).2] at hb
      obtain ⟨g1, g2⟩ := hoth b c n k1 k2 hb
      exact ⟨X0, by rw [hst.fr c g1 g2]; exact hc0⟩
end
end Go.Hal
namespace Go.Hal
noncomputable section
open Go

theorem maskOf_bit {acc : List (Nat × Nat)} {j : Nat} : ∀ {l : List Edge} {s : Nat}, Nat.testBit (maskOf acc l s) j = true → Nat.testBit s j = true ∨ ∃ e ∈ l, binds e = true ∧ (j = e.on ∨ Nat.testBit (maskAt e.on acc) j = true)
  | [], s, h => .inl h
  | e :: r, s, h => by
    simp only [maskOf] at h
    rcases maskOf_bit h with h | ⟨e', h1, h2⟩
    · cases hb : binds e
      · rw [hb] at h; exact .inl h
      · rw [hb] at h
        simp only [cond_true] at h
        have h : ((s ||| 2 ^ e.on) ||| maskAt e.on acc).testBit j = true := h
        rw [Nat.testBit_or, Nat.testBit_or, Nat.testBit_two_pow] at h
        simp only [Bool.or_eq_true, decide_eq_true_eq] at h
        rcases h with (h | h) | h
        · exact .inl h
        · exact .inr ⟨e, List.mem_cons_self, hb, .inl h.symm⟩
        · exact .inr ⟨e, List.mem_cons_self, hb, .inr h⟩
    · exact .inr ⟨e', List.mem_cons_of_mem _ h1, h2⟩
def AccOk (ops : Array Oper) : List (Nat × Nat) → Nat → Prop
  | [], n => n = 0
  | (i, m) :: r, n => n = i + 1 ∧ (∃ o, ops[i]? = some o ∧ m = maskOf r o.after.toList 0) ∧ AccOk ops r i
theorem masks_ok {ops : Array Oper} : ∀ {l : List Oper} {acc : List (Nat × Nat)} {i : Nat}, AccOk ops acc i → (∀ j, j < l.length → ops[i + j]? = l[j]?) → AccOk ops (masks l acc i) (i + l.length)
  | [], acc, i, h, _ => h
  | o :: l, acc, i, h, hl => by
    simp only [masks, List.length_cons]
    rw [show i + (l.length + 1) = (i + 1) + l.length by omega]
    refine masks_ok ⟨rfl, ⟨o, by simpa using hl 0 (by simp), rfl⟩, h⟩ fun j hj => ?_
    have := hl (j + 1) (by simp; omega)
    rw [show i + 1 + j = i + (j + 1) by omega, this]; simp
theorem maskAt_lt {ops : Array Oper} {j : Nat} : ∀ {acc : List (Nat × Nat)} {n x : Nat}, AccOk ops acc n → Nat.testBit (maskAt x acc) j = true → x < n
  | [], n, x, _, h => by simp [maskAt] at h
  | (i, m) :: r, n, x, h, hb => by
    obtain ⟨rfl, _, h⟩ := h
    simp only [maskAt] at hb
    cases hx : Nat.beq x i
    · rw [hx] at hb
      have := maskAt_lt h hb
      omega
    · have := (beq_iff _ _).1 hx; omega
theorem maskAt_tail {i x m : Nat} {r : List (Nat × Nat)} (h : x ≠ i) : maskAt x ((i, m) :: r) = maskAt x r := by
  simp only [maskAt]
  cases hx : Nat.beq x i
  · rfl
  · exact absurd ((beq_iff _ _).1 hx) h
theorem maskAt_head {i m : Nat} {r : List (Nat × Nat)} : maskAt i ((i, m) :: r) = m := by
  have : Nat.beq i i = true := (beq_iff _ _).2 rfl
  simp only [maskAt, this, cond_true]
theorem mask_bit {ops : Array Oper} {j : Nat} : ∀ {acc : List (Nat × Nat)} {n i : Nat}, AccOk ops acc n → Nat.testBit (maskAt i acc) j = true →
    ∃ o, ops[i]? = some o ∧ ∃ e ∈ o.after.toList, binds e = true ∧ (j = e.on ∨ (e.on < i ∧ Nat.testBit (maskAt e.on acc) j = true))
  | [], n, i, _, h => by simp [maskAt] at h
  | (i0, m) :: r, n, i, h, hb => by
    obtain ⟨rfl, ⟨o, ho, hm⟩, h⟩ := h
    by_cases hi : i = i0
    · subst hi
      rw [maskAt_head, hm] at hb
      rcases maskOf_bit hb with h0 | ⟨e, h1, h2, h3⟩
      · simp at h0
      · refine ⟨o, ho, e, h1, h2, ?_⟩
        rcases h3 with h3 | h3
        · exact .inl h3
        · have hlt := maskAt_lt h h3
          exact .inr ⟨hlt, by rw [maskAt_tail (by omega)]; exact h3⟩
    · rw [maskAt_tail hi] at hb
      obtain ⟨o', h1, e, h2, h3, h4⟩ := mask_bit h hb
      refine ⟨o', h1, e, h2, h3, ?_⟩
      rcases h4 with h4 | ⟨h4, h5⟩
      · exact .inl h4
      · exact .inr ⟨h4, by rw [maskAt_tail (by have := maskAt_lt h h5; omega)]; exact h5⟩
/-- what edges ask for -/
def EdgesIn (ops : Array Oper) (D : Nat → Prop) (i : Nat) : Prop := ∀ o, ops[i]? = some o → ∀ e ∈ o.after.toList, binds e = true → D e.on
theorem mask_in {ops : Array Oper} {acc : List (Nat × Nat)} {n : Nat} (h : AccOk ops acc n) {D : Nat → Prop} (hD : ∀ i, D i → EdgesIn ops D i) : ∀ i, EdgesIn ops D i → ∀ j, Nat.testBit (maskAt i acc) j = true → D j := by
  intro i
  induction i using Nat.strongRecOn with
  | _ i ih =>
    intro hi j hb
    obtain ⟨o, ho, e, h1, h2, h3⟩ := mask_bit h hb
    have hde := hi o ho e h1 h2
    rcases h3 with rfl | ⟨h3, h4⟩
    · exact hde
    · exact ih _ h3 (hD _ hde) j h4
/-! What is checked. -/
theorem take_rev {ops : Array Oper} {k : Nat} {o : Oper} (h : ops[k]? = some o) : (ops.toList.take (k + 1)).reverse = o :: (ops.toList.take k).reverse := by
  rw [← Array.getElem?_toList] at h
  rw [List.take_add_one, h]
  simp
theorem range_rev (tc : Nat → Tc) (k : Nat) : ((List.range (k + 1)).map tc).reverse = tc k :: ((List.range k).map tc).reverse := by
  rw [List.range_succ]; simp
theorem statAll_all {ops : Array Oper} {x : Oper} {m : Nat} : ∀ {acc : List (Nat × Nat)} {k : Nat}, AccOk ops acc k → statAll ops x m (zipM (ops.toList.take k).reverse acc) = true →
    ∀ j, j < k → ∀ y, ops[j]? = some y → Nat.testBit m j = true ∨ slotsOk ops x y = true
  | [], k, h, _, j, hj, _, _ => by have : k = 0 := h; omega
  | (i, m') :: r, k, h, hd, j, hj, y, hy => by
    obtain ⟨rfl, ⟨o, ho, _⟩, h⟩ := h
    rw [take_rev ho] at hd
    simp only [zipM, statAll, Bool.and_eq_true, Bool.or_eq_true] at hd
    by_cases hji : j = i
    · subst hji
      rw [ho] at hy
      cases hy
      exact hd.1
    · exact statAll_all h hd.2 j (by omega) y hy
theorem edgesOk_lt {i : Nat} : ∀ {l : List Edge}, edgesOk i l = true → ∀ e ∈ l, binds e = true → e.on < i
  | e :: r, h, e', hm, hb => by
    simp only [edgesOk, Bool.and_eq_true, Bool.or_eq_true, Bool.not_eq_true', blt_iff] at h
    rcases List.mem_cons.1 hm with rfl | hm
    · rcases h.1 with h1 | h1
      · rw [hb] at h1; cases h1
      · exact h1
    · exact edgesOk_lt h.2 e' hm hb
theorem statOk_all {ops : Array Oper} : ∀ {acc : List (Nat × Nat)} {k : Nat}, AccOk ops acc k → statOk ops (zipM (ops.toList.take k).reverse acc) = true →
    ∀ i, i < k → ∀ x, ops[i]? = some x → (∀ e ∈ x.after.toList, binds e = true → e.on < i) ∧ ∀ j, j < i → ∀ y, ops[j]? = some y → Nat.testBit (maskAt i acc) j = true ∨ slotsOk ops x y = true
  | [], k, h, _, j, hj, _, _ => by have : k = 0 := h; omega
  | (i0, m') :: r, k, h, hd, i, hi, x, hx => by
    obtain ⟨rfl, ⟨o, ho, _⟩, h⟩ := h
    rw [take_rev ho] at hd
    simp only [zipM, statOk, Bool.and_eq_true] at hd
    obtain ⟨⟨h1, h2⟩, h3⟩ := hd
    by_cases hii : i = i0
    · subst hii
      rw [ho] at hx
      cases hx
      refine ⟨edgesOk_lt h1, fun j hj y hy => ?_⟩
      rw [maskAt_head]
      exact statAll_all h h2 j hj y hy
    · rw [maskAt_tail hii]
      exact statOk_all h h3 i (by omega) x hx
theorem dynOne_all {ops : Array Oper} {i m : Nat} {a : Tc} {tc : Nat → Tc} : ∀ {acc : List (Nat × Nat)} {k : Nat}, AccOk ops acc k → dynOne i m a (zipM (ops.toList.take k).reverse acc) ((List.range k).map tc).reverse = true →
    ∀ j, j < k → j ≠ i → (if j < i then Nat.testBit m j = true else Nat.testBit (maskAt j acc) i = true) ∨ (meets a (tc j) = false ∧ meets (tc j) a = false)
  | [], k, h, _, j, hj, _ => by have : k = 0 := h; omega
  | (i0, m') :: r, k, h, hd, j, hj, hne => by
    obtain ⟨rfl, ⟨o, ho, _⟩, h⟩ := h
    rw [take_rev ho, range_rev] at hd
    simp only [zipM, dynOne, Bool.and_eq_true, Bool.or_eq_true, Bool.not_eq_true'] at hd
    by_cases hji : j = i0
    · subst hji
      rw [maskAt_head]
      rcases hd.1 with (h1 | h1) | h1
      · exact absurd ((beq_iff _ _).1 h1).symm hne
      · refine .inl ?_
        by_cases hlt : j < i
        · rw [if_pos hlt]
          have : Nat.blt j i = true := (blt_iff _ _).2 hlt
          rw [this] at h1
          exact h1
        · rw [if_neg hlt]
          have : Nat.blt j i = false := by
            cases hb : Nat.blt j i
            · rfl
            · exact absurd ((blt_iff _ _).1 hb) hlt
          rw [this] at h1
          exact h1
      · exact .inr h1
    · rw [maskAt_tail hji]
      exact dynOne_all h hd.2 j (by omega) hne
theorem dynOk_all {ops : Array Oper} {om : List (Oper × Nat × Nat)} {tr : List Tc} {tc : Nat → Tc} : ∀ {acc : List (Nat × Nat)} {k : Nat}, AccOk ops acc k → dynOk om tr (zipM (ops.toList.take k).reverse acc) ((List.range k).map tc).reverse = true →
    ∀ i, i < k → (tc i).ws ≠ [] → dynOne i (maskAt i acc) (tc i) om tr = true
  | [], k, h, _, i, hi, _ => by have : k = 0 := h; omega
  | (i0, m') :: r, k, h, hd, i, hi, hne => by
    obtain ⟨rfl, ⟨o, ho, _⟩, h⟩ := h
    rw [take_rev ho, range_rev] at hd
    simp only [zipM, dynOk, Bool.and_eq_true] at hd
    by_cases hii : i = i0
    · subst hii
      rw [maskAt_head]
      have h1 := hd.1
      split at h1
      · rename_i h0; exact absurd h0 hne
      · exact h1
    · rw [maskAt_tail hii]
      exact dynOk_all h hd.2 i (by omega) hne
theorem drawsOk_mem {om : List (Oper × Nat × Nat)} : ∀ {l : List (St × List Tc)} {outs : List St} {st : St} {tr : List Tc}, drawsOk om l = .ok outs → (st, tr) ∈ l → dynOk om tr om tr = true ∧ st ∈ outs
  | (st0, tr0) :: r, outs, st, tr, h, hm => by
    simp only [drawsOk] at h
    obtain ⟨hc, h⟩ := bif_ok h
    obtain ⟨l, hl, h⟩ := R.bind_ok h
    cases h
    rcases List.mem_cons.1 hm with hm | hm
    · cases hm; exact ⟨hc, List.mem_cons_self⟩
    · obtain ⟨h1, h2⟩ := drawsOk_mem hl hm
      exact ⟨h1, List.mem_cons_of_mem _ h2⟩

/-! Slices. -/
/-- of those that write, those that are done are those below -/
def Sl (D W : Nat → Prop) (m : Nat) : Prop := (∀ j, D j → W j → j < m) ∧ ∀ j, j < m → W j → D j
theorem still {α : Type} {f : Nat → α} {W : Nat → Prop} {n : Nat} (hf : ∀ j, j < n → ¬ W j → f (j + 1) = f j) {a : Nat} : ∀ {b : Nat}, a ≤ b → b ≤ n → (∀ j, a ≤ j → j < b → ¬ W j) → f b = f a
  | 0, h, _, _ => by have : a = 0 := by omega
                     rw [this]
  | b + 1, h, hn, hw => by
    by_cases hab : a = b + 1
    · rw [hab]
    · rw [hf b (by omega) (hw b (by omega) (by omega))]
      exact still hf (by omega) (by omega) fun j h1 h2 => hw j h1 (by omega)
theorem same {α : Type} {f : Nat → α} {W : Nat → Prop} {n : Nat} (hf : ∀ j, j < n → ¬ W j → f (j + 1) = f j) {m k : Nat} (hm : m ≤ n) (hk : k ≤ n) (h : ∀ j, W j → (j < m ↔ j < k)) : f m = f k := by
  rcases Nat.le_total m k with hmk | hmk
  · refine (still hf hmk hk fun j h1 h2 hw => ?_).symm
    have := (h j hw).2 h2; omega
  · refine still hf hmk hm fun j h1 h2 hw => ?_
    have := (h j hw).1 h2; omega
/-- one that is ready -/
structure Ready (D : Nat → Prop) (ord : Nat → Nat → Prop) (k : Nat) : Prop where
  new : ¬ D k
  pre : ∀ j, ord j k → D j
  closed : ∀ i j, D i → ord j i → D j
/-- ordered with all others of a kind -/
def Ordd (ord : Nat → Nat → Prop) (W : Nat → Prop) (k : Nat) : Prop := ∀ j, W j → j ≠ k → (j < k → ord j k) ∧ (k < j → ord k j)
theorem Sl.read {D : Nat → Prop} {ord : Nat → Nat → Prop} {k m : Nat} (hr : Ready D ord k) {W W' : Nat → Prop} (hS : Sl D W m) (hW : ∀ j, W' j → W j) (ho : Ordd ord W' k) : ∀ j, W' j → (j < m ↔ j < k) := fun j hw => by
  refine ⟨fun h => ?_, fun h => ?_⟩
  · have hd := hS.2 j h (hW j hw)
    have hne : j ≠ k := fun he => hr.new (he ▸ hd)
    rcases Nat.lt_or_ge j k with h1 | h1
    · exact h1
    · exact absurd (hr.closed j k hd ((ho j hw hne).2 (by omega))) hr.new
  · exact hS.1 j (hr.pre j ((ho j hw (by omega)).1 h)) (hW j hw)
theorem Sl.skip {D W : Nat → Prop} {m k : Nat} (hS : Sl D W m) (hk : ¬ W k) : Sl (fun j => D j ∨ j = k) W m :=
  ⟨fun j hd hw => by
    rcases hd with hd | rfl
    · exact hS.1 j hd hw
    · exact absurd hw hk, fun j h hw => .inl (hS.2 j h hw)⟩
theorem Sl.wrote {D : Nat → Prop} {ord : Nat → Nat → Prop} {k m : Nat} (hr : Ready D ord k) {W : Nat → Prop} (_hS : Sl D W m) (ho : Ordd ord W k) : Sl (fun j => D j ∨ j = k) W (k + 1) := by
  refine ⟨fun j hd hw => ?_, fun j h hw => ?_⟩
  · rcases hd with hd | rfl
    · have hne : j ≠ k := fun he => hr.new (he ▸ hd)
      rcases Nat.lt_or_ge j k with h1 | h1
      · omega
      · exact absurd (hr.closed j k hd ((ho j hw hne).2 (by omega))) hr.new
    · omega
  · by_cases hne : j = k
    · exact .inr hne
    · exact .inl (hr.pre j ((ho j hw hne).1 (by omega)))
theorem Sl.all {D W : Nat → Prop} {m n : Nat} (hS : Sl D W m) (hD : ∀ j, j < n → D j) (_hW : ∀ j, W j → j < n) (hm : m ≤ n) : ∀ j, W j → (j < m ↔ j < n) := fun j hw => ⟨fun h => by omega, fun h => hS.1 j (hD j h) hw⟩
/-! Pairs. -/
theorem meetsB_mem {ts : List Nat} {b i : Nat} (hb : b ∈ ts) : ∀ {ws : List (Nat × Nat)}, (b, i) ∈ ws → meetsB ws ts = true
  | (c, j) :: r, h => by
    simp only [meetsB, Bool.or_eq_true]
    rcases List.mem_cons.1 h with h | h
    · cases h; exact .inl (memN_iff.2 hb)
    · exact .inr (meetsB_mem hb h)
theorem meetsL_mem {b o n i : Nat} (hi : i = 0 ∨ (o + 1 ≤ i ∧ i ≤ o + n)) : ∀ {ws : List (Nat × Nat)}, (b, i) ∈ ws → meetsL ws b o n = true
  | (c, j) :: r, h => by
    simp only [meetsL, Bool.or_eq_true, Bool.and_eq_true, beq_iff, ble_iff]
    rcases List.mem_cons.1 h with h | h
    · cases h; exact .inl ⟨rfl, hi⟩
    · exact .inr (meetsL_mem hi h)
structure Apart (ops : Array Oper) (x y : Oper) (a b : Tc) : Prop where
  ab : meets a b = false
  ba : meets b a = false
  dst : ∀ d, x.dst = some d → y.dst ≠ some d
  xy : ∀ d, x.dst = some d → d ∉ tmpsOf ops y
  yx : ∀ d, y.dst = some d → d ∉ tmpsOf ops x
theorem meets_nil {a b : Tc} (h : a.ws = []) : meets a b = false := by
  unfold meets
  rw [h]
  cases b.ls <;> rfl
theorem slotsOk_apart {ops : Array Oper} {x y : Oper} {a b : Tc} (h : slotsOk ops x y = true) (h1 : meets a b = false) (h2 : meets b a = false) : Apart ops x y a b := by
  simp only [slotsOk, Bool.and_eq_true] at h
  obtain ⟨⟨h3, h4⟩, h5⟩ := h
  refine ⟨h1, h2, fun d hx hy => ?_, fun d hx hm => ?_, fun d hy hm => ?_⟩
  · rw [hx, hy] at h3
    simp [notSame] at h3
  · rw [hx] at h4
    simp [notIn, memN_iff.2 hm] at h4
  · rw [hy] at h5
    simp [notIn, memN_iff.2 hm] at h5
/-- what has been checked of two operations -/
theorem pair_ok {ops : Array Oper} {tc : Nat → Tc} {acc : List (Nat × Nat)} {k : Nat} (h : AccOk ops acc k) (hs : statOk ops (zipM (ops.toList.take k).reverse acc) = true)
    (hd : dynOk (zipM (ops.toList.take k).reverse acc) ((List.range k).map tc).reverse (zipM (ops.toList.take k).reverse acc) ((List.range k).map tc).reverse = true) :
    ∀ i, i < k → ∀ x, ops[i]? = some x → ∀ j, j < i → ∀ y, ops[j]? = some y → Nat.testBit (maskAt i acc) j = true ∨ Apart ops x y (tc i) (tc j) := fun i hi x hx j hj y hy => by
  rcases (statOk_all h hs i hi x hx).2 j hj y hy with h1 | h1
  · exact .inl h1
  · by_cases hi0 : (tc i).ws = []
    · by_cases hj0 : (tc j).ws = []
      · exact .inr (slotsOk_apart h1 (meets_nil hi0) (meets_nil hj0))
      · rcases dynOne_all h (dynOk_all h hd j (by omega) hj0) i hi (by omega) with h2 | h2
        · rw [if_neg (by omega)] at h2
          exact .inl h2
        · exact .inr (slotsOk_apart h1 h2.2 h2.1)
    · rcases dynOne_all h (dynOk_all h hd i hi hi0) j (by omega) (by omega) with h2 | h2
      · rw [if_pos hj] at h2
        exact .inl h2
      · exact .inr (slotsOk_apart h1 h2.1 h2.2)
theorem Apart.symm {ops : Array Oper} {x y : Oper} {a b : Tc} (h : Apart ops x y a b) : Apart ops y x b a := ⟨h.ba, h.ab, fun d hy hx => h.dst d hx hy, h.yx, h.xy⟩
end
end Go.Hal
namespace Go.Hal
noncomputable section
open Go
variable {P : Program}

/-! Where contents differ. -/
theorem diffCells_mask {b : Nat} : ∀ {a c : List SV} {k o n : Nat}, a.length = c.length → (∀ i, (b, i) ∈ diffCells b k a c → ¬ (k + o + 1 ≤ i ∧ i ≤ k + o + n)) → maskCells o n a = maskCells o n c
  | [], [], k, o, n, _, _ => rfl
  | x :: a, y :: c, k, o, n, hl, h => by
    have hrest : ∀ i, (b, i) ∈ diffCells b (k + 1) a c → (b, i) ∈ diffCells b k (x :: a) (y :: c) := fun i hi => by
      simp only [diffCells]
      cases beqSV x y
      · exact List.mem_cons_of_mem _ hi
      · exact hi
    have hl' : a.length = c.length := by simpa using hl
    cases o with
    | succ o =>
      simp only [maskCells]
      rw [diffCells_mask (k := k + 1) hl' fun i hi => by have := h i (hrest i hi); omega]
    | zero =>
      cases n with
      | zero =>
        simp only [maskCells]
        rw [diffCells_mask (k := k + 1) (b := b) hl' fun i _ => by omega]
      | succ n =>
        simp only [maskCells]
        have hxy : x = y := by
          cases he : beqSV x y
          · exact absurd ⟨by omega, by omega⟩ (h (k + 1) (by simp only [diffCells, he, cond_false]; exact List.mem_cons_self))
          · exact beqSV_eq he
        rw [hxy, diffCells_mask (k := k + 1) hl' fun i hi => by have := h i (hrest i hi); omega]
theorem diffCells_nil {b : Nat} : ∀ {a c : List SV} {k : Nat}, a.length = c.length → (∀ i, (b, i) ∉ diffCells b k a c) → a = c
  | [], [], _, _, _ => rfl
  | x :: a, y :: c, k, hl, h => by
    have hl' : a.length = c.length := by simpa using hl
    simp only [diffCells] at h
    cases he : beqSV x y
    · rw [he] at h
      exact absurd List.mem_cons_self (h (k + 1))
    · rw [he] at h
      rw [beqSV_eq he, diffCells_nil (k := k + 1) hl' h]
theorem diffCells_fst {b : Nat} : ∀ {a c : List SV} {k : Nat} {e : Nat × Nat}, e ∈ diffCells b k a c → e.1 = b
  | [], _, _, _, h => by simp [diffCells] at h
  | _ :: _, [], _, _, h => by simp [diffCells] at h
  | x :: a, y :: c, k, e, h => by
    simp only [diffCells] at h
    cases he : beqSV x y
    · rw [he] at h
      rcases List.mem_cons.1 h with rfl | h
      · rfl
      · exact diffCells_fst h
    · rw [he] at h
      exact diffCells_fst h
theorem diff_cases {b : Nat} {x y : ABlk} : x = y ∨ (b, 0) ∈ diff b x y ∨ ∃ t cs ds, x = .cells t cs ∧ y = .cells t ds ∧ cs.length = ds.length ∧ diff b x y = diffCells b 0 cs ds := by
  cases he : beqBlk x y
  · by_cases hc : ∃ s a t c, x = .cells s a ∧ y = .cells t c ∧ (Nat.beq s t && Nat.beq (clen a) (clen c)) = true
    · obtain ⟨s, a, t, c, rfl, rfl, hb⟩ := hc
      refine .inr (.inr ?_)
      have hb' := hb
      simp only [Bool.and_eq_true, beq_iff, clen_eq] at hb
      obtain ⟨rfl, hb⟩ := hb
      exact ⟨s, a, c, rfl, rfl, hb, by simp only [diff, he, hb', cond_false, cond_true]⟩
    · refine .inr (.inl ?_)
      simp only [diff, he, cond_false]
      split
      · rename_i s a t c
        cases hb : (Nat.beq s t && Nat.beq (clen a) (clen c))
        · exact List.mem_singleton.2 rfl
        · exact absurd ⟨s, a, t, c, rfl, rfl, hb⟩ hc
      · exact List.mem_singleton.2 rfl
  · exact .inl (beqBlk_eq he)
theorem diff_fst {b : Nat} {x y : ABlk} {e : Nat × Nat} (h : e ∈ diff b x y) : e.1 = b := by
  unfold diff at h
  cases he : beqBlk x y
  · rw [he] at h
    simp only [cond_false] at h
    split at h
    · rename_i s a t c
      cases hb : (Nat.beq s t && Nat.beq (clen a) (clen c))
      · rw [hb] at h; rw [List.mem_singleton.1 h]
      · rw [hb] at h; exact diffCells_fst h
    · rw [List.mem_singleton.1 h]
  · rw [he] at h; cases h
theorem mem_diffs {h h' : Tr ABlk} : ∀ {ts : List Nat} {b i : Nat}, (b, i) ∈ diffs h h' ts ↔ b ∈ ts ∧ (b, i) ∈ diff b (blk h b) (blk h' b)
  | [], b, i => by simp [diffs]
  | t :: ts, b, i => by
    simp only [diffs, List.mem_append, mem_diffs (ts := ts), List.mem_cons]
    constructor
    · rintro (h1 | ⟨h1, h2⟩)
      · have : b = t := diff_fst h1
        subst this
        exact ⟨.inl rfl, h1⟩
      · exact ⟨.inr h1, h2⟩
    · rintro ⟨rfl | h1, h2⟩
      · exact .inl h2
      · exact .inr ⟨h1, h2⟩
theorem mem_newWs : ∀ {l : List Nat} {b i : Nat}, (b, i) ∈ newWs l ↔ b ∈ l ∧ i = 0
  | [], b, i => by simp [newWs]
  | t :: l, b, i => by
    simp only [newWs, List.mem_cons, mem_newWs (l := l), Prod.mk.injEq]
    constructor
    · rintro (⟨rfl, rfl⟩ | ⟨h1, h2⟩)
      · exact ⟨.inl rfl, rfl⟩
      · exact ⟨.inr h1, h2⟩
    · rintro ⟨rfl | h1, h2⟩
      · exact .inl ⟨rfl, h2⟩
      · exact .inr ⟨h1, h2⟩
theorem diff_none {b : Nat} {x y : ABlk} (h : ∀ i, (b, i) ∉ diff b x y) : x = y := by
  rcases diff_cases (b := b) (x := x) (y := y) with h1 | h1 | ⟨t, cs, ds, rfl, rfl, hl, he⟩
  · exact h1
  · exact absurd h1 (h 0)
  · rw [he] at h
    rw [diffCells_nil hl h]
theorem diff_mask {b o n : Nat} {x y : ABlk} (h : ∀ i, (b, i) ∈ diff b x y → i ≠ 0 ∧ ¬ (o + 1 ≤ i ∧ i ≤ o + n)) : maskBlk o n x = maskBlk o n y := by
  rcases diff_cases (b := b) (x := x) (y := y) with h1 | h1 | ⟨t, cs, ds, rfl, rfl, hl, he⟩
  · rw [h1]
  · exact absurd rfl (h 0 h1).1
  · rw [he] at h
    simp only [maskBlk]
    rw [diffCells_mask (k := 0) hl fun i hi => by have := (h i hi).2; omega]

/-! One operation. -/
/-- how the heap has changed -/
structure HeapD (st : St) (nb : Nat) (h : Tr ABlk) (tc : Tc) : Prop where
  le : st.nb ≤ nb
  heap : ∀ b, (∀ i, (b, i) ∉ tc.ws) → blk h b = blk st.heap b
  cells : ∀ b o n, (∀ i, (b, i) ∈ tc.ws → i ≠ 0 ∧ ¬ (o + 1 ≤ i ∧ i ≤ o + n)) → maskBlk o n (blk h b) = maskBlk o n (blk st.heap b)
  tsLt : ∀ b ∈ tc.ts, b < st.nb
  wsIn : ∀ b i, (b, i) ∈ tc.ws → b ∈ tc.ts ∨ (st.nb ≤ b ∧ b < nb)
theorem HeapD.refl {st : St} {ls : Option (Nat × Nat × Nat)} : HeapD st st.nb st.heap ⟨[], ls, []⟩ :=
  ⟨Nat.le_refl _, fun _ _ => rfl, fun _ _ _ _ => rfl, fun _b hb => (List.not_mem_nil hb).elim, fun _b _i hb => (List.not_mem_nil hb).elim⟩
/-- what has come of it, among others -/
def AfterU (pn : Pt) (NB : Nat) (st : St) (u : Upd) (ws : List (Nat × Nat)) (σ : Sig) (h : Tr ABlk) (w : World) (v : Value) (w' : World) : Prop :=
  ∃ σ' h', (∀ b, b < st.nb ∨ u.nb ≤ b → σ' b = σ b) ∧ σ.ext σ' ∧ (∀ b, (∀ i, (b, i) ∉ ws) → blk h' b = blk h b) ∧ (∀ b i, (b, i) ∈ ws → blk h' b = blk u.heap b) ∧
    (pn.All fun η => DenV η σ' u.val v) ∧ RelH pn σ' h' NB w' ∧ Step 0 σ h w 0 σ' h' w'
/-- what an operation may count on -/
structure Fair (st : St) (ts : List Nat) (ls : Option (Nat × Nat × Nat)) (nb : Nat) (T : Tr AV) (h : Tr ABlk) (σ : Sig) (slots : List Nat) : Prop where
  slots : ∀ t ∈ slots, getT T t = getT st.tmps t
  ts : ∀ b ∈ ts, blk h b = blk st.heap b
  ls : ∀ b o n, ls = some (b, o, n) → maskBlk o n (blk h b) = maskBlk o n (blk st.heap b)
  new : ∀ b, st.nb ≤ b → b < nb → σ b = .no
theorem looks_load {env : Env} {st : St} {op : Op} {b o : Nat} {n : Option Nat} (h : looks env st op = some (b, o, n)) :
    ∃ t x ti, op = .load t x ∧ env.tys t = some ti ∧ evalA st x = .sc (.ptr b ⟨.ofNat o, []⟩) ∧ n = bif isAggD ti.desc then some ti.size else none := by
  unfold looks at h
  split at h
  · rename_i t x
    split at h
    · rename_i ti b' o' hti hx
      split at h
      · cases h
        exact ⟨t, x, ti, rfl, hti, hx, rfl⟩
      · cases h
    · cases h
  · cases h
theorem loadAt1_cells {h : Tr ABlk} {b o : Nat} {n : Option Nat} {v : AV} (hv : loadAt1 h b o n = .ok v) : ∃ t cs, blk h b = .cells t cs := by
  cases n with
  | none =>
    simp only [loadAt1] at hv
    split at hv
    · exact ⟨_, _, by assumption⟩
    · cases hv
  | some n =>
    simp only [loadAt1] at hv
    obtain ⟨_, hv⟩ := bif_no hv
    split at hv
    · exact ⟨_, _, by assumption⟩
    · cases hv
theorem mask_len : ∀ {o n : Nat} {cs : List SV}, (maskCells o n cs).length = cs.length
  | 0, 0, [] => rfl
  | 0, _ + 1, [] => rfl
  | _ + 1, _, [] => rfl
  | 0, 0, _ :: cs => by simp [maskCells, mask_len]
  | 0, n + 1, _ :: cs => by simp [maskCells, mask_len]
  | o + 1, n, _ :: cs => by simp [maskCells, mask_len]
theorem mask_get : ∀ {o n : Nat} {cs : List SV} {i : Nat}, o ≤ i → i < o + n → (maskCells o n cs)[i]? = cs[i]?
  | 0, 0, [], i, _, _ => rfl
  | 0, _ + 1, [], i, _, _ => rfl
  | _ + 1, _, [], i, _, _ => rfl
  | 0, 0, _ :: cs, i, h, h' => by omega
  | 0, n + 1, _ :: cs, 0, h, h' => rfl
  | 0, n + 1, _ :: cs, i + 1, h, h' => by
    simp only [maskCells, List.getElem?_cons_succ]
    exact mask_get (by omega) (by omega)
  | o + 1, n, _ :: cs, 0, h, h' => by omega
  | o + 1, n, _ :: cs, i + 1, h, h' => by
    simp only [maskCells, List.getElem?_cons_succ]
    exact mask_get (by omega) (by omega)
theorem mask_same {o n : Nat} {cs ds : List SV} (h : maskCells o n cs = maskCells o n ds) : cs.length = ds.length ∧ (cs.drop o).take n = (ds.drop o).take n := by
  refine ⟨by rw [← mask_len (o := o) (n := n) (cs := cs), h, mask_len], List.ext_getElem? fun i => ?_⟩
  rw [List.getElem?_take, List.getElem?_take]
  split
  · rw [List.getElem?_drop, List.getElem?_drop, ← mask_get (o := o) (n := n) (cs := cs) (i := o + i) (by omega) (by omega), h, mask_get (by omega) (by omega)]
  · rfl
/-- cells at a known place, in another heap that is alike there -/
theorem loadAt1_sound {ty : Nat → Option TI} (hT : TyOk P ty) {t : TypeId} {ti : TI} (ht : ty t = some ti) {h0 h : Tr ABlk} {b o : Nat} {n : Option Nat} (hn : n = bif isAggD ti.desc then some ti.size else none) {v : AV} (hv : loadAt1 h0 b o n = .ok v)
    (hm : maskBlk o (optN n) (blk h b) = maskBlk o (optN n) (blk h0 b)) {pn : Pt} {σ : Sig} {NB : Nat} {w : World} (hR : RelH pn σ h NB w) {c k : Nat} (hσ : σ b = .at_ c k) :
    ∃ x, (loadVar t ⟨c, o, none⟩).run P w = .ok x w ∧ pn.All fun η => DenV η σ v x := by
  obtain ⟨u, cs, hcs⟩ := loadAt1_cells hv
  have hds : ∃ ds, blk h b = .cells u ds ∧ maskCells o (optN n) ds = maskCells o (optN n) cs := by
    rw [hcs] at hm
    cases hb : blk h b with
    | cells u' ds =>
      rw [hb] at hm
      simp only [maskBlk, ABlk.cells.injEq] at hm
      exact ⟨ds, by rw [hm.1], hm.2⟩
    | _ => rw [hb] at hm; simp [maskBlk] at hm
  obtain ⟨ds, hds, hmask⟩ := hds
  have hB := hR.rel b
  rw [hds, hσ] at hB
  obtain ⟨vs, more, hc, hlen, hd⟩ := hB.self
  have hall : pn.All fun η => DenL η σ ds vs := fun η hη => by
    obtain ⟨vs', more', hc', _, hd'⟩ := hB η hη
    have he := CellsAt.inj hc hc'
    have hl : vs.length = vs'.length := by rw [← hd.length, ← hd'.length]
    have := (List.append_inj he hl).1
    rw [this]; exact hd'
  obtain ⟨U, fr, hcell⟩ := hc.get
  cases n with
  | none =>
    have hagg : isAggD ti.desc = false := by
      cases ha : isAggD ti.desc
      · rfl
      · rw [ha] at hn; cases hn
    have hmask : maskCells o 1 ds = maskCells o 1 cs := hmask
    simp only [loadAt1, hcs] at hv
    split at hv
    · rename_i s hs
      cases hv
      rw [cget_eq] at hs
      have hs' : ds[o]? = some s := by
        rw [← hs, ← mask_get (o := o) (n := 1) (cs := ds) (i := o) (by omega) (by omega), hmask, mask_get (by omega) (by omega)]
      obtain ⟨x, hx, _⟩ := DenL.get hd hs'
      have hox : o < vs.length := (List.getElem?_eq_some_iff.1 hx).1
      have hol : o < (vs ++ more).length := by rw [List.length_append]; omega
      refine ⟨x, ?_, fun η hη => ?_⟩
      · rw [run_loadVar_of hT ht hcell (o := o) (by rw [hagg]; exact hol)]
        simp only [hagg, Bool.false_eq_true, if_false]
        rw [List.getD_eq_getElem?_getD, List.getElem?_append_left hox, hx]
        rfl
      · obtain ⟨x', hx', hd'⟩ := DenL.get (hall η hη) hs'
        rw [hx] at hx'
        cases hx'
        exact DenV.of hd'
    · cases hv
  | some sz =>
    have hagg : isAggD ti.desc = true ∧ sz = ti.size := by
      cases ha : isAggD ti.desc
      · rw [ha] at hn; cases hn
      · rw [ha] at hn
        simp only [cond_true, Option.some.injEq] at hn
        exact ⟨rfl, hn⟩
    obtain ⟨hagg, rfl⟩ := hagg
    simp only [loadAt1] at hv
    obtain ⟨hz, hv⟩ := bif_no hv
    rw [hcs] at hv
    simp only at hv
    have hz : ti.size ≠ 0 := fun h => by rw [h] at hz; cases hz
    split at hv
    · rename_i l hl
      cases hv
      have hl' : cpart ds o ti.size = some l := by
        rw [← hl]
        have hmask : maskCells o ti.size ds = maskCells o ti.size cs := hmask
        simp only [cpart, ctake_eq, cdrop_eq, (mask_same hmask).2]
      have h1 : o + ti.size ≤ vs.length := by
        rcases cpart_sound hl' hd with ⟨h1, _⟩ | ⟨h1, _⟩
        · exact h1
        · exact absurd h1 hz
      refine ⟨.agg ⟨((vs ++ more).drop o).take ti.size⟩, ?_, fun η hη => ⟨_, rfl, ?_⟩⟩
      · rw [run_loadVar_of hT ht hcell (o := o) (by rw [hagg]; show o + ti.size ≤ (vs ++ more).length; rw [List.length_append]; omega)]
        simp only [hagg, if_true]
      · have : ((vs ++ more).drop o).take ti.size = (vs.drop o).take ti.size := by
          rw [List.drop_append_of_le_length (by omega), List.take_append_of_le_length (by rw [List.length_drop]; omega)]
        rw [this]
        rcases cpart_sound hl' (hall η hη) with ⟨_, _, h2⟩ | ⟨h2, _⟩
        · exact h2
        · exact absurd h2 hz
    · cases hv
theorem execT_sound {env : Env} (hE : EnvOk P env) {callF : CallF} (hC : CallOk P callF) {st : St} {o : Oper} {us : List (Upd × Tc)} {ts : List Nat} (h : execT env callF st o.op ts = .ok us) {p : Pt} (hs : Sat p st.ctx) (h8 : 8 ≤ st.nb)
    (hwf : ∀ t ∈ tmpsIn o.op.operands.toList, (getT st.tmps t).wf st.ctx.n st.nb = true) (hex : ∃ σ w a, TmpsD p σ st.tmps a ∧ RelH p σ st.heap st.nb w) :
    ∃ ut ∈ us, ∃ q, p.le q ∧ Sat q ut.1.ctx ∧ HeapD st ut.1.nb ut.1.heap ut.2 ∧ ∀ pn σ T h NB w a, q.le pn → ut.1.nb ≤ NB → TmpsD pn σ T a → RelH pn σ h NB w →
      Fair st ut.2.ts ut.2.ls ut.1.nb T h σ (tmpsIn o.op.operands.toList) → OpTo P o a w fun v w' => AfterU pn NB st ut.1 ut.2.ws σ h w v w' := by
  unfold execT at h
  obtain ⟨hw, h⟩ := bif_ok h
  obtain ⟨us0, hus0, h⟩ := R.bind_ok h
  cases h
  obtain ⟨u, hu, q, hq, hsq, hx⟩ := execA_sound hE hC hus0 (p := p) hs h8 (by
    obtain ⟨σ, w, a, hT, hR⟩ := hex
    exact ⟨σ.cut st.nb, w, a, tmps_only p.le_refl hs.1 hwf fun t _ => (hT t).self, rel_only p.le_refl hs.1 h8 hR hw fun _ _ => rfl⟩)
  refine ⟨_, List.mem_map_of_mem hu, q, hq, hsq, ?_⟩
  have hnb : st.nb ≤ u.nb := by
    obtain ⟨σ, w, a, hT, hR⟩ := hex
    obtain ⟨v, w', σ', hst, _⟩ := (hx (σ.cut st.nb) w a (tmps_only p.le_refl hs.1 hwf fun t _ => (hT t).self) (rel_only p.le_refl hs.1 h8 hR hw fun _ _ => rfl)).some
    exact hst.le
  have hlt : ∀ b ∈ ts, b < st.nb := fun b hb => (blksWf_mem hw hb).1
  have hin : ∀ {b}, b ∈ ts ++ numsFrom (u.nb - st.nb) st.nb ↔ b ∈ ts ∨ (st.nb ≤ b ∧ b < u.nb) := fun {b} => by
    rw [List.mem_append, mem_numsFrom]
    have : st.nb + (u.nb - st.nb) = u.nb := by omega
    rw [this]
  have hws : ∀ {b i}, (b, i) ∈ diffs st.heap u.heap ts ++ newWs (numsFrom (u.nb - st.nb) st.nb) ↔ (b ∈ ts ∧ (b, i) ∈ diff b (blk st.heap b) (blk u.heap b)) ∨ ((st.nb ≤ b ∧ b < u.nb) ∧ i = 0) := fun {b i} => by
    rw [List.mem_append, mem_diffs, mem_newWs, mem_numsFrom]
    have : st.nb + (u.nb - st.nb) = u.nb := by omega
    rw [this]
  have hno : ∀ {b}, (∀ i, (b, i) ∉ diffs st.heap u.heap ts ++ newWs (numsFrom (u.nb - st.nb) st.nb)) → ∀ h' : Tr ABlk, (∀ b ∈ ts, blk h' b = blk st.heap b) → blk (copyBlks u.heap (ts ++ numsFrom (u.nb - st.nb) st.nb) h') b = blk h' b := fun {b} hb h' hag => by
    rw [blk_copy]
    split
    · rename_i hm
      rcases hin.1 hm with hm | hm
      · rw [hag b hm]
        exact (diff_none fun i hi => hb i (hws.2 (.inl ⟨hm, hi⟩))).symm
      · exact absurd (hws.2 (.inr ⟨hm, rfl⟩)) (hb 0)
    · rfl
  refine ⟨⟨hnb, fun b hb => hno hb _ fun _ _ => rfl, fun b off n hb => ?_, hlt, fun b i hb => ?_⟩, fun pn σ T h NB w a hqn hNB hT hR hf => ?_⟩
  · show maskBlk off n (blk (copyBlks u.heap (ts ++ numsFrom (u.nb - st.nb) st.nb) st.heap) b) = _
    rw [blk_copy]
    split
    · rename_i hm
      rcases hin.1 hm with hm | hm
      · exact (diff_mask fun i hi => hb i (hws.2 (.inl ⟨hm, hi⟩))).symm
      · exact absurd rfl (hb 0 (hws.2 (.inr ⟨hm, rfl⟩))).1
    · rfl
  · rcases hws.1 hb with ⟨h1, _⟩ | ⟨h1, _⟩
    · exact .inl h1
    · exact .inr h1
  · have hpn := hq.trans hqn
    have hRm := rel_only hpn hs.1 h8 hR hw hf.ts
    have hTm := tmps_only (op := o.op) (σ := σ) (a := a) hpn hs.1 hwf fun t ht => by have := (hT t).self; rw [hf.slots t ht] at this; exact this
    refine (hx (σ.cut st.nb) w a hTm hRm).mono fun v w' hg => ?_
    obtain ⟨σ', g1, g2, g3, g4, g5⟩ := frame (u := u) hqn hNB h8 hR hlt hf.ts hf.new hg
    refine ⟨σ', _, g1, g2, fun b hb => hno hb h hf.ts, fun b i hb => ?_, g3, g4, g5⟩
    have hm : b ∈ ts ++ numsFrom (u.nb - st.nb) st.nb := hin.2 (by
      rcases hws.1 hb with ⟨h1, _⟩ | ⟨h1, _⟩
      · exact .inl h1
      · exact .inr h1)
    show _ = blk (copyBlks u.heap (ts ++ numsFrom (u.nb - st.nb) st.nb) st.heap) b
    rw [blk_copy, blk_copy, if_pos hm, if_pos hm]
theorem execD_sound {env : Env} (hE : EnvOk P env) {callF : CallF} (hC : CallOk P callF) {st : St} {o : Oper} {us : List (Upd × Tc)} (h : execD env callF st o.op = .ok us) {p : Pt} (hs : Sat p st.ctx) (h8 : 8 ≤ st.nb)
    (hwf : ∀ t ∈ tmpsIn o.op.operands.toList, (getT st.tmps t).wf st.ctx.n st.nb = true) (hex : ∃ σ w a, TmpsD p σ st.tmps a ∧ RelH p σ st.heap st.nb w) :
    ∃ ut ∈ us, ∃ q, p.le q ∧ Sat q ut.1.ctx ∧ HeapD st ut.1.nb ut.1.heap ut.2 ∧ ∀ pn σ T h NB w a, q.le pn → ut.1.nb ≤ NB → TmpsD pn σ T a → RelH pn σ h NB w →
      Fair st ut.2.ts ut.2.ls ut.1.nb T h σ (tmpsIn o.op.operands.toList) → OpTo P o a w fun v w' => AfterU pn NB st ut.1 ut.2.ws σ h w v w' := by
  unfold execD at h
  split at h
  · rename_i b off n hl
    obtain ⟨hb, h⟩ := bif_ok h
    obtain ⟨v, hv, h⟩ := R.bind_ok h
    obtain ⟨hvw, h⟩ := bif_ok h
    cases h
    rw [blt_iff] at hb
    obtain ⟨t, x, ti, hop, hti, hx, hn⟩ := looks_load hl
    refine ⟨_, List.mem_singleton.2 rfl, p, p.le_refl, hs, HeapD.refl, fun pn σ T H NB w a hqn hNB hT hR hf => ?_⟩
    -- the address
    have hA : ∃ c k, σ b = .at_ c k ∧ a.eval x = .pointer (some ⟨c, off, none⟩) := by
      cases x with
      | tmp t0 =>
        have h0 := (hT t0).self
        rw [hf.slots t0 (by rw [hop]; simp [Op.operands, tmpsIn])] at h0
        simp only [evalA] at hx
        rw [hx] at h0
        obtain ⟨c, k, o, h1, h2, h3⟩ := h0
        have h2 : (off : Int) = o := by simpa [Lin.ev, Lin.evTs] using h2
        have h2 : off = o := by omega
        subst h2
        exact ⟨c, k, h1, h3⟩
      | const c0 =>
        have h0 := ofValue_sound pn.η σ c0
        simp only [evalA] at hx
        rw [hx] at h0
        obtain ⟨c, k, o, h1, h2, h3⟩ := h0
        have h2 : (off : Int) = o := by simpa [Lin.ev, Lin.evTs] using h2
        have h2 : off = o := by omega
        subst h2
        exact ⟨c, k, h1, h3⟩
      | global g =>
        simp only [evalA] at hx
        cases hg : (Nat.blt g 8 && Mt.alive st.heap g)
        · rw [hg] at hx; cases hx
        · rw [hg] at hx
          simp only [cond_true, AV.sc.injEq, SV.ptr.injEq] at hx
          obtain ⟨rfl, hx⟩ := hx
          simp only [Bool.and_eq_true, blt_iff] at hg
          have hk : off = 0 := by
            have : (Lin.k 0).c = Int.ofNat off := by rw [hx]
            simp only [Lin.k] at this
            have h0 : (0 : Int) = Int.ofNat 0 := rfl
            rw [h0] at this
            exact (Int.ofNat.inj this).symm
          subst hk
          have hal : Alive H g := by
            have := hf.ls g 0 _ rfl
            intro h0
            rw [h0] at this
            have h1 := loadAt1_cells hv
            obtain ⟨u, cs, h1⟩ := h1
            rw [h1] at this
            cases this
          obtain ⟨k, hk⟩ := hR.glob g hg.1 hal
          exact ⟨g, k, hk, rfl⟩
      | func f => simp only [evalA] at hx; cases hx
    obtain ⟨c, k, hσ, hae⟩ := hA
    obtain ⟨y, h1, h2⟩ := loadAt1_sound (P := P) hE.ty hti hn hv (hf.ls b off _ rfl) hR hσ
    refine OpTo.value (v := y) (w' := w) ?_ ⟨σ, H, fun _ _ => rfl, Sig.ext_refl σ, fun _ _ => rfl, fun b i hb => (List.not_mem_nil hb).elim, h2, hR, Step.refl _ _ _ _⟩
    simp only [execOp, hop, hae, Instr.loadAt, Instr.sureAddr, pure_bind, Sem.run_bind, h1, Result.andThen_ok, Sem.run_pure]
  · split at h
    · rename_i r hr
      cases h
      exact execT_sound hE hC hr hs h8 hwf hex
    · split at h
      · cases h
      · exact execT_sound hE hC h hs h8 hwf hex
end
end Go.Hal
namespace Go.Hal
noncomputable section
open Go
variable {P : Program}

theorem wanted_at {ops : Array Oper} {o : Oper} {st : St} {ws : List (Bool × St)} (h : wantedA ops o st = .ok ws) {p : Pt} (hs : Sat p st.ctx) :
    ∃ b Φ, (b, st.atCtx Φ) ∈ ws ∧ Sat p Φ ∧ ∀ pn σ (a : Act), p.le pn → (∀ t ∈ tmpsOf ops o, DenV pn.η σ (getT st.tmps t) (a.tmps.getD t undef)) → Region.wanted o (yielded ops a.tmps) = b := by
  unfold wantedA at h
  split at h
  · rename_i hg
    cases h
    exact ⟨true, st.ctx, by simp [St.atCtx], hs, fun pn σ a _ _ => by simp [Region.wanted, hg]⟩
  · rename_i j want hg
    split at h
    · cases h
    · rename_i d hd
      have hmem : d ∈ tmpsOf ops o := by
        unfold tmpsOf
        rw [hg]
        simp only [hd]
        exact List.mem_cons_self
      split at h
      · rename_i hv
        cases h
        refine ⟨false, st.ctx, by simp [St.atCtx], hs, fun pn σ a _ hT => ?_⟩
        have h0 := hT d hmem
        rw [hv] at h0
        obtain ⟨vs, h1, h2⟩ := h0
        simp only [Region.wanted, hg, yielded_eq hd, h1]
        rfl
      · rename_i c hv
        obtain ⟨l, hl, h⟩ := R.bind_ok h
        cases h
        obtain ⟨v, Ψ, hm, hsp, hvv⟩ := split_sound hs hl
        refine ⟨v == want, Ψ, wayIs_mem hm, hsp, fun pn σ a hpn hT => ?_⟩
        have h0 := hT d hmem
        rw [hv] at h0
        have h1 : a.tmps.getD d undef = .bool (c.ev pn.η) := h0
        have hbv : c.ev pn.η = v := hvv pn.η hpn.agr
        simp only [Region.wanted, hg, yielded_eq hd, h1, hbv]
        cases v <;> cases want <;> rfl
      · cases h
theorem putDst_at {st : St} {d : Option Nat} {v : AV} {T0 : Tr AV} (h : putDst st d v = .ok T0) (T : Tr AV) :
    (∀ t, d ≠ some t → getT T0 t = getT st.tmps t) ∧ ∃ T', putDst ⟨st.ctx, T, st.heap, st.nb, st.nt⟩ d v = .ok T' ∧ (∀ t, d ≠ some t → getT T' t = getT T t) ∧ ∀ t, d = some t → getT T' t = getT T0 t := by
  unfold putDst at h
  split at h
  · rename_i d
    obtain ⟨hd, h⟩ := bif_ok h
    cases h
    refine ⟨fun t ht => by rw [getT_set, if_neg (fun e => ht (by rw [e]))], T.set v d, ?_, fun t ht => by rw [getT_set, if_neg (fun e => ht (by rw [e]))], fun t ht => ?_⟩
    · simp only [putDst, hd, cond_true]
    · cases ht; rw [getT_set, getT_set, if_pos rfl, if_pos rfl]
  · cases h
    exact ⟨fun _ _ => rfl, T, rfl, fun _ _ => rfl, fun t ht => by cases ht⟩
/-- what has come of an operation, among others -/
def AfterD (o : Oper) (st : St) (tc : Tc) (st' : St) (pn : Pt) (NB : Nat) (σ : Sig) (T : Tr AV) (h : Tr ABlk) (w : World) (a : Act) (v : Value) (w' : World) : Prop :=
  ∃ σ' T' h', (∀ b, b < st.nb ∨ st'.nb ≤ b → σ' b = σ b) ∧ (∀ t, o.dst ≠ some t → getT T' t = getT T t) ∧ (∀ t, o.dst = some t → getT T' t = getT st'.tmps t) ∧
    (∀ b, (∀ i, (b, i) ∉ tc.ws) → blk h' b = blk h b) ∧ (∀ b i, (b, i) ∈ tc.ws → blk h' b = blk st'.heap b) ∧ TmpsD pn σ' T' (a.put o.dst v) ∧ RelH pn σ' h' NB w' ∧ Step 0 σ h w 0 σ' h' w'
/-- an operation along the program's order -/
structure StepD (P : Program) (ops : Array Oper) (o : Oper) (st : St) (q : Pt) (tc : Tc) (st' : St) (q' : Pt) : Prop where
  le : q.le q'
  nt : st'.nt = st.nt
  hd : HeapD st st'.nb st'.heap tc
  tmps : ∀ t, o.dst ≠ some t → getT st'.tmps t = getT st.tmps t
  run : ∀ pn σ T h NB w a, q'.le pn → st'.nb ≤ NB → a.tmps.size = st.nt → TmpsD pn σ T a → RelH pn σ h NB w → Fair st tc.ts tc.ls st'.nb T h σ (tmpsOf ops o) →
    ∃ b, Region.wanted o (yielded ops a.tmps) = b ∧ (b = true → OpTo P o a w (AfterD o st tc st' pn NB σ T h w a)) ∧ (b = false → AfterD o st tc st' pn NB σ T h w a undef w)
theorem tmpsIn_of {ops : Array Oper} {o : Oper} {t : Nat} (h : t ∈ tmpsIn o.op.operands.toList) : t ∈ tmpsOf ops o := by
  unfold tmpsOf
  split
  · split
    · exact List.mem_cons_of_mem _ h
    · exact h
  · exact h
theorem RelH.congr {p : Pt} {σ : Sig} {h h' : Tr ABlk} {nb : Nat} {w : World} (e : ∀ b, blk h' b = blk h b) (r : RelH p σ h nb w) : RelH p σ h' nb w :=
  have ha : ∀ b, Alive h' b → Alive h b := fun b hb => by unfold Alive at *; rw [← e b]; exact hb
  ⟨r.full, fun b => by rw [e b]; exact r.rel b, fun b b' c n n' h1 h2 => r.inj b b' c n n' (ha b h1) (ha b' h2), fun g hg h1 => r.glob g hg (ha g h1)⟩
theorem RelH.nbs {p : Pt} {σ : Sig} {h : Tr ABlk} {nb nb' : Nat} {w : World} (hn : nb ≤ nb') (r : RelH p σ h nb w) : RelH p σ h nb' w := ⟨fun b hb => r.full b (by omega), r.rel, r.inj, r.glob⟩
/-- the next state is of some world, too -/
theorem StepD.next {ops : Array Oper} {o : Oper} {st st' : St} {q q' : Pt} {tc : Tc} (h : StepD P ops o st q tc st' q') (hex : ∃ σ w a, Rel q σ st a w) : ∃ σ w a, Rel q' σ st' a w := by
  obtain ⟨σ, w, a, hr⟩ := hex
  have hr' := hr.mono h.le
  obtain ⟨b, hb, h1, h2⟩ := h.run q' σ st.tmps st.heap st'.nb w a q'.le_refl (Nat.le_refl _) hr.sz hr'.tm (hr'.hp.nbs h.hd.le) ⟨fun _ _ => rfl, fun _ _ => rfl, fun _ _ _ _ => rfl, fun b hb _ => hr.hp.full b hb⟩
  have key : ∃ v w', AfterD o st tc st' q' st'.nb σ st.tmps st.heap w a v w' := by
    cases b
    · exact ⟨_, _, h2 rfl⟩
    · obtain ⟨v, w', hv⟩ := (h1 rfl).some
      exact ⟨v, w', hv⟩
  obtain ⟨v, w', σ', T', h', g1, g2, g3, g4, g5, g6, g7, g8⟩ := key
  refine ⟨σ', w', a.put o.dst v, fun t η hη => ?_, (put_size _ _ _).trans (hr.sz.trans h.nt.symm), g7.congr fun b => ?_, (put_defers _ _ _).trans hr.df⟩
  · have := g6 t η hη
    by_cases hd : o.dst = some t
    · rw [g3 t hd] at this; exact this
    · rw [g2 t hd, ← h.tmps t hd] at this; exact this
  · by_cases hw : ∃ i, (b, i) ∈ tc.ws
    · obtain ⟨i, hi⟩ := hw
      exact (g5 b i hi).symm
    · have hw' : ∀ i, (b, i) ∉ tc.ws := fun i hi => hw ⟨i, hi⟩
      rw [g4 b hw', h.hd.heap b hw']
theorem path {env : Env} (hE : EnvOk P env) {callF : CallF} (hC : CallOk P callF) {ops : Array Oper} : ∀ (l : List Oper) {st : St} {tr : List Tc} {outs : List (St × List Tc)}, runOpsD env callF ops l st tr = .ok outs → ∀ {p : Pt}, Sat p st.ctx → 8 ≤ st.nb →
    (∃ σ w a, Rel p σ st a w) → ∃ (s : Nat → St) (q : Nat → Pt) (tc : Nat → Tc), (s 0 = st ∧ q 0 = p) ∧ (s l.length, ((List.range l.length).map tc).reverse ++ tr) ∈ outs ∧
      (∀ i, i < l.length → ∃ o, l[i]? = some o ∧ StepD P ops o (s i) (q i) (tc i) (s (i + 1)) (q (i + 1))) ∧ Sat (q l.length) (s l.length).ctx ∧ ∃ σ w a, Rel (q l.length) σ (s l.length) a w
  | [], st, tr, outs, h, p, hs, h8, hex => by
    cases h
    exact ⟨fun _ => st, fun _ => p, fun _ => default, ⟨rfl, rfl⟩, by simp, fun i hi => by simp at hi, hs, hex⟩
  | o :: l, st, tr, outs, h, p, hs, h8, hex => by
    simp only [runOpsD, forceN_eq] at h
    obtain ⟨hsl, h⟩ := bif_ok h
    obtain ⟨ws, hws, h⟩ := R.bind_ok h
    obtain ⟨b, Φ, hm, hsΦ, hw⟩ := wanted_at hws hs
    obtain ⟨s1, hs1, hsub⟩ := flatL_mem h hm
    -- what is left, from the next state on
    have rest : ∀ {st1 : St} {q1 : Pt} {t1 : Tc} {o1 : List (St × List Tc)}, runOpsD env callF ops l st1 (t1 :: tr) = .ok o1 → (∀ x ∈ o1, x ∈ outs) → Sat q1 st1.ctx → StepD P ops o st p t1 st1 q1 →
        ∃ (s : Nat → St) (q : Nat → Pt) (tc : Nat → Tc), (s 0 = st ∧ q 0 = p) ∧ (s (o :: l).length, ((List.range (o :: l).length).map tc).reverse ++ tr) ∈ outs ∧
          (∀ i, i < (o :: l).length → ∃ o', (o :: l)[i]? = some o' ∧ StepD P ops o' (s i) (q i) (tc i) (s (i + 1)) (q (i + 1))) ∧ Sat (q (o :: l).length) (s (o :: l).length).ctx ∧ ∃ σ w a, Rel (q (o :: l).length) σ (s (o :: l).length) a w :=
      fun {st1 q1 t1 o1} hr hsub hsat hstep => by
        have h8' : 8 ≤ st1.nb := Nat.le_trans h8 hstep.hd.le
        obtain ⟨s', q', tc', ⟨e1, e2⟩, hin, hall, hsn, hexn⟩ := path hE hC l hr hsat h8' (hstep.next hex)
        refine ⟨fun | 0 => st | i + 1 => s' i, fun | 0 => p | i + 1 => q' i, fun | 0 => t1 | i + 1 => tc' i, ⟨rfl, rfl⟩, ?_, fun i hi => ?_, hsn, hexn⟩
        · refine hsub _ ?_
          simp only [List.length_cons, List.range_succ_eq_map, List.map_cons, List.map_map, List.reverse_cons, List.append_assoc, List.singleton_append]
          exact hin
        · cases i with
          | zero => exact ⟨o, rfl, by show StepD P ops o st p t1 (s' 0) (q' 0); rw [e1, e2]; exact hstep⟩
          | succ i =>
            obtain ⟨o', h1, h2⟩ := hall i (by simpa using hi)
            exact ⟨o', by simpa using h1, h2⟩
    have hfair : ∀ {pn σ T h ts ls nb} {a : Act}, TmpsD pn σ T a → Fair st ts ls nb T h σ (tmpsOf ops o) → ∀ t ∈ tmpsOf ops o, DenV pn.η σ (getT st.tmps t) (a.tmps.getD t undef) := fun {pn σ T h ts ls nb a} hT hf t ht => by
      have := (hT t).self
      rw [hf.slots t ht] at this
      exact this
    cases b
    · simp only [cond_false] at hs1
      obtain ⟨T0, hT0, hs1⟩ := R.bind_ok hs1
      obtain ⟨k1, _⟩ := putDst_at hT0 .nil
      refine rest (q1 := p) hs1 hsub hsΦ ⟨p.le_refl, rfl, HeapD.refl, k1, fun pn σ T h NB w a hpn hNB hsz hT hR hf => ⟨false, hw pn σ a hpn (hfair hT hf), (fun h => by cases h), fun _ => ?_⟩⟩
      obtain ⟨_, T', h1, h2, h3⟩ := putDst_at hT0 T
      exact ⟨σ, T', h, fun _ _ => rfl, h2, h3, fun _ _ => rfl, fun b i hb => (List.not_mem_nil hb).elim, putDst_sound h1 hsz hT fun η _ => undef_den η σ, hR, Step.refl _ _ _ _⟩
    · simp only [cond_true] at hs1
      obtain ⟨us, hus, hs1⟩ := R.bind_ok hs1
      obtain ⟨ut, hu, q1, hq1, hsq1, hhd, hx⟩ := execD_sound hE hC (st := st.atCtx Φ) (sayAt_ok hus) hsΦ h8 (fun t ht => by
          have := slotsWf_mem hsl (tmpsIn_of ht)
          have e : Φ.n = st.ctx.n := hsΦ.1.symm.trans hs.1
          show (getT st.tmps t).wf Φ.n st.nb = true
          rw [e]; exact this) (by
        obtain ⟨σ, w, a, hr⟩ := hex
        exact ⟨σ, w, a, hr.tm, hr.hp⟩)
      obtain ⟨s2, hs2, hsub2⟩ := flatL_mem hs1 hu
      obtain ⟨T0, hT0, hs2⟩ := R.bind_ok hs2
      obtain ⟨k1, _⟩ := putDst_at hT0 .nil
      refine rest (q1 := q1) hs2 (fun x hx => hsub _ (hsub2 _ hx)) hsq1 ⟨hq1, rfl, ⟨hhd.le, hhd.heap, hhd.cells, hhd.tsLt, hhd.wsIn⟩, k1, fun pn σ T h NB w a hpn hNB hsz hT hR hf => ⟨true, hw pn σ a (hq1.trans hpn) (hfair hT hf), fun _ => ?_, fun h => by cases h⟩⟩
      obtain ⟨_, T', h1, h2, h3⟩ := putDst_at hT0 T
      refine (hx pn σ T h NB w a hpn hNB hT hR ⟨fun t ht => hf.slots t (tmpsIn_of ht), hf.ts, hf.ls, hf.new⟩).mono fun v w' hv => ?_
      obtain ⟨σ', h', g1, g2, g3, g4, g5, g6, g7⟩ := hv
      exact ⟨σ', T', h', g1, h2, h3, g3, g4, putDst_sound h1 hsz (fun t η hη => (hT t η hη).ext g2) g5, g6, g7⟩
end
end Go.Hal
namespace Go.Hal
noncomputable section
open Go
variable {P : Program}

theorem binds_any (e : Edge) : Region.binds .any e = Hal.binds e := by
  unfold Region.binds Hal.binds
  cases e.ground <;> rfl
section
variable {ops : Array Oper} {n : Nat} {s : Nat → St} {q : Nat → Pt} {tc : Nat → Tc} {ord : Nat → Nat → Prop}
/-- a path with its order checked -/
structure Way (P : Program) (ops : Array Oper) (n : Nat) (s : Nat → St) (q : Nat → Pt) (tc : Nat → Tc) (ord : Nat → Nat → Prop) : Prop where
  size : ops.size = n
  step : ∀ i, i < n → ∃ o, ops[i]? = some o ∧ StepD P ops o (s i) (q i) (tc i) (s (i + 1)) (q (i + 1))
  lt : ∀ i, i < n → ∀ x, ops[i]? = some x → ∀ e ∈ x.after.toList, Hal.binds e = true → e.on < i
  pair : ∀ i, i < n → ∀ x, ops[i]? = some x → ∀ j, j < i → ∀ y, ops[j]? = some y → ord j i ∨ Apart ops x y (tc i) (tc j)
  mask : ∀ D : Nat → Prop, (∀ i, D i → EdgesIn ops D i) → ∀ i, EdgesIn ops D i → ∀ j, ord j i → D j
def WS (ops : Array Oper) (n : Nat) (t j : Nat) : Prop := j < n ∧ ∃ o, ops[j]? = some o ∧ o.dst = some t
def WB (tc : Nat → Tc) (n : Nat) (b j : Nat) : Prop := j < n ∧ ∃ i, (b, i) ∈ (tc j).ws
def WC (tc : Nat → Tc) (n : Nat) (b o k j : Nat) : Prop := j < n ∧ ∃ i, (b, i) ∈ (tc j).ws ∧ (i = 0 ∨ (o + 1 ≤ i ∧ i ≤ o + k))
variable (W : Way P ops n s q tc ord)
include W
theorem Way.get {i : Nat} (hi : i < n) {o : Oper} (ho : ops[i]? = some o) : StepD P ops o (s i) (q i) (tc i) (s (i + 1)) (q (i + 1)) := by
  obtain ⟨o', h1, h2⟩ := W.step i hi
  rw [ho] at h1
  cases h1
  exact h2
theorem Way.nbs {i : Nat} : ∀ {j : Nat}, i ≤ j → j ≤ n → (s i).nb ≤ (s j).nb
  | 0, h, _ => by have : i = 0 := by omega
                  rw [this]; exact Nat.le_refl _
  | j + 1, h, hj => by
    by_cases he : i = j + 1
    · rw [he]; exact Nat.le_refl _
    · obtain ⟨o, _, h2⟩ := W.step j (by omega)
      exact Nat.le_trans (Way.nbs (by omega) (by omega)) h2.hd.le
theorem Way.nts : ∀ {j : Nat}, j ≤ n → (s j).nt = (s 0).nt
  | 0, _ => rfl
  | j + 1, hj => by
    obtain ⟨o, _, h2⟩ := W.step j (by omega)
    exact h2.nt.trans (Way.nts (by omega))
theorem Way.pts {i : Nat} : ∀ {j : Nat}, i ≤ j → j ≤ n → (q i).le (q j)
  | 0, h, _ => by have : i = 0 := by omega
                  rw [this]; exact (q 0).le_refl
  | j + 1, h, hj => by
    by_cases he : i = j + 1
    · rw [he]; exact (q (j + 1)).le_refl
    · obtain ⟨o, _, h2⟩ := W.step j (by omega)
      exact (Way.pts (by omega) (by omega)).trans h2.le
theorem Way.stillS (t : Nat) : ∀ j, j < n → ¬ WS ops n t j → getT (s (j + 1)).tmps t = getT (s j).tmps t := fun j hj hw => by
  obtain ⟨o, h1, h2⟩ := W.step j hj
  exact h2.tmps t fun hd => hw ⟨hj, o, h1, hd⟩
theorem Way.stillB (b : Nat) : ∀ j, j < n → ¬ WB tc n b j → blk (s (j + 1)).heap b = blk (s j).heap b := fun j hj hw => by
  obtain ⟨o, h1, h2⟩ := W.step j hj
  exact h2.hd.heap b fun i hi => hw ⟨hj, i, hi⟩
theorem Way.stillC (b o k : Nat) : ∀ j, j < n → ¬ WC tc n b o k j → maskBlk o k (blk (s (j + 1)).heap b) = maskBlk o k (blk (s j).heap b) := fun j hj hw => by
  obtain ⟨_, h1, h2⟩ := W.step j hj
  refine h2.hd.cells b o k fun i hi => ⟨fun h0 => hw ⟨hj, i, hi, .inl h0⟩, fun h0 => hw ⟨hj, i, hi, .inr h0⟩⟩
theorem Way.two {j k : Nat} (hj : j < n) (hk : k < n) (hne : j ≠ k) {x y : Oper} (hx : ops[k]? = some x) (hy : ops[j]? = some y) : ((j < k → ord j k) ∧ (k < j → ord k j)) ∨ Apart ops x y (tc k) (tc j) := by
  rcases Nat.lt_or_ge j k with h | h
  · rcases W.pair k hk x hx j h y hy with h1 | h1
    · exact .inl ⟨fun _ => h1, fun h2 => by omega⟩
    · exact .inr h1
  · rcases W.pair j hj y hy k (by omega) x hx with h1 | h1
    · exact .inl ⟨fun h2 => by omega, fun _ => h1⟩
    · exact .inr h1.symm
theorem Way.other {j : Nat} (hj : j < n) : ∃ y, ops[j]? = some y := by
  obtain ⟨y, h, _⟩ := W.step j hj
  exact ⟨y, h⟩
theorem Way.ordR {k : Nat} (hk : k < n) {x : Oper} (hx : ops[k]? = some x) {t : Nat} (ht : t ∈ tmpsOf ops x) : Ordd ord (WS ops n t) k := fun j ⟨hj, y, hy, hd⟩ hne => by
  rcases W.two hj hk hne hx hy with h | h
  · exact h
  · exact absurd ht (h.yx t hd)
theorem Way.ordW {k : Nat} (hk : k < n) {x : Oper} (hx : ops[k]? = some x) {t : Nat} (ht : x.dst = some t) : Ordd ord (WS ops n t) k := fun j ⟨hj, y, hy, hd⟩ hne => by
  rcases W.two hj hk hne hx hy with h | h
  · exact h
  · exact absurd hd (h.dst t ht)
theorem Way.ordB {k : Nat} (hk : k < n) {b : Nat} (hb : b ∈ (tc k).ts) : Ordd ord (WB tc n b) k := fun j ⟨hj, i, hi⟩ hne => by
  obtain ⟨x, hx⟩ := W.other hk
  obtain ⟨y, hy⟩ := W.other hj
  rcases W.two hj hk hne hx hy with h | h
  · exact h
  · have := h.ba
    simp only [meets, meetsB_mem hb hi, Bool.true_or] at this
    cases this
theorem Way.ordC {k : Nat} (hk : k < n) {b o c : Nat} (hl : (tc k).ls = some (b, o, c)) : Ordd ord (WC tc n b o c) k := fun j ⟨hj, i, hi, h0⟩ hne => by
  obtain ⟨x, hx⟩ := W.other hk
  obtain ⟨y, hy⟩ := W.other hj
  rcases W.two hj hk hne hx hy with h | h
  · exact h
  · have := h.ba
    simp only [meets, hl, meetsL_mem h0 hi, Bool.or_true] at this
    cases this
theorem Way.apartN {j k b : Nat} (hj : j < n) (hk : k < n) (hne : j ≠ k) (h1 : (s j).nb ≤ b) (h2 : b < (s (j + 1)).nb) (h3 : (s k).nb ≤ b) (h4 : b < (s (k + 1)).nb) : False := by
  rcases Nat.lt_or_ge j k with h | h
  · have := W.nbs (i := j + 1) (j := k) (by omega) (by omega); omega
  · have := W.nbs (i := k + 1) (j := j) (by omega) (by omega); omega
theorem Way.ordN {k : Nat} (hk : k < n) {b i : Nat} (hb : (b, i) ∈ (tc k).ws) : Ordd ord (WB tc n b) k := by
  obtain ⟨x, hx⟩ := W.other hk
  rcases (W.get hk hx).hd.wsIn b i hb with h0 | ⟨h1, h2⟩
  · exact W.ordB hk h0
  · intro j ⟨hj, i', hi⟩ hne
    obtain ⟨y, hy⟩ := W.other hj
    rcases (W.get hj hy).hd.wsIn b i' hi with h0 | ⟨h3, h4⟩
    · rcases W.two hj hk hne hx hy with h | h
      · exact h
      · have := h.ab
        simp only [meets, meetsB_mem h0 hb, Bool.true_or] at this
        cases this
    · exact (W.apartN hj hk hne h3 h4 h1 h2).elim
end

/-- midway: some are done -/
structure Mid (ops : Array Oper) (n : Nat) (s : Nat → St) (q : Nat → Pt) (tc : Nat → Tc) (σ0 : Sig) (w0 : World) (D : Nat → Prop) (σ : Sig) (T : Tr AV) (h : Tr ABlk) (a : Act) (w : World) : Prop where
  slT : ∀ t, ∃ m, m ≤ n ∧ Sl D (WS ops n t) m ∧ getT T t = getT (s m).tmps t
  slH : ∀ b, ∃ m, m ≤ n ∧ Sl D (WB tc n b) m ∧ blk h b = blk (s m).heap b
  tm : TmpsD (q n) σ T a
  sz : a.tmps.size = (s 0).nt
  df : a.defers = []
  hp : RelH (q n) σ h (s n).nb w
  cr : ∀ b, σ b ≠ .no → b < (s 0).nb ∨ ∃ k, k < n ∧ D k ∧ (s k).nb ≤ b ∧ b < (s (k + 1)).nb
  st : Step (s 0).nb σ0 (s 0).heap w0 (s n).nb σ h w
section
variable {ops : Array Oper} {n : Nat} {s : Nat → St} {q : Nat → Pt} {tc : Nat → Tc} {ord : Nat → Nat → Prop} {σ0 : Sig} {w0 : World}
theorem Mid.fair (W : Way P ops n s q tc ord) {D : Nat → Prop} {σ : Sig} {T : Tr AV} {h : Tr ABlk} {a : Act} {w : World} (M : Mid ops n s q tc σ0 w0 D σ T h a w) {k : Nat} (hk : k < n) (hr : Ready D ord k) {x : Oper} (hx : ops[k]? = some x) :
    Fair (s k) (tc k).ts (tc k).ls (s (k + 1)).nb T h σ (tmpsOf ops x) := by
  refine ⟨fun t ht => ?_, fun b hb => ?_, fun b o c hl => ?_, fun b h1 h2 => ?_⟩
  · obtain ⟨m, hm, hS, e⟩ := M.slT t
    rw [e]
    exact same (f := fun m => getT (s m).tmps t) (W.stillS t) hm (by omega) (Sl.read hr hS (fun _ h => h) (W.ordR hk hx ht))
  · obtain ⟨m, hm, hS, e⟩ := M.slH b
    rw [e]
    exact same (f := fun m => blk (s m).heap b) (W.stillB b) hm (by omega) (Sl.read hr hS (fun _ h => h) (W.ordB hk hb))
  · obtain ⟨m, hm, hS, e⟩ := M.slH b
    rw [e]
    exact same (f := fun m => maskBlk o c (blk (s m).heap b)) (W.stillC b o c) hm (by omega) (Sl.read hr hS (fun j h => ⟨h.1, h.2.imp fun i hi => hi.1⟩) (W.ordC hk hl))
  · by_cases hn : σ b = .no
    · exact hn
    · rcases M.cr b hn with h3 | ⟨j, hj, hd, h3, h4⟩
      · have := W.nbs (i := 0) (j := k) (by omega) (by omega); omega
      · exact (W.apartN hj hk (fun e => hr.new (e ▸ hd)) h3 h4 h1 h2).elim
theorem Mid.next (W : Way P ops n s q tc ord) {D : Nat → Prop} {σ : Sig} {T : Tr AV} {h : Tr ABlk} {a : Act} {w : World} (M : Mid ops n s q tc σ0 w0 D σ T h a w) {k : Nat} (hk : k < n) (hr : Ready D ord k) {x : Oper} (hx : ops[k]? = some x)
    {v : Value} {w' : World} (ha : AfterD x (s k) (tc k) (s (k + 1)) (q n) (s n).nb σ T h w a v w') : ∃ σ' T' h', Mid ops n s q tc σ0 w0 (fun j => D j ∨ j = k) σ' T' h' (a.put x.dst v) w' := by
  obtain ⟨σ', T', h', g1, g2, g3, g4, g5, g6, g7, g8⟩ := ha
  have h0k := W.nbs (i := 0) (j := k) (by omega) (by omega)
  refine ⟨σ', T', h', fun t => ?_, fun b => ?_, g6, (put_size _ _ _).trans M.sz, (put_defers _ _ _).trans M.df, g7, fun b hb => ?_, ⟨M.st.le, fun b hb => ?_, Nat.le_trans M.st.size g8.size, fun c hc ho => ?_, fun c hc ho => ?_, fun c vs u fr hc => ?_, fun c vs u fr hc ho => ?_, ⟨g8.io.1.trans M.st.io.1, g8.io.2.1.trans M.st.io.2.1, g8.io.2.2.trans M.st.io.2.2⟩⟩⟩
  · obtain ⟨m, hm, hS, e⟩ := M.slT t
    by_cases hd : x.dst = some t
    · exact ⟨k + 1, by omega, Sl.wrote hr hS (W.ordW hk hx hd), g3 t hd⟩
    · refine ⟨m, hm, Sl.skip hS fun ⟨_, o, h1, h2⟩ => ?_, (g2 t hd).trans e⟩
      rw [hx] at h1
      cases h1
      exact hd h2
  · obtain ⟨m, hm, hS, e⟩ := M.slH b
    by_cases hw : ∃ i, (b, i) ∈ (tc k).ws
    · obtain ⟨i, hi⟩ := hw
      exact ⟨k + 1, by omega, Sl.wrote hr hS (W.ordN hk hi), g5 b i hi⟩
    · exact ⟨m, hm, Sl.skip hS fun ⟨_, h1⟩ => hw h1, (g4 b fun i hi => hw ⟨i, hi⟩).trans e⟩
  · by_cases hn : (s k).nb ≤ b ∧ b < (s (k + 1)).nb
    · exact .inr ⟨k, hk, .inr rfl, hn.1, hn.2⟩
    · rw [g1 b (by omega)] at hb
      rcases M.cr b hb with h1 | ⟨j, hj, hd, h1⟩
      · exact .inl h1
      · exact .inr ⟨j, hj, .inl hd, h1⟩
  · exact (g1 b (.inl (by omega))).trans (M.st.ext b hb)
  · exact (g8.fr c (Nat.lt_of_lt_of_le hc M.st.size) fun h => ho (M.st.own c hc h)).trans (M.st.fr c hc ho)
  · exact M.st.own c hc (g8.own c (Nat.lt_of_lt_of_le hc M.st.size) ho)
  · obtain ⟨vs', fr', h1, h2⟩ := M.st.shp c vs u fr hc
    obtain ⟨vs'', fr'', h3, h4⟩ := g8.shp c vs' u fr' h1
    exact ⟨vs'', fr'', h3, h4.trans h2⟩
  · obtain ⟨vs', h1⟩ := M.st.frz c vs u fr hc (g8.own c (Nat.lt_of_lt_of_le (lt_of_get hc) M.st.size) ho)
    exact g8.frz c vs' u fr h1 ho
theorem Mid.done (W : Way P ops n s q tc ord) {D : Nat → Prop} {σ : Sig} {T : Tr AV} {h : Tr ABlk} {a : Act} {w : World} (M : Mid ops n s q tc σ0 w0 D σ T h a w) (hD : ∀ j, j < n → D j) :
    Step (s 0).nb σ0 (s 0).heap w0 (s n).nb σ (s n).heap w ∧ Rel (q n) σ (s n) a w := by
  have eT : ∀ t, getT T t = getT (s n).tmps t := fun t => by
    obtain ⟨m, hm, hS, e⟩ := M.slT t
    exact e.trans (same (f := fun m => getT (s m).tmps t) (W.stillS t) hm (Nat.le_refl _) (Sl.all hS hD (fun j h => h.1) hm))
  have eH : ∀ b, blk (s n).heap b = blk h b := fun b => by
    obtain ⟨m, hm, hS, e⟩ := M.slH b
    exact (e.trans (same (f := fun m => blk (s m).heap b) (W.stillB b) hm (Nat.le_refl _) (Sl.all hS hD (fun j h => h.1) hm))).symm
  have hal : ∀ c, Own (s n).heap σ c → Own h σ c := fun c ⟨b, k, h1, h2⟩ => ⟨b, k, by unfold Alive at *; rw [← eH b]; exact h1, h2⟩
  refine ⟨⟨M.st.le, M.st.ext, M.st.size, M.st.fr, fun c hc ho => M.st.own c hc (hal c ho), M.st.shp, fun c X0 U0 fr0 hc0 ho => M.st.frz c X0 U0 fr0 hc0 (hal c ho), M.st.io⟩, fun t η hη => ?_, M.sz.trans (W.nts (Nat.le_refl _)).symm, M.hp.congr eH, M.df⟩
  have := M.tm t η hη
  rw [eT t] at this
  exact this
theorem Mid.start (W : Way P ops n s q tc ord) {a : Act} (hr : Rel (q 0) σ0 (s 0) a w0) {w1 : World} (hw : w1.heap = w0.heap) (hio : w1.os = w0.os ∧ w1.output = w0.output ∧ w1.tape = w0.tape) : Mid ops n s q tc σ0 w0 (fun _ => False) σ0 (s 0).tmps (s 0).heap a w1 := by
  have hq := W.pts (Nat.zero_le n) (Nat.le_refl _)
  have hnb := W.nbs (Nat.zero_le n) (Nat.le_refl _)
  have hr' := hr.mono hq
  refine ⟨fun t => ⟨0, Nat.zero_le _, ⟨fun j h => h.elim, fun j h => by omega⟩, rfl⟩, fun t => ⟨0, Nat.zero_le _, ⟨fun j h => h.elim, fun j h => by omega⟩, rfl⟩, hr'.tm, hr.sz, hr.df, ?_, fun b hb => .inl ?_, ⟨hnb, fun _ _ => rfl, by rw [hw]; exact Nat.le_refl _, fun c _ _ => by rw [hw], fun _ _ h => h, fun c vs u fr h => ⟨vs, fr, by rw [hw]; exact h, rfl⟩, fun c vs u fr h _ => ⟨vs, by rw [hw]; exact h⟩, hio⟩⟩
  · have h1 := hr'.hp.nbs hnb
    exact ⟨h1.full, fun b η hη => (h1.rel b η hη).world fun c n _ => by rw [hw], h1.inj, h1.glob⟩
  · rcases Nat.lt_or_ge b (s 0).nb with h | h
    · exact h
    · exact absurd (hr.hp.full b h) hb

/-! Whatever is picked. -/
theorem getD_set {listed : Array Bool} {i j : Nat} (hi : i < listed.size) : (listed.setIfInBounds i true).getD j false = true ↔ listed.getD j false = true ∨ j = i := by
  by_cases h : j = i
  · subst h
    simp [Array.getD_eq_getD_getElem?, hi]
  · rw [getD_set_ne false (Ne.symm h)]
    simp [h]
theorem some_ready (W : Way P ops n s q tc ord) {listed : Array Bool} (hsz : listed.size = n) : ∀ j, j < n → listed.getD j false = false → Region.ready .any ops listed ≠ [] := by
  intro j
  induction j using Nat.strongRecOn with
  | _ j ih =>
    intro hj hl
    obtain ⟨o, ho⟩ := W.other hj
    by_cases hall : ∀ e ∈ o.after, Region.binds .any e = true → listed.getD e.on false = true
    · intro h0
      have : j ∈ Region.ready .any ops listed := mem_ready.2 ⟨by
        rw [Array.getD_eq_getD_getElem?, Array.getElem?_eq_getElem (by omega)] at hl ⊢
        exact hl, o, ho, hall⟩
      rw [h0] at this
      cases this
    · have : ∃ e ∈ o.after, Region.binds .any e = true ∧ listed.getD e.on false ≠ true := by
        apply Classical.byContradiction
        intro hc
        refine hall fun e he hb => ?_
        apply Classical.byContradiction
        intro h1
        exact hc ⟨e, he, hb, h1⟩
      obtain ⟨e, he, hb, h1⟩ := this
      rw [binds_any] at hb
      have hlt := W.lt j hj o ho e (Array.mem_toList_iff.2 he) hb
      exact ih e.on hlt (by omega) (by simpa using h1)
theorem any_sound (W : Way P ops n s q tc ord) {Q : Exit → Act → World → Prop} (hQ : ∀ σ' w' a', Step (s 0).nb σ0 (s 0).heap w0 (s n).nb σ' (s n).heap w' → Rel (q n) σ' (s n) a' w' → Q .normal a' w') :
    ∀ (fuel : Nat) (listed : Array Bool) (rem : List Nat) (σ : Sig) (T : Tr AV) (h : Tr ABlk) (a : Act) (w : World), listed.size = n → (∀ i, listed.getD i false = true → EdgesIn ops (fun j => listed.getD j false = true) i) →
      (∀ j, j < n → listed.getD j false = false → j ∈ rem) → rem.length ≤ fuel → Mid ops n s q tc σ0 w0 (fun j => listed.getD j false = true) σ T h a w → wpAny P .any ops Q fuel listed a w := by
  intro fuel
  induction fuel with
  | zero =>
    intro listed rem σ T h a w hsz hcl hrem hlen M
    have hr0 : rem = [] := List.length_eq_zero_iff.1 (by omega)
    subst hr0
    have hall : ∀ j, j < n → listed.getD j false = true := fun j hj => by
      cases hl : listed.getD j false
      · exact absurd (hrem j hj hl) List.not_mem_nil
      · rfl
    refine ⟨?_, ?_⟩
    · apply List.eq_nil_iff_forall_not_mem.2
      intro j hj
      obtain ⟨h1, o, ho, _⟩ := mem_ready.1 hj
      have hjn : j < n := by
        rw [← W.size]
        exact (Array.getElem?_eq_some_iff.1 ho).1
      have := hall j hjn
      rw [Array.getD_eq_getD_getElem?, Array.getElem?_eq_getElem (by omega)] at h1 this
      simp only [Option.getD_some] at h1 this
      rw [h1] at this
      cases this
    · obtain ⟨h1, h2⟩ := M.done W hall
      exact hQ σ w a h1 h2
  | succ fuel ih =>
    intro listed rem σ T h a w hsz hcl hrem hlen M
    refine ⟨fun h0 => ?_, fun i hi => ?_⟩
    · have hall : ∀ j, j < n → listed.getD j false = true := fun j hj => by
        cases hl : listed.getD j false
        · exact absurd h0 (some_ready W hsz j hj hl)
        · rfl
      obtain ⟨h1, h2⟩ := M.done W hall
      exact hQ σ w a h1 h2
    · obtain ⟨h1, o, ho, hedge⟩ := mem_ready.1 hi
      have hin : i < n := by
        rw [← W.size]
        exact (Array.getElem?_eq_some_iff.1 ho).1
      have hl : listed.getD i false = false := by
        rw [Array.getD_eq_getD_getElem?, Array.getElem?_eq_getElem (by omega)] at h1 ⊢
        exact h1
      have hei : EdgesIn ops (fun j => listed.getD j false = true) i := fun o' ho' e he hb => by
        rw [ho] at ho'
        cases ho'
        exact hedge e (Array.mem_toList_iff.1 he) (by rw [binds_any]; exact hb)
      have hr : Ready (fun j => listed.getD j false = true) ord i :=
        ⟨(fun h => by rw [hl] at h; cases h), fun j hj => W.mask _ hcl i hei j hj, fun k j hk hj => W.mask _ hcl k (hcl k hk) j hj⟩
      have S := W.get hin ho
      have hnt := W.nts (j := i) (by omega)
      obtain ⟨b, hb, k1, k2⟩ := S.run (q n) σ T h (s n).nb w a (W.pts (by omega) (Nat.le_refl _)) (W.nbs (by omega) (Nat.le_refl _)) (M.sz.trans hnt.symm) M.tm M.hp (M.fair W hin hr ho)
      have hD : (fun j => listed.getD j false = true ∨ j = i) = fun j => (listed.setIfInBounds i true).getD j false = true := by
        funext j
        exact propext (getD_set (by omega)).symm
      have next : ∀ v w', AfterD o (s i) (tc i) (s (i + 1)) (q n) (s n).nb σ T h w a v w' → wpAny P .any ops Q fuel (listed.setIfInBounds i true) (a.put o.dst v) w' := fun v w' ha => by
        obtain ⟨σ', T', h', M'⟩ := M.next W hin hr ho ha
        rw [hD] at M'
        refine ih (listed.setIfInBounds i true) (rem.erase i) σ' T' h' _ w' (by simpa using hsz) (fun k hk o' ho' e he hbe => ?_) (fun j hj hlj => ?_) ?_ M'
        · rcases (getD_set (by omega)).1 hk with hk | rfl
          · exact (getD_set (by omega)).2 (.inl (hcl k hk o' ho' e he hbe))
          · exact (getD_set (by omega)).2 (.inl (hei o' ho' e he hbe))
        · have hji : j ≠ i := fun e => by
            have := (getD_set (listed := listed) (i := i) (j := j) (by omega)).2 (.inr e)
            rw [hlj] at this
            cases this
          rw [getD_set_ne false (Ne.symm hji)] at hlj
          exact (List.mem_erase_of_ne hji).2 (hrem j hj hlj)
        · have := List.length_erase_of_mem (hrem i hin hl)
          omega
      unfold wpOp
      rw [ho]
      dsimp only
      rw [hb]
      cases b
      · exact next undef w (k2 rfl)
      · exact .inl (OpTo.wp (k1 rfl) fun v w' hv => next v w' hv)
end
theorem draw_sound {env : Env} (hE : EnvOk P env) (hm : P.follows .mixedOrders = true) : DrawOk P env := by
  intro callF hC id ops st outs h p hs h8 hex
  unfold runRegion at h
  simp only [cond_true] at h
  obtain ⟨hst, h⟩ := bif_ok h
  obtain ⟨l, hl, h⟩ := R.bind_ok h
  have h := sayAt_ok h
  obtain ⟨s, q, tc, ⟨e1, e2⟩, hin, hall, hsn, hexn⟩ := path hE hC ops.toList hl hs h8 hex
  rw [List.append_nil] at hin
  obtain ⟨hck, hout⟩ := drawsOk_mem h hin
  have hacc := masks_ok (ops := ops) (l := ops.toList) (acc := []) (i := 0) rfl fun j _ => by simp
  rw [Nat.zero_add] at hacc
  have hzip : zipM ops.toList.reverse (masks ops.toList [] 0) = zipM (ops.toList.take ops.toList.length).reverse (masks ops.toList [] 0) := by rw [List.take_length]
  rw [hzip] at hst hck
  have hstat := statOk_all hacc hst
  have hpair := pair_ok hacc hst hck
  have W : Way P ops ops.toList.length s q tc (fun j i => Nat.testBit (maskAt i (masks ops.toList [] 0)) j = true) := by
    refine ⟨by simp, fun i hi => ?_, fun i hi x hx => (hstat i hi x hx).1, hpair, fun D hD i hi j hj => mask_in hacc hD i hi j hj⟩
    obtain ⟨o, h1, h2⟩ := hall i hi
    exact ⟨o, by simpa using h1, h2⟩
  subst e1 e2
  refine ⟨s ops.toList.length, hout, q ops.toList.length, W.pts (Nat.zero_le _) (Nat.le_refl _), hsn, W.nts (Nat.le_refl _), Nat.le_trans h8 (W.nbs (Nat.zero_le _) (Nat.le_refl _)), hexn, fun σ w a hr Q hQ => wp_region_any hm ?_⟩
  have hM := Mid.start W hr (w1 := { w with drawn := w.drawn + 1 }) rfl ⟨rfl, rfl, rfl⟩
  have hfalse : ∀ j, (Array.replicate ops.size false).getD j false = false := fun j => by
    rw [Array.getD_eq_getD_getElem?, Array.getElem?_replicate]
    split <;> rfl
  refine any_sound W hQ ops.size (Array.replicate ops.size false) (List.range ops.size) σ (s 0).tmps (s 0).heap a _ (by simp) (fun i hi => by rw [hfalse] at hi; cases hi) (fun j hj _ => by simpa using hj) (by simp) ?_
  have : (fun j => (Array.replicate ops.size false).getD j false = true) = fun _ => False := by
    funext j
    rw [hfalse]
    simp
  rw [this]
  exact hM
end
end Go.Hal
