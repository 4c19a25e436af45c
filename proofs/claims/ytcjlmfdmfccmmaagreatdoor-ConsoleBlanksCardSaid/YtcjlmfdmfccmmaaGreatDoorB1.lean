/- The analyser is sound, part 2. -/
import Derived.Test.YtcjlmfdmfccmmaaGreatDoorB0
import Derived.Laws.AppendOwn
import Derived.Laws.IdiomStrings
import Derived.Lib.UnsafeStr
import Derived.Laws.LoneSync
import Derived.Laws.MakeOwn
namespace Go.Hal
noncomputable section
open Go
variable {P : Program}

/-- an operation that leaves the heap as it is -/
def Still (p : Pt) (st : St) (us : List Upd) (K : Pt → AV → Prop) : Prop := ∃ u ∈ us, ∃ q, p.le q ∧ Sat q u.ctx ∧ u.heap = st.heap ∧ u.nb = st.nb ∧ K q u.val
theorem Still.one {p : Pt} {st : St} {v : AV} {us : List Upd} {K : Pt → AV → Prop} (hs : Sat p st.ctx) (h : one st v = .ok us) (hk : K p v) : Still p st us K := by
  cases h
  exact ⟨_, List.mem_singleton.2 rfl, p, p.le_refl, hs, rfl, rfl, hk⟩
theorem Still.oneC {p : Pt} {st : St} {r : SV × Ctx} {us : List Upd} {K : Pt → AV → Prop} (h : oneC st r = .ok us) (hk : ∃ q, p.le q ∧ Sat q r.2 ∧ K q (.sc r.1)) : Still p st us K := by
  cases h
  obtain ⟨q, hq, hsq, hk⟩ := hk
  exact ⟨_, List.mem_singleton.2 rfl, q, hq, hsq, rfl, rfl, hk⟩
def ofBv (op : BinOp) (v : Bool) : Bool := match op with | .neq => !v | _ => v
theorem ofB_den {η : Va} {σ : Sig} {op : BinOp} {b : ABool} {v : Bool} (h : b.ev η = v) : DenV η σ (.sc (ofB op b)) (.bool (ofBv op v)) := by
  cases op <;> simp [ofB, ofBv, DenV, Den, h]
/-- what the operation comes to at its operands -/
def BinK (P : Program) (p : Pt) (op : BinOp) (t : TypeId) (c : Bool) (x y : AV) (q : Pt) (val : AV) : Prop :=
  ∀ σ ox oy a b w, (c = true → conSide ox oy) → (p.All fun η => DenV η σ x a) → (p.All fun η => DenV η σ y b) →
    ∃ v, (do eqGuard op t ox oy a b; binOp op t a b : Sem Value).run P w = .ok v w ∧ q.All fun η => DenV η σ val v
theorem num_bin {p : Pt} {op : BinOp} {t : TypeId} {c : Bool} {k : IntKind} {x y : Lin} {f : Int → Int → Option Int} {r : SV × Ctx} (h : NumOk p k x y f r)
    (hf : ∀ a b v w, f a b = some v → (binOp op t (.int k a) (.int k b)).run P w = .ok (.int k v) w) : ∃ q, p.le q ∧ Sat q r.2 ∧ BinK P p op t c (.sc (.int k x)) (.sc (.int k y)) q (.sc r.1) := by
  obtain ⟨q, hq, hsq, hx⟩ := h
  refine ⟨q, hq, hsq, fun σ ox oy a b w _ ha hb => ?_⟩
  obtain ⟨a', rfl, hka, ha'⟩ := den_int ha
  obtain ⟨b', rfl, hkb, hb'⟩ := den_int hb
  obtain ⟨v, hv, hd⟩ := hx σ a' b' ha' hb' hka hkb
  refine ⟨.int k v, ?_, hd.imp fun η h => DenV.of h⟩
  simp only [Sem.run_bind, eqGuard_other (a := .int k a') (b := .int k b') (by simp) (.inl (by simp)), Result.andThen_ok]
  exact hf _ _ _ _ hv
theorem arith_run {op : BinOp} {t : TypeId} {k : IntKind} {a b v : Int} {w : World} (h : arithVal op k a b = some v) : (binOp op t (.int k a) (.int k b)).run P w = .ok (.int k v) w := by
  cases op <;> simp only [arithVal] at h <;> first | (cases h; done) | skip
  · cases h; simp [binOp, Op.intArith]
  · cases h; simp [binOp, Op.intArith]
  · cases h; simp [binOp, Op.intArith]
  · split at h
    · cases h
    · rename_i hb; cases h; simp [binOp, Op.intDiv, hb]
  · split at h
    · cases h
    · rename_i hb; cases h; simp [binOp, Op.intDiv, hb]
theorem bits_run {op : BinOp} {t : TypeId} {k : IntKind} {a b v : Int} {w : World} (h : bitsVal op k a b = some v) : (binOp op t (.int k a) (.int k b)).run P w = .ok (.int k v) w := by
  cases op <;> simp only [bitsVal] at h <;> first | (cases h; done) | skip
  all_goals (cases h; simp [binOp, Op.intBits, bitsK])
theorem shift_run {op : BinOp} {t : TypeId} {k j : IntKind} {a b v : Int} {w : World} (h : shiftVal op k a b = some v) : (binOp op t (.int k a) (.int j b)).run P w = .ok (.int k v) w := by
  unfold shiftVal at h
  split at h
  · cases h
  · rename_i hb
    cases op <;> simp only at h <;> first | (cases h; done) | skip
    all_goals (cases h; simp [binOp, Op.shift, hb])
theorem cmp_run {op : BinOp} {t : TypeId} {k : IntKind} {x y : Lin} {b : ABool} (h : intCmpA op x y = .ok b) (η : Va) (w : World) :
    (binOp op t (.int k (x.ev η.int)) (.int k (y.ev η.int))).run P w = .ok (.bool (b.ev η)) w := by
  have := intCmpA_sound (P := P) h η w
  cases op <;> first | (simp [intCmpA] at h; done) | (simpa [binOp] using this)
theorem bytes_beq (a b : ByteArray) : (a.toList == b.toList) = decide (a = b) := by
  rw [ByteArray.toList_eq, ByteArray.toList_eq, Bool.eq_iff_iff, beq_iff_eq, decide_eq_true_iff]
  exact ⟨fun h => ByteArray.ext (Array.toList_inj.mp h), fun h => by rw [h]⟩
def eqKind : SV → Bool
  | .int _ _ | .str _ | .any | .slen _ => false
  | _ => true
def isNum : Value → Bool
  | .int _ _ | .float _ _ | .complex _ _ _ | .string _ => true
  | _ => false
theorem svEqA_kind {Φ : Ctx} {ty : Nat → Option TI} {d : TypeDesc} {c : Bool} {x y : SV} {r : ABool × Ctx} (h : svEqA Φ ty d c x y = .ok r) : eqKind x = true := by
  unfold svEqA at h
  split at h <;> first | rfl | cases h
theorem den_kind {η : Va} {σ : Sig} {x : SV} {a : Value} (hk : eqKind x = true) (h : Den η σ x a) : isNum a = false := by
  cases x <;> simp only [eqKind] at hk <;> first | (cases hk; done) | skip
  all_goals simp only [Den] at h
  · rw [h]; rfl
  · obtain ⟨c, n, o, _, _, rfl⟩ := h; rfl
  · rw [h]; rfl
  · rcases h with ⟨_, _, rfl⟩ | ⟨c, n, o, l, cap, _, _, _, _, rfl⟩ <;> rfl
  · rw [h]; rfl
  · obtain ⟨c, n, _, rfl⟩ := h; rfl
  · rw [h]; rfl
  · obtain ⟨vs, rfl, _⟩ := h; rfl
  · rw [h]; rfl
  · obtain ⟨t, x, rfl⟩ := h; rfl
  · rw [h.1]; rfl
  · rw [h]; rfl
theorem eql_run {op : BinOp} {t : TypeId} {a b : Value} {w : World} {v : Bool} (ho : isEq op = true) (hn : isNum a = false) (h : (Op.equal t a b).run P w = .ok v w) :
    (binOp op t a b).run P w = .ok (.bool (ofBv op v)) w := by
  cases op <;> simp only [isEq] at ho <;> first | (cases ho; done) | skip
  all_goals (cases a <;> simp only [isNum] at hn <;> first | (cases hn; done) | (simp [binOp, h, ofBv]))
theorem eqGuard_ints {op : BinOp} {t e : TypeId} {n : Nat} {k : IntKind} {ox oy : Operand} {a b : Value} (ht : P.underlying t = some (.array n e)) (he : P.underlying e = some (.int k)) (ha : a ≠ .nilIface) (w : World) :
    (eqGuard op t ox oy a b).run P w = .ok () w := by
  have key : ∀ m : Sem Unit, m.run P w = .ok () w → ∀ c : Bool, (if (!c) = true then (pure () : Sem Unit) else m).run P w = .ok () w := fun m hm c => by
    cases c
    · rfl
    · exact hm
  unfold eqGuard
  refine key _ ?_ _
  split
  · exact absurd rfl ha
  · have hd : P.eqGuardType P.depth t = false := by
      have : P.depth = (2 * (P.types.size + Made.depth)) + 1 + 1 := rfl
      rw [this, Program.eqGuardType]
      simp only [ht]
      rw [Program.eqGuardType]
      simp only [he]
    simp [hd]
  · rfl
theorem isIntRow_spec {ty : Nat → Option TI} (hT : TyOk P ty) {t : TypeId} {ti : TI} (ht : ty t = some ti) {n : Nat} (h : isIntRow ty n ti.desc = true) :
    ∃ e k, P.underlying t = some (.array n e) ∧ P.underlying e = some (.int k) ∧ ∀ w, (sizeOf e).run P w = .ok 1 w := by
  have hd := hT.desc t ti ht
  unfold isIntRow at h
  split at h
  · rename_i m e hde
    simp only [Bool.and_eq_true] at h
    have hn := (beq_iff _ _).1 h.1
    split at h
    · rename_i by_ k z cm hte
      exact ⟨e, k, by rw [hd, hde, hn], hT.desc e _ hte, fun w => hT.run_size hte w⟩
    · simp at h
  · cases h
theorem rowEqA_vals {Φ : Ctx} {η : Va} {σ : Sig} : ∀ {l r : List SV} {o : Option Bool}, rowEqA Φ l r = .ok o → ∀ {xs ys : List Value}, DenL η σ l xs → DenL η σ r ys → valsAt η.int l = xs ∧ valsAt η.int r = ys
  | [], [], _, _, [], [], _, _ => ⟨rfl, rfl⟩
  | s :: l, t :: r, o, h, x :: xs, y :: ys, hx, hy => by
    cases s with
    | int j a =>
      cases t with
      | int k b =>
        simp only [rowEqA] at h
        cases hk : keq j k
        · rw [hk] at h; cases h
        · rw [hk] at h
          simp only [cond_true] at h
          obtain ⟨o', ho', h⟩ := R.bind_ok h
          obtain ⟨h1, h2⟩ := rowEqA_vals ho' hx.2 hy.2
          simp only [valsAt, h1, h2]
          exact ⟨by rw [hx.1.1], by rw [hy.1.1]⟩
      | _ => simp [rowEqA] at h
    | _ => simp [rowEqA] at h
  | [], _ :: _, _, h, _, _, _, _ => by simp [rowEqA] at h
  | s :: _, [], _, h, _, _, _, _ => by cases s <;> simp [rowEqA] at h
theorem binOpA_sound {ty : Nat → Option TI} (hT : TyOk P ty) {st : St} {op : BinOp} {t : TypeId} {c : Bool} {x y : AV} {us : List Upd} (h : binOpA st ty op t c x y = .ok us) {p : Pt} (hs : Sat p st.ctx) :
    Still p st us (BinK P p op t c x y) := by
  unfold binOpA at h
  split at h
  · rename_i k a j b
    have arith : ∀ {op' : BinOp}, op' = op → ∀ r, intArithA st.ctx op' k a b = .ok r → keq k j = true → ∃ q, p.le q ∧ Sat q r.2 ∧ BinK P p op t c (.sc (.int k a)) (.sc (.int j b)) q (.sc r.1) := fun ho r hr hk => by
      subst ho; have := keq_eq hk; subst this
      exact num_bin (intArithA_sound hs hr) fun _ _ _ _ hv => arith_run hv
    have bits : ∀ {op' : BinOp}, op' = op → ∀ r, intBitsA st.ctx op' k a b = .ok r → keq k j = true → ∃ q, p.le q ∧ Sat q r.2 ∧ BinK P p op t c (.sc (.int k a)) (.sc (.int j b)) q (.sc r.1) := fun ho r hr hk => by
      subst ho; have := keq_eq hk; subst this
      exact num_bin (intBitsA_sound hs hr) fun _ _ _ _ hv => bits_run hv
    have shift : ∀ {op' : BinOp}, op' = op → ∀ r, shiftA st.ctx op' k a b = .ok r → ∃ q, p.le q ∧ Sat q r.2 ∧ BinK P p op t c (.sc (.int k a)) (.sc (.int j b)) q (.sc r.1) := fun ho r hr => by
      subst ho
      obtain ⟨q, hq, hsq, hx⟩ := shiftA_sound hs hr
      refine ⟨q, hq, hsq, fun σ ox oy a b w _ ha hb => ?_⟩
      obtain ⟨a', rfl, hka, ha'⟩ := den_int ha
      obtain ⟨b', rfl, hkb, hb'⟩ := den_int hb
      obtain ⟨v, hv, hd⟩ := hx σ a' b' ha' hb' hka
      refine ⟨.int k v, ?_, hd.imp fun η h => DenV.of h⟩
      simp only [Sem.run_bind, eqGuard_other (a := .int k a') (b := .int j b') (by simp) (.inl (by simp)), Result.andThen_ok]
      exact shift_run hv
    have cmp : ∀ {op' : BinOp}, op' = op → ∀ r, intCmpA op' a b = .ok r → keq k j = true → BinK P p op t c (.sc (.int k a)) (.sc (.int j b)) p (.sc (.bool r)) := fun ho r hr hk => by
      subst ho; have := keq_eq hk; subst this
      intro σ ox oy x y w _ ha hb
      obtain ⟨a', rfl, hka, ha'⟩ := den_int ha
      obtain ⟨b', rfl, hkb, hb'⟩ := den_int hb
      have h1 := cmp_run (P := P) (t := t) (k := k) hr p.η w
      have e1 : a.ev p.η.int = a' := ha'.self
      have e2 : b.ev p.η.int = b' := hb'.self
      rw [e1, e2] at h1
      refine ⟨.bool (r.ev p.η), ?_, fun η hη => ?_⟩
      · simp only [Sem.run_bind, eqGuard_other (a := .int k a') (b := .int k b') (by simp) (.inl (by simp)), Result.andThen_ok]
        exact h1
      · have h2 := cmp_run (P := P) (t := t) (k := k) hr η w
        have e3 : a.ev η.int = a' := ha' η hη
        have e4 : b.ev η.int = b' := hb' η hη
        rw [e3, e4, h1] at h2
        simp only [Result.ok.injEq, and_true] at h2
        exact h2
    split at h
    · obtain ⟨r, hr, h⟩ := R.bind_ok h; exact Still.oneC h (shift rfl r hr)
    · obtain ⟨r, hr, h⟩ := R.bind_ok h; exact Still.oneC h (shift rfl r hr)
    all_goals (cases hk : keq k j <;> rw [hk] at h <;> simp only [cond_true, cond_false] at h <;> first | (cases h; done) | skip)
    all_goals (obtain ⟨r, hr, h⟩ := R.bind_ok h)
    all_goals first
      | exact Still.oneC h (arith rfl r hr hk)
      | exact Still.oneC h (bits rfl r hr hk)
      | exact Still.one hs h (cmp rfl r hr hk)
  · rename_i a b
    have eq : ∀ {op' : BinOp}, op' = op → (op' = .eql ∨ op' = .neq) → ∃ q, p.le q ∧ Sat q (strEqA st.ctx a b).2 ∧ BinK P p op t c (.sc (.str a)) (.sc (.str b)) q (.sc (ofB op' (strEqA st.ctx a b).1)) := fun ho hop => by
      subst ho
      obtain ⟨q, hq, hsq, hx⟩ := strEqA_sound hs a b
      refine ⟨q, hq, hsq, fun σ ox oy x y w _ ha hb => ?_⟩
      obtain ⟨a', rfl, ha'⟩ := den_str ha
      obtain ⟨b', rfl, hb'⟩ := den_str hb
      have h1 := hx a' b' ha' hb'
      refine ⟨_, ?_, fun η hη => ofB_den (h1 η hη)⟩
      simp only [Sem.run_bind, eqGuard_other (a := .string a') (b := .string b') (by simp) (.inl (by simp)), Result.andThen_ok]
      rcases hop with rfl | rfl <;> simp [binOp, Op.stringOp, bytes_beq, ofBv]
    split at h
    · obtain ⟨r, hr, h⟩ := R.bind_ok h
      refine Still.oneC h ?_
      obtain ⟨q, hq, hsq, hx⟩ := concatA_sound hs hr
      refine ⟨q, hq, hsq, fun σ ox oy x y w _ ha hb => ?_⟩
      obtain ⟨a', rfl, ha'⟩ := den_str ha
      obtain ⟨b', rfl, hb'⟩ := den_str hb
      obtain ⟨h1, h2⟩ := hx σ a' b' ha' hb'
      refine ⟨.string (a' ++ b'), ?_, h2.imp fun η h => DenV.of h⟩
      simp only [Sem.run_bind, eqGuard_other (a := .string a') (b := .string b') (by simp) (.inl (by simp)), Result.andThen_ok]
      have h3 : ¬ (((a'.size + b'.size : Nat) : Int) > IntKind.i64.max) := by
        have : IntKind.i64.max = maxStr := rfl
        omega
      simp only [binOp, Op.stringOp, h3, if_false, Sem.run_pure]
    · exact Still.oneC h (eq rfl (.inl rfl))
    · exact Still.oneC h (eq rfl (.inr rfl))
    · cases h
  · rename_i a b _ _
    cases ho : isEq op
    · rw [ho] at h; cases h
    · rw [ho] at h
      simp only [cond_true] at h
      split at h
      · rename_i ti hti
        obtain ⟨r, hr, h⟩ := R.bind_ok h
        refine Still.oneC h ?_
        have hkind := svEqA_kind hr
        obtain ⟨q, hq, hsq, hx⟩ := svEqA_sound (P := P) (op := op) hT hs (hT.desc t ti hti) hr
        refine ⟨q, hq, hsq, fun σ ox oy x y w hc ha hb => ?_⟩
        have hax : a.isAny = false := by cases a <;> first | rfl | cases hkind
        have hby : b.isAny = false := by
          cases b <;> first | rfl | skip
          cases a <;> simp [svEqA] at hr
        have ha' : p.All fun η => Den η σ a x := ha.imp fun η h => DenV.un hax h
        have hb' : p.All fun η => Den η σ b y := hb.imp fun η h => DenV.un hby h
        obtain ⟨v, h1, h2, h3⟩ := hx σ ox oy x y w hc ha' hb'
        refine ⟨_, ?_, fun η hη => ofB_den (h3 η hη)⟩
        simp only [Sem.run_bind, h1, Result.andThen_ok]
        exact eql_run ho (den_kind hkind ha'.self) h2
      · cases h
  · rename_i a b
    cases ho : isEq op
    · rw [ho] at h; cases h
    · rw [ho] at h
      simp only [cond_true] at h
      split at h
      · rename_i ti hti
        cases hrow : isIntRow ty (clen a) ti.desc
        · rw [hrow] at h; cases h
        · rw [hrow] at h
          simp only [cond_true] at h
          obtain ⟨o, ho', h⟩ := R.bind_ok h
          obtain ⟨e, k, hu, he, hsz⟩ := isIntRow_spec hT hti hrow
          -- what the rows come to, once they are there
          have main : ∀ {q : Pt} {vb : ABool}, p.le q → (∀ σ xs ys (v : Bool), (p.All fun η => DenL η σ a xs) → (p.All fun η => DenL η σ b ys) → (v = true ↔ ∀ i (h1 : i < xs.length) (h2 : i < ys.length), xs[i] = ys[i]) → q.All fun η => vb.ev η = v) →
              BinK P p op t c (.agg a) (.agg b) q (.sc (ofB op vb)) := fun hpq hvb σ ox oy x y w _ ha hb => by
            obtain ⟨xs, hx, hxs0⟩ := ha.self
            obtain ⟨ys, hy, hys0⟩ := hb.self
            have hxs : p.All fun η => DenL η σ a xs := fun η hη => by
              obtain ⟨xs', hx', h1⟩ := ha η hη
              rw [hx] at hx'
              simp only [Value.agg.injEq, Array.mk.injEq] at hx'
              rw [hx']; exact h1
            have hys : p.All fun η => DenL η σ b ys := fun η hη => by
              obtain ⟨ys', hy', h1⟩ := hb η hη
              rw [hy] at hy'
              simp only [Value.agg.injEq, Array.mk.injEq] at hy'
              rw [hy']; exact h1
            obtain ⟨hl, hint, _⟩ := rowEqA_sound hs ho' hxs hys
            have hlen := hxs0.length
            obtain ⟨v, hv, hiff⟩ := run_equalIn_ints (P := P) (d := 9998) hu he (hsz w) xs ys hlen.symm (by omega) hint
            refine ⟨.bool (ofBv op v), ?_, fun η hη => ofB_den (hvb σ xs ys v hxs hys hiff η hη)⟩
            rw [hx, hy]
            simp only [Sem.run_bind, eqGuard_ints hu he (a := .agg ⟨xs⟩) (by simp) w, Result.andThen_ok]
            exact eql_run ho rfl hv
          cases o with
          | some v =>
            refine Still.one hs h (main p.le_refl fun σ xs ys v' hxs hys hiff η _ => ?_)
            have h3 := (rowEqA_sound hs ho' hxs hys).2.2 v rfl
            show v = v'
            rw [Bool.eq_iff_iff, ← h3, hiff]
          | none =>
            refine Still.oneC h ?_
            obtain ⟨q, hq, hsq, hx⟩ := newBool_sound hs (@decide (∀ i (h1 : i < (valsAt p.η.int a).length) (h2 : i < (valsAt p.η.int b).length), (valsAt p.η.int a)[i] = (valsAt p.η.int b)[i]) (Classical.propDecidable _))
            refine ⟨q, hq, hsq, main hq fun σ xs ys v' hxs hys hiff => ?_⟩
            obtain ⟨e1, e2⟩ := rowEqA_vals ho' hxs.self hys.self
            rw [e1, e2] at hx
            refine hx.imp fun η h => h.trans ?_
            rw [Bool.eq_iff_iff, @decide_eq_true_iff _ (Classical.propDecidable _), hiff]
      · cases h
  · cases h
end
end Go.Hal
namespace Go.Hal
noncomputable section
open Go
variable {P : Program}

theorem bif_ok {α : Type} {c : Bool} {x : R α} {s : String} {a : α} (h : (bif c then x else .err s) = .ok a) : c = true ∧ x = .ok a := by
  cases c
  · cases h
  · exact ⟨rfl, h⟩
theorem bif_no {α : Type} {c : Bool} {x : R α} {s : String} {a : α} (h : (bif c then .err s else x) = .ok a) : c = false ∧ x = .ok a := by
  cases c
  · exact ⟨rfl, h⟩
  · cases h
theorem unOpA_sound {st : St} {op : UnOp} {x : AV} {us : List Upd} (h : unOpA st op x = .ok us) {p : Pt} (hs : Sat p st.ctx) :
    Still p st us fun q val => ∀ σ a w, (p.All fun η => DenV η σ x a) → ∃ v, (Op.unary op a).run P w = .ok v w ∧ q.All fun η => DenV η σ val v := by
  unfold unOpA at h
  split at h
  · rename_i k e
    refine Still.oneC h ?_
    obtain ⟨q, hq, hsq, hx⟩ := mkInt_sound hs k e.neg
    refine ⟨q, hq, hsq, fun σ a w ha => ?_⟩
    obtain ⟨a', rfl, hk, ha'⟩ := den_int ha
    refine ⟨_, ?_, (hx σ (0 - a') fun η hη => by have := ha' η hη; simp only [Lin.ev_neg]; omega).imp fun η h => DenV.of h⟩
    simp [Op.unary, Op.intArith]
  · rename_i k e
    split at h
    · rename_i ht
      refine Still.oneC h ?_
      obtain ⟨q, hq, hsq, hx⟩ := mkInt_sound hs k (.k (bitsK .xor k (if k.signed then -1 else k.max) e.c))
      refine ⟨q, hq, hsq, fun σ a w ha => ?_⟩
      obtain ⟨a', rfl, hk, ha'⟩ := den_int ha
      have hc : e.c = a' := by have := ha'.self; rw [Lin.ev_nil ht] at this; exact this
      refine ⟨_, ?_, (hx σ (bitsK .xor k (if k.signed then -1 else k.max) e.c) fun η _ => Lin.ev_k _ _).imp fun η h => DenV.of h⟩
      simp [Op.unary, Op.intBits, bitsK, hc]
    · refine Still.oneC h ?_
      obtain ⟨q, hq, hsq, hx⟩ := wide_sound hs (k := k) (k.wrap (bitsK .xor k (if k.signed then -1 else k.max) (e.ev p.η.int)))
      refine ⟨q, hq, hsq, fun σ a w ha => ?_⟩
      obtain ⟨a', rfl, hk, ha'⟩ := den_int ha
      have hc : e.ev p.η.int = a' := ha'.self
      rw [hc] at hx
      refine ⟨_, ?_, (hx (wrap_in k _) σ).imp fun η h => DenV.of h⟩
      simp [Op.unary, Op.intBits, bitsK]
  · rename_i b
    refine Still.one hs h fun σ a w ha => ?_
    obtain ⟨a', rfl, ha'⟩ := den_bool ha
    exact ⟨.bool !a', by simp [Op.unary], fun η hη => by have := ha' η hη; simp [DenV, Den, this]⟩
  · cases h

/-! Constants. -/
theorem bsOf_toList (s : ByteArray) : bsOf (s.data.toList.map UInt8.toNat) = s := by
  apply ByteArray.ext
  have : (UInt8.ofNat ∘ UInt8.toNat) = id := funext fun b => by simp
  simp [bsOf, this]
theorem ofScalar_sound (η : Va) (σ : Sig) {v : Value} (h : oneCellB v = true) : Den η σ (ofScalar v) v := by
  have ho : v.oneCell' = true := by cases v <;> first | rfl | cases h
  unfold ofScalar
  split
  · simp [Den, ABool.ev]
  · rename_i k n
    cases hk : (ile (kmin k) n && ile n (kmax k))
    · exact rfl
    · simp only [Bool.and_eq_true, ile_iff] at hk
      simp only [cond_true, Den, Lin.ev_k]
      exact ⟨trivial, hk⟩
  · rename_i s
    simp only [Den, AStr.ev, bsOf_toList, true_and]
    show (Lin.k (llen (s.data.toList.map UInt8.toNat))).ev η.int = _
    rw [Lin.ev_k, llen_eq, List.length_map]
    rfl
  · rfl
  · rfl
  · rfl
  · rfl
  · rfl
  · exact ⟨[], rfl, trivial⟩
  · exact ho
theorem ofScalars_sound (η : Va) (σ : Sig) : ∀ {l : List Value}, l.all oneCellB = true → DenL η σ (l.map ofScalar) l
  | [], _ => trivial
  | v :: l, h => by
    simp only [List.all_cons, Bool.and_eq_true] at h
    exact ⟨ofScalar_sound η σ h.1, ofScalars_sound η σ h.2⟩
theorem ofValue_sound (η : Va) (σ : Sig) (v : Value) : DenV η σ (ofValue v) v := by
  unfold ofValue
  split
  · rename_i cs
    cases hc : cs.toList.all oneCellB
    · trivial
    · exact ⟨cs.toList, rfl, ofScalars_sound η σ hc⟩
  · rename_i hn
    cases v with
    | agg cs => exact absurd rfl (hn cs)
    | tuple vs => trivial
    | _ => exact DenV.of (ofScalar_sound η σ rfl)
end
end Go.Hal
namespace Go.Hal
noncomputable section
open Go
variable {P : Program}

theorem keq_refl (k : IntKind) : keq k k = true := by cases k <;> rfl
theorem ceq_refl (a : CT) : ceq a a = true := by
  cases a
  · exact keq_refl _
  · exact (beq_iff _ _).2 rfl
  · rfl
def ContD (η : Va) (σ : Sig) : Cont → List Value → Prop
  | .known cs, vs => DenL η σ cs vs
  | .blob n ct, vs => n.ev η.int = (vs.length : Int) ∧ ∀ v ∈ vs, ctHas ct v
  | .opq n, vs => n.ev η.int = (vs.length : Int) ∧ ∀ v ∈ vs, v.oneCell' = true
theorem ContD.one {η : Va} {σ : Sig} {c : Cont} {vs : List Value} (h : ContD η σ c vs) : ∀ v ∈ vs, v.oneCell' = true := by
  cases c with
  | known cs => exact DenL.one h
  | blob n ct => exact fun v hv => (h.2 v hv).one
  | opq n => exact h.2
theorem ContD.len {η : Va} {σ : Sig} {c : Cont} {vs : List Value} (h : ContD η σ c vs) : c.size.ev η.int = (vs.length : Int) := by
  cases c with
  | known cs => have := DenL.length h; simp [Cont.size, this]
  | blob n ct => exact h.1
  | opq n => exact h.1
theorem fitsCt_val {Φ : Ctx} {ct : CT} {s : SV} (hf : fitsCt Φ ct s = true) {η : Va} {σ : Sig} {v : Value} (hd : Den η σ s v) : v = cellVal η s := by
  cases s <;> simp only [fitsCt] at hf <;> first | (cases hf; done) | exact hd.1
theorem allFit_val {Φ : Ctx} {ct : CT} {η : Va} {σ : Sig} : ∀ {l : List SV} {vs : List Value}, allFit Φ ct l = true → DenL η σ l vs → vs = l.map (cellVal η)
  | [], [], _, _ => rfl
  | s :: l, v :: vs, hf, hd => by
    simp only [allFit, Bool.and_eq_true] at hf
    simp only [List.map_cons, ← allFit_val hf.2 hd.2, ← fitsCt_val hf.1 hd.1]
theorem allFit_has {Φ : Ctx} {ct : CT} {η : Va} {σ : Sig} (hΦ : Φ.Says η.int) : ∀ {l : List SV} {vs : List Value}, allFit Φ ct l = true → DenL η σ l vs → ∀ v ∈ vs, ctHas ct v
  | [], [], _, _ => by simp
  | s :: l, v :: vs, hf, hd => fun x hx => by
    simp only [allFit, Bool.and_eq_true] at hf
    rcases List.mem_cons.1 hx with rfl | hx
    · exact fitsCt_sound hΦ hf.1 hd.1
    · exact allFit_has hΦ hf.2 hd.2 x hx
theorem fits_has {Φ : Ctx} {ct : CT} {η : Va} {σ : Sig} (hΦ : Φ.Says η.int) {c : Cont} {vs : List Value} (hf : c.fits Φ ct = true) (hd : ContD η σ c vs) : ∀ v ∈ vs, ctHas ct v := by
  cases c with
  | known cs => exact allFit_has hΦ hf hd
  | blob n cu => have := ceq_eq hf; subst this; exact hd.2
  | opq n => cases hf
theorem allInt_val {η : Va} {σ : Sig} {k : IntKind} : ∀ {cs : List SV} {vs : List Value}, cs.all (isInt k) = true → DenL η σ cs vs → vs = cs.map (cellVal η)
  | [], [], _, _ => rfl
  | s :: l, v :: r, ha, h => by
    simp only [List.all_cons, Bool.and_eq_true] at ha
    cases s <;> simp only [isInt] at ha <;> first | (cases ha.1; done) | skip
    simp only [List.map_cons, ← allInt_val ha.2 h.2, cellVal]
    rw [h.1.1]
/-- the values, where they are known of the point -/
def contVals (η : Va) (st : St) (b : Nat) (off n : Lin) : List Value :=
  match blk st.heap b with
  | .cells _ cs => ((cs.map (cellVal η)).drop (off.ev η.int).toNat).take (n.ev η.int).toNat
  | .blob _ a _ _ => ((η.row a).drop (off.ev η.int).toNat).take (n.ev η.int).toNat
  | _ => []
theorem contVals_zero {η : Va} {st : St} {b : Nat} {off n : Lin} (h : n.ev η.int = 0) : contVals η st b off n = [] := by
  unfold contVals
  split <;> simp [h]
theorem contOf_zero {st : St} {b : Nat} {off n : Lin} {c : Cont} (h : contOf st b off n = .ok c) {η : Va} {σ : Sig} (h0 : n.ev η.int = 0) : ContD η σ c [] := by
  unfold contOf at h
  split at h
  · rename_i t cs _
    unfold contCells at h
    split at h
    · rename_i o m
      have hm : m = 0 := by simp [Lin.ev, Lin.evTs] at h0; exact h0
      subst hm
      split at h
      · rename_i l hl
        cases h
        simp only [cpart, ctake_eq, List.take_zero, clen, Nat.beq, cond_true, Option.some.injEq] at hl
        subst hl
        trivial
      · cases h
    · cases hb : (st.ctx.ge0 off && st.ctx.ge0 n && st.ctx.ge0 (((n.add off).neg).addc (clen cs)))
      · rw [hb] at h; cases h
      · rw [hb] at h
        simp only [cond_true] at h
        split at h
        · cases h; exact ⟨h0, by simp⟩
        · cases h
  · rename_i t a m ct _
    cases hb : (st.ctx.ge0 off && st.ctx.ge0 n && st.ctx.ge0 ((m.sub n).sub off))
    · rw [hb] at h; cases h
    · rw [hb] at h; cases h; exact ⟨h0, by simp⟩
  · rename_i t m _
    cases hb : (st.ctx.ge0 off && st.ctx.ge0 n && st.ctx.ge0 ((m.sub n).sub off))
    · rw [hb] at h; cases h
    · rw [hb] at h; cases h; exact ⟨h0, by simp⟩
  · cases h
theorem opq_part {p : Pt} {σ : Sig} {w : World} {t : TypeId} {m : Lin} {c n : Nat} (h : p.All fun η => BlkD η σ w (.opq t m) (.at_ c n)) :
    ∃ tot, CellsAt w c t tot ∧ tot.length = n ∧ p.All fun η => ∃ k : Nat, m.ev η.int = k ∧ k ≤ tot.length ∧ ∀ v ∈ tot.take k, v.oneCell' = true := by
  obtain ⟨vs, more, hc, hn, _⟩ := h.self
  refine ⟨vs ++ more, hc, hn, fun η hη => ?_⟩
  obtain ⟨vs', more', hc', hn', hm', ho'⟩ := h η hη
  have he := hc.inj hc'
  exact ⟨vs'.length, hm', by rw [he]; simp, by rw [he]; simpa using ho'⟩
theorem contOf_sound {st : St} {b : Nat} {off n : Lin} {c : Cont} (h : contOf st b off n = .ok c) {p : Pt} (hs : Sat p st.ctx) {σ : Sig} {w : World} (hr : RelH p σ st.heap st.nb w) {d N : Nat} (hσ : σ b = .at_ d N)
    {o m : Nat} (ho : p.All fun η => off.ev η.int = (o : Int)) (hm : p.All fun η => n.ev η.int = (m : Int)) (hN : o + m ≤ N) :
    ∃ tot u fr, w.heap[d]? = some (.cells ⟨tot⟩ u fr) ∧ tot.length = N ∧ (∀ j, j < tot.length → ¬ (fr.1 ≤ j ∧ j < fr.2)) ∧ (∀ t, blkType (blk st.heap b) = some t → t = 0 ∨ t = u) ∧
      (p.All fun η => ContD η σ c ((tot.drop o).take m)) ∧ ∀ ct, c.fits st.ctx ct = true → (tot.drop o).take m = contVals p.η st b off n := by
  have hB := hr.rel b
  rw [hσ] at hB
  have ho0 : (off.ev p.η.int).toNat = o := by have := ho.self; omega
  have hm0 : (n.ev p.η.int).toNat = m := by have := hm.self; omega
  unfold contOf at h
  split at h
  · rename_i t cs hb
    rw [hb] at hB
    obtain ⟨vs, more, ⟨u, fr, hc, ht, hf⟩, hn, hD⟩ := cells_fix hB
    have hl0 := hD.self.length
    rw [clen_eq] at hl0
    refine ⟨vs ++ more, u, fr, hc, hn, hf, fun t' ht' => by rw [hb] at ht'; cases ht'; exact ht, ?_⟩
    unfold contCells at h
    split at h
    · rename_i o' m'
      have e1 : o' = o := by have := ho.self; simp [Lin.ev, Lin.evTs] at this; omega
      have e2 : m' = m := by have := hm.self; simp [Lin.ev, Lin.evTs] at this; omega
      subst e1; subst e2
      split at h
      · rename_i l hl
        cases h
        have hpart : ∀ η, DenL η σ cs vs → DenL η σ l (((vs ++ more).drop o').take m') := fun η hd => by
          rcases cpart_sound hl hd with ⟨h1, _, h2⟩ | ⟨h1, rfl⟩
          · rw [List.drop_append_of_le_length (by omega), List.take_append_of_le_length (by simp; omega)]; exact h2
          · rw [h1]; simp [DenL]
        refine ⟨fun η hη => hpart η (hD η hη), fun ct hfit => ?_⟩
        rw [allFit_val hfit (hpart _ hD.self)]
        unfold contVals
        rw [hb]
        dsimp only
        rw [ho0, hm0]
        simp only [cpart, ctake_eq, cdrop_eq, Bool.cond_eq_ite] at hl
        split at hl
        · cases hl; simp
        · cases hl
      · cases h
    · cases hc2 : (st.ctx.ge0 off && st.ctx.ge0 n && st.ctx.ge0 (((n.add off).neg).addc (clen cs)))
      · rw [hc2] at h; cases h
      · rw [hc2] at h
        simp only [cond_true] at h
        simp only [Bool.and_eq_true] at hc2
        have h3 := Ctx.ge0_sound hs.says hc2.2
        simp only [Lin.ev_addc, Lin.ev_neg, Lin.ev_add, clen_eq] at h3
        have h1 := ho.self
        have h2 := hm.self
        have hle : o + m ≤ vs.length := by omega
        split at h
        · rename_i k hk
          cases h
          rw [List.drop_append_of_le_length (by omega), List.take_append_of_le_length (by simp; omega)]
          refine ⟨fun η hη => ⟨by rw [hm η hη]; simp; omega, fun v hv => ?_⟩, fun ct _ => ?_⟩
          · exact DenL.ints hD.self (allInt_all hk) v (List.mem_of_mem_drop (List.mem_of_mem_take hv))
          · unfold contVals
            rw [hb]
            dsimp only
            rw [ho0, hm0, ← allInt_val (allInt_all hk) hD.self]
        · cases h
  · rename_i t a m' ct hb
    rw [hb] at hB
    obtain ⟨vs, more, ⟨u, fr, hc, ht, hf⟩, hn, hD, hv⟩ := blob_fix hB
    refine ⟨vs ++ more, u, fr, hc, hn, hf, fun t' ht' => by rw [hb] at ht'; cases ht'; exact ht, ?_⟩
    cases hc2 : (st.ctx.ge0 off && st.ctx.ge0 n && st.ctx.ge0 ((m'.sub n).sub off))
    · rw [hc2] at h; cases h
    · rw [hc2] at h
      cases h
      simp only [Bool.and_eq_true] at hc2
      have h3 := Ctx.ge0_sound hs.says hc2.2
      simp only [Lin.ev_sub] at h3
      have h1 := ho.self
      have h2 := hm.self
      have h4 := hD.self.2
      have hle : o + m ≤ vs.length := by omega
      rw [List.drop_append_of_le_length (by omega), List.take_append_of_le_length (by simp; omega)]
      refine ⟨fun η hη => ⟨by rw [hm η hη]; simp; omega, fun v hv' => hv v (List.mem_of_mem_drop (List.mem_of_mem_take hv'))⟩, fun ct _ => ?_⟩
      unfold contVals
      rw [hb]
      dsimp only
      rw [ho0, hm0, hD.self.1]
  · rename_i t m' hb
    rw [hb] at hB
    obtain ⟨tot, ⟨u, fr, hc, ht, hf⟩, hn, hD⟩ := opq_part hB
    refine ⟨tot, u, fr, hc, hn, hf, fun t' ht' => by rw [hb] at ht'; cases ht'; exact ht, ?_⟩
    cases hc2 : (st.ctx.ge0 off && st.ctx.ge0 n && st.ctx.ge0 ((m'.sub n).sub off))
    · rw [hc2] at h; cases h
    · rw [hc2] at h
      cases h
      simp only [Bool.and_eq_true] at hc2
      refine ⟨fun η hη => ?_, fun ct hfit => by cases hfit⟩
      have h3 := Ctx.ge0_sound (hs.2 η hη) hc2.2
      simp only [Lin.ev_sub] at h3
      obtain ⟨k, hk, hk2, hk3⟩ := hD η hη
      have h1 : off.ev η.int = (o : Int) := ho η hη
      have h2 : n.ev η.int = (m : Int) := hm η hη
      refine ⟨by rw [h2]; simp; omega, fun v hv => hk3 v ?_⟩
      have hsub : (tot.drop o).take m = ((tot.take k).drop o).take m := by
        rw [List.drop_take, List.take_take]
        congr 1
        omega
      rw [hsub] at hv
      exact List.mem_of_mem_drop (List.mem_of_mem_take hv)
  · cases h
/-- what a slice is -/
theorem den_slice {p : Pt} {σ : Sig} {b : Nat} {off len : Lin} {es : Nat} {v : Value} (h : p.All fun η => Den η σ (.slice b off len es) v) :
    (v = .slice none 0 0 ∧ σ b = .nil ∧ p.All fun η => len.ev η.int = 0) ∨
    ∃ c n o l cap : Nat, v = .slice (some ⟨c, o, none⟩) l cap ∧ σ b = .at_ c n ∧ (p.All fun η => len.ev η.int = (l : Int)) ∧ l ≤ cap ∧ (cap = 0 ∨ ((p.All fun η => off.ev η.int = (o : Int)) ∧ o + cap * es ≤ n)) := by
  rcases h.self with ⟨hb, _, rfl⟩ | ⟨c, n, o, l, cap, hb, _, hlc, _, rfl⟩
  · refine .inl ⟨rfl, hb, fun η hη => ?_⟩
    rcases h η hη with ⟨_, h1, _⟩ | ⟨c, n, o, l, cap, hb', _⟩
    · exact h1
    · rw [hb] at hb'; cases hb'
  · refine .inr ⟨c, n, o, l, cap, rfl, hb, fun η hη => ?_, hlc, ?_⟩
    · rcases h η hη with ⟨hb', _⟩ | ⟨c', n', o', l', cap', _, h1, _, _, h2⟩
      · rw [hb] at hb'; cases hb'
      · simp only [Value.slice.injEq] at h2
        rw [h1, h2.2.1]
    · by_cases hcap : cap = 0
      · exact .inl hcap
      · refine .inr ⟨fun η hη => ?_, ?_⟩
        · rcases h η hη with ⟨hb', _⟩ | ⟨c', n', o', l', cap', _, _, _, h1, h2⟩
          · rw [hb] at hb'; cases hb'
          · simp only [Value.slice.injEq, Option.some.injEq, Addr.mk.injEq] at h2
            rcases h1 with h1 | h1
            · omega
            · rw [h1.1, h2.1.2.1]
        · rcases h.self with ⟨hb', _⟩ | ⟨c', n', o', l', cap', h0, _, _, h1, h2⟩
          · rw [hb] at hb'; cases hb'
          · simp only [Value.slice.injEq, Option.some.injEq, Addr.mk.injEq] at h2
            rw [hb] at h0
            cases h0
            rcases h1 with h1 | h1
            · omega
            · rw [h2.1.2.1, h2.2.2]; exact h1.2
end
end Go.Hal
namespace Go.Hal
noncomputable section
open Go
variable {P : Program}

/-! A block laid anew. -/
def Sig.put (σ : Sig) (nb : Nat) (l : Sg) : Sig := fun b => if b = nb then l else σ b
theorem Sig.put_self (σ : Sig) (nb : Nat) (l : Sg) : σ.put nb l nb = l := by simp [Sig.put]
theorem Sig.put_ne {σ : Sig} {nb : Nat} {l : Sg} {b : Nat} (h : b ≠ nb) : σ.put nb l b = σ b := by simp [Sig.put, h]
theorem Sig.put_ext {σ : Sig} {nb : Nat} {l : Sg} (h : σ nb = .no) : σ.ext (σ.put nb l) := fun b hb => by
  by_cases e : b = nb
  · subst e; exact absurd h hb
  · exact Sig.put_ne e
theorem RelH.kill {p : Pt} {σ : Sig} {h : Tr ABlk} {nb : Nat} {w : World} (r : RelH p σ h nb w) (b : Nat) : RelH p σ (h.set .dead b) nb w where
  full := r.full
  rel b' := fun η hη => by
    rw [blk_set]
    split
    · cases σ b' <;> trivial
    · exact r.rel b' η hη
  inj b₁ b₂ c n₁ n₂ h₁ h₂ := by
    rcases alive_set h₁ with ⟨_, h⟩ | ⟨_, h₁⟩
    · exact absurd rfl h
    · rcases alive_set h₂ with ⟨_, h⟩ | ⟨_, h₂⟩
      · exact absurd rfl h
      · exact r.inj b₁ b₂ c n₁ n₂ h₁ h₂
  glob g hg ha := by
    rcases alive_set ha with ⟨_, h⟩ | ⟨_, h⟩
    · exact absurd rfl h
    · exact r.glob g hg h
theorem own_kill {h : Tr ABlk} {σ : Sig} {b c : Nat} (ho : Own (h.set .dead b) σ c) : Own h σ c := by
  obtain ⟨b', n, ha, hb⟩ := ho
  rcases alive_set ha with ⟨_, h⟩ | ⟨_, h⟩
  · exact absurd rfl h
  · exact ⟨b', n, h, hb⟩
theorem RelH.killed {p : Pt} {σ : Sig} {h : Tr ABlk} {nb : Nat} {w : World} (r : RelH p σ h nb w) {b c n : Nat} (ha : Alive h b) (hb : σ b = .at_ c n) : ¬ Own (h.set .dead b) σ c := fun ⟨b', n', ha', hb'⟩ => by
  rcases alive_set ha' with ⟨_, h⟩ | ⟨hne, h⟩
  · exact absurd rfl h
  · exact hne (r.inj b' b c n' n h ha hb' hb)
theorem RelH.laid {p q : Pt} {σ : Sig} {h : Tr ABlk} {nb : Nat} {w w' : World} (r : RelH p σ h nb w) (hpq : p.le q) (h8 : 8 ≤ nb) {l : Sg} {x : ABlk} (hl : ∀ c n, l = .at_ c n → ¬ Own h σ c)
    (hw : ∀ c, Own h σ c → w'.heap[c]? = w.heap[c]?) (hx : q.All fun η => BlkD η (σ.put nb l) w' x l) : RelH q (σ.put nb l) (h.set x nb) (nb + 1) w' where
  full b hb := by
    rw [Sig.put_ne (by omega)]
    exact r.full b (by omega)
  rel b' := fun η hη => by
    rw [blk_set]
    by_cases e : b' = nb
    · subst e; simp only [if_true, Sig.put_self]; exact hx η hη
    · simp only [e, if_false]
      have h0 := ((r.rel b').mono hpq η hη).ext (Sig.put_ext (σ := σ) (l := l) (r.full nb (Nat.le_refl _)))
      rw [Sig.put_ne e]
      by_cases hal : Alive h b'
      · exact BlkD.world h0 fun c' n' hc' => hw c' ⟨b', n', hal, hc'⟩
      · have : blk h b' = .dead := Classical.not_not.1 hal
        rw [this]; cases σ b' <;> trivial
  inj b₁ b₂ c' n₁ n₂ h₁ h₂ e₁ e₂ := by
    rcases alive_set h₁ with ⟨rfl, _⟩ | ⟨hn₁, h₁'⟩ <;> rcases alive_set h₂ with ⟨rfl, _⟩ | ⟨hn₂, h₂'⟩
    · rfl
    · rw [Sig.put_self] at e₁
      rw [Sig.put_ne hn₂] at e₂
      exact absurd ⟨b₂, n₂, h₂', e₂⟩ (hl c' n₁ e₁)
    · rw [Sig.put_self] at e₂
      rw [Sig.put_ne hn₁] at e₁
      exact absurd ⟨b₁, n₁, h₁', e₁⟩ (hl c' n₂ e₂)
    · rw [Sig.put_ne hn₁] at e₁
      rw [Sig.put_ne hn₂] at e₂
      exact r.inj b₁ b₂ c' n₁ n₂ h₁' h₂' e₁ e₂
  glob g hg hal := by
    rcases alive_set hal with ⟨rfl, _⟩ | ⟨hn, h'⟩
    · omega
    · rw [Sig.put_ne hn]; exact r.glob g hg h'
theorem Step.laid {σ : Sig} {h h₁ : Tr ABlk} {nb : Nat} {w w' : World} {l : Sg} {x : ABlk} (hsub : ∀ c, Own h₁ σ c → Own h σ c) (hl : ∀ c n, l = .at_ c n → c < w.heap.size → Own h σ c)
    (hs : w.heap.size ≤ w'.heap.size) (hfr : ∀ c, c < w.heap.size → ¬ Own h σ c → w'.heap[c]? = w.heap[c]?)
    (hshp : ∀ (c : Nat) (vs : Array Value) (u : TypeId) (fr : Nat × Nat), w.heap[c]? = some (.cells vs u fr) → ∃ vs', w'.heap[c]? = some (.cells vs' u fr) ∧ vs'.size = vs.size) (hio : w'.os = w.os ∧ w'.output = w.output ∧ w'.tape = w.tape) :
    Step nb σ h w (nb + 1) (σ.put nb l) (h₁.set x nb) w' where
  le := by omega
  ext b hb := Sig.put_ne (by omega)
  size := hs
  fr := hfr
  own c hc ho := by
    obtain ⟨b', n', ha', hb'⟩ := ho
    rcases alive_set ha' with ⟨rfl, _⟩ | ⟨hn, h'⟩
    · rw [Sig.put_self] at hb'; exact hl c n' hb' hc
    · rw [Sig.put_ne hn] at hb'; exact hsub c ⟨b', n', h', hb'⟩
  shp := fun c vs u fr h => by
    obtain ⟨vs', h1, h2⟩ := hshp c vs u fr h
    exact ⟨vs', fr, h1, h2⟩
  frz := fun c vs u fr h _ => by
    obtain ⟨vs', h1, h2⟩ := hshp c vs u fr h
    exact ⟨vs', h1⟩
  io := hio
theorem shp_refl {w w' : World} (h : ∀ c, c < w.heap.size → w'.heap[c]? = w.heap[c]?) (c : Nat) (vs : Array Value) (u : TypeId) (fr : Nat × Nat) (hc : w.heap[c]? = some (.cells vs u fr)) :
    ∃ vs', w'.heap[c]? = some (.cells vs' u fr) ∧ vs'.size = vs.size := ⟨vs, by rw [h c (lt_of_get hc), hc], rfl⟩
theorem shp_put {w : World} {d : Nat} {xs ys : Array Value} {t : TypeId} {f : Nat × Nat} (hd : w.heap[d]? = some (.cells xs t f)) (hs : ys.size = xs.size) (c : Nat) (vs : Array Value) (u : TypeId) (fr : Nat × Nat)
    (hc : w.heap[c]? = some (.cells vs u fr)) : ∃ vs', (wput w d (.cells ys t f)).heap[c]? = some (.cells vs' u fr) ∧ vs'.size = vs.size := by
  by_cases e : c = d
  · subst e
    rw [hd] at hc
    cases hc
    exact ⟨ys, by rw [wput_self (lt_of_get hd)], hs⟩
  · exact ⟨vs, by rw [wput_ne e, hc], rfl⟩

/-! Contents joined. -/
theorem blobOr_sound {p : Pt} {Φ : Ctx} (hs : Sat p Φ) (t : TypeId) (n : Lin) (ct : CT) (b : Bool) (Z : List Value) :
    ∃ q, p.le q ∧ Sat q (blobOr Φ t n ct b).2 ∧ ∀ σ' M, (p.All fun η => n.ev η.int = (M.length : Int)) → (b = true → M = Z ∧ ∀ v ∈ M, ctHas ct v) → (∀ v ∈ M, v.oneCell' = true) →
      (∀ w c N more, CellsAt w c t (M ++ more) → (M ++ more).length = N → q.All fun η => BlkD η σ' w (blobOr Φ t n ct b).1 (.at_ c N)) ∧ (M = [] → ∀ w, q.All fun η => BlkD η σ' w (blobOr Φ t n ct b).1 .nil) := by
  cases b
  · refine ⟨p, p.le_refl, hs, fun σ' M hn _ ho => ⟨fun w c N more hc hN η hη => ⟨M, more, hc, hN, hn η hη, ho⟩, fun hM w η hη => ?_⟩⟩
    have := hn η hη
    subst hM
    simpa [blobOr, BlkD] using this
  · refine ⟨p.push 0 default Z default, p.le_push _ _ _ _, hs.push0 _ _ _ _, fun σ' M hn hb _ => ?_⟩
    obtain ⟨rfl, hh⟩ := hb rfl
    have hrow := Pt.push_row (p := p) (x := 0) (s := default) (r := M) (m := default)
    rw [hs.1] at hrow
    have hn' := hn.mono (p.le_push 0 default M default)
    refine ⟨fun w c N more hc hN η hη => ⟨M, more, hc, hN, hrow η hη, hn' η hη, hh⟩, fun hM w η hη => ?_⟩
    have h1 := hrow η hη
    have h2 : n.ev η.int = _ := hn' η hη
    subst hM
    exact ⟨h1, by simpa using h2⟩
theorem joinCont_sound {p : Pt} {Φ : Ctx} (hs : Sat p Φ) (t : TypeId) (x y : Cont) (X Y : List Value) :
    ∃ q, p.le q ∧ Sat q (joinCont Φ t x y).2 ∧ ∀ σ σ' K L, σ.ext σ' → (p.All fun η => ContD η σ x K) → (p.All fun η => ContD η σ y L) → (∀ ct, x.fits Φ ct = true → K = X) → (∀ ct, y.fits Φ ct = true → L = Y) →
      (∀ w c N more, CellsAt w c t (K ++ L ++ more) → (K ++ L ++ more).length = N → q.All fun η => BlkD η σ' w (joinCont Φ t x y).1 (.at_ c N)) ∧ (K = [] → L = [] → ∀ w, q.All fun η => BlkD η σ' w (joinCont Φ t x y).1 .nil) := by
  have blob : ∀ ct b, (∀ σ K L, (p.All fun η => ContD η σ x K) → (p.All fun η => ContD η σ y L) → (∀ ct, x.fits Φ ct = true → K = X) → (∀ ct, y.fits Φ ct = true → L = Y) → b = true → K ++ L = X ++ Y ∧ ∀ v ∈ K ++ L, ctHas ct v) →
      ∃ q, p.le q ∧ Sat q (blobOr Φ t (x.size.add y.size) ct b).2 ∧ ∀ σ σ' K L, σ.ext σ' → (p.All fun η => ContD η σ x K) → (p.All fun η => ContD η σ y L) → (∀ ct, x.fits Φ ct = true → K = X) → (∀ ct, y.fits Φ ct = true → L = Y) →
      (∀ w c N more, CellsAt w c t (K ++ L ++ more) → (K ++ L ++ more).length = N → q.All fun η => BlkD η σ' w (blobOr Φ t (x.size.add y.size) ct b).1 (.at_ c N)) ∧
        (K = [] → L = [] → ∀ w, q.All fun η => BlkD η σ' w (blobOr Φ t (x.size.add y.size) ct b).1 .nil) := fun ct b hb => by
    obtain ⟨q, hq, hsq, hx⟩ := blobOr_sound hs t (x.size.add y.size) ct b (X ++ Y)
    refine ⟨q, hq, hsq, fun σ σ' K L _ hK hL h1 h2 => ?_⟩
    obtain ⟨h3, h4⟩ := hx σ' (K ++ L) (fun η hη => by
      show (x.size.add y.size).ev η.int = _
      rw [Lin.ev_add, (hK η hη).len, (hL η hη).len]; simp) (hb σ K L hK hL h1 h2)
      (fun v hv => by
        rcases List.mem_append.1 hv with hv | hv
        · exact hK.self.one v hv
        · exact hL.self.one v hv)
    exact ⟨h3, fun e1 e2 => h4 (by rw [e1, e2]; rfl)⟩
  unfold joinCont
  split
  · rename_i a b
    refine ⟨p, p.le_refl, hs, fun σ σ' K L hσ hK hL _ _ => ⟨fun w c N more hc hN η hη => ⟨K ++ L, more, hc, hN, ((hK η hη).append (hL η hη)).ext hσ⟩, fun e1 e2 w η hη => ?_⟩⟩
    subst e1; subst e2
    have h1 := hK η hη
    have h2 := hL η hη
    simp only [ContD] at h1 h2
    cases a <;> cases b <;> first | exact h1.elim | exact h2.elim | trivial
  · rename_i n ct
    refine blob ct (y.fits Φ ct) fun σ K L hK hL h1 h2 hf => ⟨by rw [h1 ct (ceq_refl ct), h2 ct hf], fun v hv => ?_⟩
    rcases List.mem_append.1 hv with hv | hv
    · exact hK.self.2 v hv
    · exact fits_has hs.says hf hL.self v hv
  · rename_i n ct _
    refine blob ct (x.fits Φ ct) fun σ K L hK hL h1 h2 hf => ⟨by rw [h1 ct hf, h2 ct (ceq_refl ct)], fun v hv => ?_⟩
    rcases List.mem_append.1 hv with hv | hv
    · exact fits_has hs.says hf hK.self v hv
    · exact hL.self.2 v hv
  · exact blob (.int .u8) false fun _ _ _ _ _ _ _ h => by cases h

/-! What is appended, copied. -/
def byteVals (s : ByteArray) : List Value := s.data.toList.map fun b => .int .u8 (b.toNat : Int)
theorem byteVals_len (s : ByteArray) : (byteVals s).length = s.size := by simp only [byteVals, List.length_map]; rfl
theorem byteVals_has (s : ByteArray) : ∀ v ∈ byteVals s, ctHas (.int .u8) v := fun v hv => by
  obtain ⟨b, _, rfl⟩ := List.mem_map.1 hv
  refine ⟨_, rfl, ?_⟩
  have := b.toNat_lt
  exact ⟨by simp [kmin], by simp [kmax]; omega⟩
theorem litCells_den (η : Va) (σ : Sig) : ∀ l : List Nat, DenL η σ (litCells l) (byteVals (bsOf l))
  | [] => trivial
  | c :: l => by
    have := litCells_den η σ l
    simp only [byteVals, bsOf, List.map_cons, List.map_map] at this ⊢
    refine ⟨⟨?_, ?_⟩, this⟩
    · simp [UInt8.toNat_ofNat']
    · have : c % 256 < 256 := Nat.mod_lt _ (by omega)
      simp only [Lin.ev_k]
      exact ⟨by simp [kmin]; omega, by simp [kmax]; omega⟩
theorem firstCells_str (s : ByteArray) (k : Nat) (w : World) : (Builtin.firstCells 1 k (.string s)).run P w = .ok ⟨(byteVals s).take (k * 1)⟩ w := by
  simp only [Builtin.firstCells, Sem.run_pure, Nat.mul_one]
  congr 1
  apply Array.ext'
  simp [byteVals, ByteArray.data_extract]
def srcVals (η : Va) (st : St) (es : Nat) : SV → List Value
  | .str s => byteVals (s.ev η)
  | .slice b off len _ => contVals η st b off (len.smul es)
  | _ => []
theorem den_str' {p : Pt} {σ : Sig} {s : AStr} {v : Value} (h : p.All fun η => Den η σ (.str s) v) :
    ∃ a : ByteArray, v = .string a ∧ p.All fun η => s.ev η = a ∧ (slen s).ev η.int = (a.size : Int) := den_str (σ := σ) (h.imp fun _ h => h)
theorem srcCont_sound {st : St} {es : Nat} {x : SV} {ob : Option Nat} {c : Cont} {len : Lin} (h : srcCont st es x = .ok (ob, c, len)) {p : Pt} (hs : Sat p st.ctx) {σ : Sig} {w : World} {v : Value}
    (hr : RelH p σ st.heap st.nb w) (hd : p.All fun η => Den η σ x v) :
    ∃ (m : Nat) (L : List Value), (∀ w', (Builtin.lenOf v).run P w' = .ok m w') ∧ (p.All fun η => len.ev η.int = (m : Int)) ∧ L.length = m * es ∧ (p.All fun η => ContD η σ c L) ∧
      (∀ ct, c.fits st.ctx ct = true → L = srcVals p.η st es x) ∧ ∀ w', w'.heap = w.heap → ∀ k, k ≤ m → (Builtin.firstCells es k v).run P w' = .ok ⟨L.take (k * es)⟩ w' := by
  unfold srcCont at h
  split at h
  · cases h
    have hv : v = .slice none 0 0 := hd.self
    subst hv
    exact ⟨0, [], fun w' => by simp [Builtin.lenOf], fun η _ => by simp, by simp, fun η _ => trivial, fun _ _ => rfl, fun w' _ k _ => by simp [Builtin.firstCells]⟩
  · rename_i l
    cases hes : Nat.beq es 1
    · rw [hes] at h; cases h
    · rw [hes] at h
      cases h
      have := (beq_iff _ _).1 hes
      subst this
      obtain ⟨a, rfl, ha⟩ := den_str' hd
      have h1 : bsOf l = a := ha.self.1
      subst h1
      exact ⟨(bsOf l).size, byteVals (bsOf l), fun w' => by simp [Builtin.lenOf], fun η _ => by simp [llen_eq], by rw [byteVals_len]; omega, fun η _ => litCells_den η σ l, fun _ _ => rfl, fun w' _ k _ => firstCells_str _ _ _⟩
  · rename_i a n
    cases hes : Nat.beq es 1
    · rw [hes] at h; cases h
    · rw [hes] at h
      cases h
      have := (beq_iff _ _).1 hes
      subst this
      obtain ⟨s, rfl, ha⟩ := den_str' hd
      exact ⟨s.size, byteVals s, fun w' => by simp [Builtin.lenOf], fun η hη => (ha η hη).2, by rw [byteVals_len]; omega, fun η hη => ⟨by rw [byteVals_len]; exact (ha η hη).2, byteVals_has s⟩,
        fun _ _ => by simp only [srcVals]; rw [ha.self.1], fun w' _ k _ => firstCells_str _ _ _⟩
  · rename_i b off len' fs
    cases hes : Nat.beq es fs
    · rw [hes] at h; cases h
    · rw [hes] at h
      simp only [cond_true] at h
      obtain ⟨c', hc, h⟩ := R.bind_ok h
      cases h
      have := (beq_iff _ _).1 hes
      subst this
      rcases den_slice hd with ⟨rfl, _, hl⟩ | ⟨d, N, o, l, cap, rfl, hσ, hl, hlc, hoff⟩
      · have h0 : (len.smul es).ev p.η.int = 0 := by rw [Lin.ev_smul, hl.self]; simp
        refine ⟨0, [], fun w' => by simp [Builtin.lenOf], fun η hη => by have := hl η hη; simpa using this, by simp, fun η hη => contOf_zero hc (by rw [Lin.ev_smul, hl η hη]; simp), fun _ _ => ?_, fun w' _ k _ => by simp [Builtin.firstCells]⟩
        simp only [srcVals, contVals_zero h0]
      · by_cases hcap : cap = 0
        · have hl0 : l = 0 := by omega
          subst hl0
          have h0 : (len.smul es).ev p.η.int = 0 := by rw [Lin.ev_smul, hl.self]; simp
          refine ⟨0, [], fun w' => by simp [Builtin.lenOf], hl, by simp, fun η hη => contOf_zero hc (by rw [Lin.ev_smul, hl η hη]; simp), fun _ _ => ?_, fun w' _ k hk => ?_⟩
          · simp only [srcVals, contVals_zero h0]
          · have : k = 0 := by omega
            subst this
            simp [Builtin.firstCells, loadCells, loadCellsFrom]
        · obtain ⟨ho, hN⟩ := hoff.resolve_left hcap
          have hle : o + l * es ≤ N := by have := Nat.mul_le_mul_right es hlc; omega
          have hm : p.All fun η => (len.smul es).ev η.int = ((l * es : Nat) : Int) := fun η hη => by dsimp only; rw [Lin.ev_smul, hl η hη, Int.natCast_mul, Int.mul_comm]
          obtain ⟨tot, u, fr, hh, htl, _, _, hC, hF⟩ := contOf_sound hc hs hr hσ ho hm hle
          refine ⟨l, (tot.drop o).take (l * es), fun w' => by simp [Builtin.lenOf], hl, by simp; omega, hC, hF, fun w' hw k hk => ?_⟩
          have hke : k * es ≤ l * es := Nat.mul_le_mul_right es hk
          simp only [Builtin.firstCells]
          rw [run_loadCells_of (by rw [hw]; exact hh) (by omega), List.take_take, Nat.min_eq_left hke]
  · cases h
end
end Go.Hal
namespace Go.Hal
noncomputable section
open Go
variable {P : Program}

theorem zeroSize_sound {ty : Nat → Option TI} (hT : TyOk P ty) {e : TypeId} {ei : TI} (he : ty e = some ei) (hz : zeroSize ei = true) :
    ∃ i z, P.info? e = some i ∧ i.size = ei.size ∧ i.bytes = ei.bytes ∧ i.zero = some z ∧ z.cells.size = ei.size ∧ ∃ cs, ei.zero.cells = .ok cs ∧ ∀ η σ, DenL η σ cs z.cells.toList := by
  have hc : ∃ cs, ei.zero.cells = .ok cs ∧ clen cs = ei.size := by
    unfold zeroSize at hz
    split at hz
    · rename_i cs h
      exact ⟨cs, by rw [h]; rfl, (beq_iff _ _).1 hz⟩
    · cases hz
    · rename_i s h1 h2
      refine ⟨[s], ?_, ((beq_iff _ _).1 hz).symm⟩
      rw [h2]
      cases s <;> first | rfl | exact (h1 h2).elim | exact (h1 rfl).elim
    · cases hz
  obtain ⟨cs, hcs, hl⟩ := hc
  obtain ⟨i, z, hi, hiz, hd⟩ := hT.zero e ei cs he hcs
  obtain ⟨i', hi', h1, h2, _⟩ := hT.info e ei he
  rw [hi] at hi'; cases hi'
  have hd' : ∀ η σ, DenL η σ cs z.cells.toList := fun η σ => cells_sound hcs (hd η σ)
  refine ⟨i, z, hi, h1, h2, hiz, ?_, cs, hcs, hd'⟩
  have := (hd' ⟨fun _ => 0, fun _ => default, fun _ => [], fun _ => default⟩ (fun _ => .no)).length
  rw [hl] at this
  simpa using this.symm
theorem zeroCells_one {z : Array Value} (h : ∀ v ∈ z.toList, v.oneCell' = true) (n : Nat) : ∀ v ∈ (Builtin.zeroCells z n).toList, v.oneCell' = true := fun v hv => by
  simp only [Builtin.zeroCells, Array.toList_map, List.mem_map] at hv
  obtain ⟨i, hi, rfl⟩ := hv
  have hi' : i < n * z.size := by simpa using hi
  have hz : 0 < z.size := by
    rcases Nat.eq_zero_or_pos z.size with h0 | h0
    · rw [h0] at hi'; simp at hi'
    · exact h0
  rw [getElem!_pos z _ (Nat.mod_lt _ hz)]
  exact h _ (by simp)
/-- what appending comes to, once its operands are read -/
theorem run_append_room' {t t2 e tt : TypeId} {d2 : TypeDesc} {base : Option Addr} {sLen sCap n : Nat} {xv : Value} {i : TypeInfo} {L : List Value} {w : World}
    (ht : P.underlying t = some (.slice e)) (ht2 : P.underlying t2 = some d2) (hd2 : isSeq d2 = true) (hi : P.info? e = some i)
    (hn : (Builtin.lenOf xv).run P w = .ok n w) (hf : (Builtin.firstCells i.size n xv).run P w = .ok ⟨L⟩ w) (hroom : sLen + n ≤ sCap) {w' : World}
    (hst : (match base with | some a => storeCells (a.add (sLen * i.size)) L | none => (pure () : Sem Unit)).run P w = .ok () w') :
    (Builtin.append_ #[t, t2] tt #[.slice base sLen sCap, xv]).run P w = .ok (.slice base (sLen + n) sCap) w' := by
  cases d2 <;> simp only [isSeq] at hd2 <;> first | (cases hd2; done) | skip
  all_goals
    cases base with
    | none =>
      simp only [Sem.run_pure, Result.ok.injEq, true_and] at hst
      subst hst
      simp [Builtin.append_, run_underlying ht, run_underlying ht2, sizeOf, typeInfo, hi, hn, hroom, hf]
    | some a =>
      simp only at hst
      simp [Builtin.append_, run_underlying ht, run_underlying ht2, sizeOf, typeInfo, hi, hn, hroom, hf, hst]
theorem run_append_new' {t t2 e tt : TypeId} {d2 : TypeDesc} {base : Option Addr} {sLen sCap n : Nat} {xv z : Value} {i : TypeInfo} {K L : List Value} {w : World}
    (ht : P.underlying t = some (.slice e)) (ht2 : P.underlying t2 = some d2) (hd2 : isSeq d2 = true) (hi : P.info? e = some i) (hz : i.zero = some z)
    (hn : (Builtin.lenOf xv).run P w = .ok n w) (hfo : (Builtin.firstCells i.size sLen (.slice base sLen sCap)).run P w.drew = .ok ⟨K⟩ w.drew) (hf : (Builtin.firstCells i.size n xv).run P w.drew = .ok ⟨L⟩ w.drew) (hroom : ¬ sLen + n ≤ sCap)
    (hb : i.bytes ≠ 0) (hcap : Builtin.nextslicecap (sLen + n) sCap * i.bytes ≤ 281474976710656) :
    (Builtin.append_ #[t, t2] tt #[.slice base sLen sCap, xv]).run P w = .ok (.slice (some ⟨w.heap.size, 0, none⟩) (sLen + n) (grownCap w (sLen + n) sCap e))
      (wnew w.drew (.cells ⟨K ++ L ++ (Builtin.zeroCells z.cells (grownCap w (sLen + n) sCap e - (sLen + n))).toList⟩ e)) := by
  have hq : ¬ (281474976710656 < Builtin.nextslicecap (sLen + n) sCap * i.bytes) := by omega
  cases d2 <;> simp only [isSeq] at hd2 <;> first | (cases hd2; done) | skip
  all_goals
    simp [Builtin.append_, run_underlying ht, run_underlying ht2, sizeOf, typeInfo, zeroValue, hi, hz, hn, hroom, hb, hq, Question.forced, hf, hfo, newRow, grownCap]
    show World.alloc _ _ = World.alloc _ _
    congr 2
    apply Array.ext'
    simp

theorem roomA_sound {Φ : Ctx} {η : Va} (h : Φ.Says η.int) {n : Lin} {bytes m : Nat} (hr : roomA Φ n bytes = true) (hn : n.ev η.int = (m : Int)) : 1 ≤ bytes ∧ bytes ≤ 1073741824 ∧ m * bytes ≤ 17592186044416 := by
  simp only [roomA, Bool.and_eq_true, ble_iff] at hr
  have := Ctx.ge0_sound h hr.2
  simp only [Lin.ev_addc, Lin.ev_neg, Lin.ev_smul, hn] at this
  refine ⟨hr.1.1, hr.1.2, ?_⟩
  have h2 : ((m * bytes : Nat) : Int) = (bytes : Int) * m := by rw [Int.natCast_mul, Int.mul_comm]
  omega
/-- what is there of the slice that grows -/
structure Grows (P : Program) (st : St) (p : Pt) (σ : Sig) (w : World) (h₁ : Tr ABlk) (t : TypeId) (size : Nat) (K : List Value) (base : Option Addr) (sLen sCap : Nat) (l : Sg) : Prop where
  rel : RelH p σ h₁ st.nb w
  sub : ∀ c, Own h₁ σ c → Own st.heap σ c
  len : K.length = sLen * size
  old : ∀ w', w'.heap = w.heap → (Builtin.firstCells size sLen (.slice base sLen sCap)).run P w' = .ok ⟨K⟩ w'
  loc : (base = none ∧ sLen = 0 ∧ sCap = 0 ∧ l = .nil) ∨ ∃ c o N tot u fr, base = some ⟨c, o, none⟩ ∧ l = .at_ c N ∧ w.heap[c]? = some (.cells ⟨tot⟩ u fr) ∧ tot.length = N ∧ (∀ j, j < tot.length → ¬ (fr.1 ≤ j ∧ j < fr.2)) ∧ (t = 0 ∨ t = u) ∧
    Own st.heap σ c ∧ ¬ Own h₁ σ c ∧ sLen ≤ sCap ∧ tot.take (sLen * size) = K ∧ (sCap = 0 ∨ (o = 0 ∧ sCap * size ≤ N))
theorem append_sound {ty : Nat → Option TI} (hT : TyOk P ty) {t t2 e tt : TypeId} {ei : TI} {d2 : TypeDesc} (ht : P.underlying t = some (.slice e)) (he : ty e = some ei) (ht2 : P.underlying t2 = some d2) (hd2 : isSeq d2 = true)
    {st : St} {p : Pt} (hs : Sat p st.ctx) (h8 : 8 ≤ st.nb) {h₁ : Tr ABlk} {c d : Cont} {K₀ L₀ : List Value} {slen xlen tl : Lin} (htl : ∀ v, tl.ev v = slen.ev v + xlen.ev v) (hz : zeroSize ei = true) (hroom : roomA st.ctx tl ei.bytes = true) :
    ∃ q, p.le q ∧ Sat q (joinCont st.ctx e d c).2 ∧ ∀ σ w K L base sLen sCap l xv (m : Nat), Grows P st p σ w h₁ e ei.size K base sLen sCap l → RelH p σ st.heap st.nb w → (p.All fun η => slen.ev η.int = (sLen : Int)) → (p.All fun η => xlen.ev η.int = (m : Int)) →
      (p.All fun η => ContD η σ d K) → (p.All fun η => ContD η σ c L) → (∀ ct, d.fits st.ctx ct = true → K = K₀) → (∀ ct, c.fits st.ctx ct = true → L = L₀) → (∀ w', (Builtin.lenOf xv).run P w' = .ok m w') → L.length = m * ei.size →
      (∀ w', w'.heap = w.heap → (Builtin.firstCells ei.size m xv).run P w' = .ok ⟨L⟩ w') →
      ∃ v w', (Builtin.append_ #[t, t2] tt #[.slice base sLen sCap, xv]).run P w = .ok v w' ∧
        Goes q st.nb σ st.heap w ⟨(joinCont st.ctx e d c).2, .sc (.slice st.nb (.k 0) tl ei.size), h₁.set (joinCont st.ctx e d c).1 st.nb, st.nb + 1⟩ v w' := by
  obtain ⟨i, z, hi, hsz, hby, hiz, hzs, cs, hcs, hzd⟩ := zeroSize_sound hT he hz
  obtain ⟨q, hq, hsq, hJ⟩ := joinCont_sound hs e d c K₀ L₀
  refine ⟨q, hq, hsq, fun σ w K L base sLen sCap l xv m G hR hsl hxl hK hL hK0 hL0 hlen hLl hfc => ?_⟩
  have hno : σ st.nb = .no := hR.full _ (Nat.le_refl _)
  have hlenA : q.All fun η => tl.ev η.int = ((sLen + m : Nat) : Int) := fun η hη => by
    have h1 : slen.ev η.int = (sLen : Int) := hsl.mono hq η hη
    have h2 : xlen.ev η.int = (m : Int) := hxl.mono hq η hη
    dsimp only
    rw [htl, h1, h2]; simp
  obtain ⟨hb1, hb2, hb3⟩ := roomA_sound (m := sLen + m) hs.says hroom (by rw [htl, hsl.self, hxl.self]; simp)
  rw [← hby] at hb1 hb3
  by_cases hfit : sLen + m ≤ sCap
  · -- in place
    rcases G.loc with ⟨rfl, rfl, rfl, rfl⟩ | ⟨b, o, N, tot, u, fr, rfl, rfl, hc, htN, hf, htu, hown, hnown, hsc, hKt, hoff⟩
    · have hm : m = 0 := by omega
      subst hm
      have hKn : K = [] := List.length_eq_zero_iff.1 (by rw [G.len]; simp)
      have hLn : L = [] := List.length_eq_zero_iff.1 (by rw [hLl]; simp)
      refine ⟨_, w, run_append_room' ht ht2 hd2 hi (hlen w) (by rw [hsz]; exact hfc w rfl) hfit rfl, σ.put st.nb .nil, ?_, fun η hη => ?_, ?_⟩
      · exact Step.laid G.sub (fun _ _ h => by cases h) (Nat.le_refl _) (fun _ _ _ => rfl) (shp_refl fun _ _ => rfl) ⟨rfl, rfl, rfl⟩
      · exact .inl ⟨Sig.put_self _ _ _, by have := hlenA η hη; simpa using this, rfl⟩
      · exact G.rel.laid hq h8 (fun _ _ h => by cases h) (fun _ _ => rfl) ((hJ σ _ K L (Sig.put_ext hno) hK hL hK0 hL0).2 hKn hLn w)
    · by_cases hcap : sCap = 0
      · have hm : m = 0 := by omega
        have hs0 : sLen = 0 := by omega
        subst hm; subst hs0; subst hcap
        have hKn : K = [] := List.length_eq_zero_iff.1 (by rw [G.len]; simp)
        have hLn : L = [] := List.length_eq_zero_iff.1 (by rw [hLl]; simp)
        refine ⟨_, w, run_append_room' ht ht2 hd2 hi (hlen w) (by rw [hsz]; exact hfc w rfl) hfit (by rw [hLn]; simp [storeCells]), σ.put st.nb (.at_ b N), ?_, fun η hη => ?_, ?_⟩
        · exact Step.laid G.sub (fun _ _ h _ => by cases h; exact hown) (Nat.le_refl _) (fun _ _ _ => rfl) (shp_refl fun _ _ => rfl) ⟨rfl, rfl, rfl⟩
        · exact .inr ⟨b, N, o, 0, 0, Sig.put_self _ _ _, by have := hlenA η hη; simpa using this, Nat.le_refl _, .inl rfl, rfl⟩
        · refine G.rel.laid hq h8 (fun _ _ h => by cases h; exact hnown) (fun _ _ => rfl) ((hJ σ _ K L (Sig.put_ext hno) hK hL hK0 hL0).1 w b N tot ?_ ?_)
          · rw [hKn, hLn]; exact ⟨u, fr, hc, htu, hf⟩
          · rw [hKn, hLn]; exact htN
      · obtain ⟨rfl, hN⟩ := hoff.resolve_left hcap
        have hle : (sLen + m) * ei.size ≤ sCap * ei.size := Nat.mul_le_mul_right _ hfit
        rw [Nat.add_mul] at hle
        have hfitN : sLen * ei.size + L.length ≤ tot.length := by omega
        have hst := run_storeCells_of (P := P) (c := b) (o := sLen * ei.size) (u := u) (fr := fr) L 0 tot w hc (by simpa using hfitN) hf hL.self.one
        have hwr : tot.take (sLen * ei.size + 0) ++ L ++ tot.drop (sLen * ei.size + 0 + L.length) = K ++ L ++ tot.drop (sLen * ei.size + L.length) := by
          rw [Nat.add_zero, hKt]
        rw [hwr] at hst
        refine ⟨_, _, run_append_room' ht ht2 hd2 hi (hlen w) (by rw [hsz]; exact hfc w rfl) hfit (by simp only [add_addr, Nat.zero_add, hsz]; exact hst), σ.put st.nb (.at_ b N), ?_, fun η hη => ?_, ?_⟩
        · refine Step.laid G.sub (fun _ _ h _ => by cases h; exact hown) (by simp) (fun c' _ hn => wput_ne fun e => hn (by subst e; exact hown)) (shp_put hc ?_) ⟨rfl, rfl, rfl⟩
          have h0 := G.len
          simp only [List.size_toArray, List.length_append, List.length_drop]
          omega
        · exact .inr ⟨b, N, 0, sLen + m, sCap, Sig.put_self _ _ _, hlenA η hη, hfit, .inr ⟨by simp, by omega⟩, rfl⟩
        · refine G.rel.laid hq h8 (fun _ _ h => by cases h; exact hnown) (fun c' ho => wput_ne fun e => hnown (by subst e; exact ho)) ((hJ σ _ K L (Sig.put_ext hno) hK hL hK0 hL0).1 _ b N (tot.drop (sLen * ei.size + L.length)) ?_ ?_)
          · refine ⟨u, fr, wput_self (lt_of_get hc), htu, fun j hj => hf j ?_⟩
            have h0 := G.len
            simp only [List.length_append, List.length_drop] at hj
            omega
          · have h0 := G.len
            simp only [List.length_append, List.length_drop]
            omega
  · -- a new row
    have hcapb : Builtin.nextslicecap (sLen + m) sCap * i.bytes ≤ 281474976710656 := growslice_fits (by omega) (by omega)
    have hrun := run_append_new' (P := P) (tt := tt) (base := base) (sLen := sLen) (sCap := sCap) (n := m) (xv := xv) (z := z) (i := i) (K := K) (L := L) (w := w) ht ht2 hd2 hi hiz (hlen w) (by rw [hsz]; exact G.old _ rfl) (by rw [hsz]; exact hfc _ rfl) hfit (by omega) hcapb
    generalize hg : grownCap w (sLen + m) sCap e = g at hrun
    have hge : sLen + m ≤ g := by rw [← hg]; exact grownCap_ge _ _ _ _
    have hzl : (Builtin.zeroCells z.cells (g - (sLen + m))).toList.length = (g - (sLen + m)) * ei.size := by rw [Array.length_toList, size_zeroCells, hzs]
    have hrow : (K ++ L ++ (Builtin.zeroCells z.cells (g - (sLen + m))).toList).length = g * ei.size := by
      rw [List.length_append, List.length_append, hzl, G.len, hLl, ← Nat.add_mul, ← Nat.add_mul]
      congr 1; omega
    have hhd : w.drew.heap = w.heap := rfl
    refine ⟨_, _, hrun, σ.put st.nb (.at_ w.heap.size (g * ei.size)), ?_, fun η hη => ?_, ?_⟩
    · exact Step.laid G.sub (fun _ _ h hlt => by cases h; omega) (by rw [wnew_size, hhd]; omega) (fun c' hc' _ => by rw [wnew_lt (by rw [hhd]; exact hc'), hhd]) (shp_refl fun c' hc' => by rw [wnew_lt (by rw [hhd]; exact hc'), hhd]) ⟨rfl, rfl, rfl⟩
    · exact .inr ⟨w.heap.size, g * ei.size, 0, sLen + m, g, Sig.put_self _ _ _, hlenA η hη, hge, .inr ⟨by simp, by omega⟩, rfl⟩
    · refine G.rel.laid hq h8 (fun _ _ h ho => by cases h; exact absurd (G.rel.own_lt ho) (by omega)) (fun c' ho => by rw [wnew_lt (by rw [hhd]; exact G.rel.own_lt ho), hhd]) ((hJ σ _ K L (Sig.put_ext hno) hK hL hK0 hL0).1 _ w.heap.size _ _ ?_ hrow)
      exact ⟨e, (0, 0), wnew_self w.drew _, .inr rfl, fun j _ h => by omega⟩
theorem appendOp_sound {ty : Nat → Option TI} (hT : TyOk P ty) {t t2 e tt : TypeId} {ei : TI} {d2 : TypeDesc} (ht : P.underlying t = some (.slice e)) (he : ty e = some ei) (ht2 : P.underlying t2 = some d2) (hd2 : isSeq d2 = true)
    {st : St} {s x : AV} {us : List Upd} (h : appendOp st ei e s x = .ok us) {p : Pt} (hs : Sat p st.ctx) (h8 : 8 ≤ st.nb) :
    ∃ u ∈ us, ∃ q, p.le q ∧ Sat q u.ctx ∧ ∀ σ w sv xv, (p.All fun η => DenV η σ s sv) → (p.All fun η => DenV η σ x xv) → RelH p σ st.heap st.nb w →
      ∃ v w', (Builtin.append_ #[t, t2] tt #[sv, xv]).run P w = .ok v w' ∧ Goes q st.nb σ st.heap w u v w' := by
  unfold appendOp at h
  split at h
  · rename_i s x
    obtain ⟨⟨ob, c, xlen⟩, hc, h⟩ := R.bind_ok h
    have hx0 : x.isAny = false := by cases x <;> first | rfl | (simp [srcCont] at hc)
    cases hz : zeroSize ei
    · rw [hz] at h; cases h
    · rw [hz] at h
      simp only [Bool.not_true, cond_false] at h
      split at h
      · cases hr : (roomA st.ctx xlen ei.bytes && st.ctx.ge0 xlen)
        · rw [hr] at h; cases h
        · rw [hr] at h
          simp only [cond_true] at h
          cases h
          simp only [Bool.and_eq_true] at hr
          obtain ⟨q, hq, hsq, hx⟩ := append_sound (tt := tt) hT ht he ht2 hd2 hs h8 (h₁ := st.heap) (c := c) (d := .known []) (K₀ := []) (L₀ := srcVals p.η st ei.size x) (slen := .k 0) (xlen := xlen) (tl := xlen) (fun v => by simp) hz hr.1
          refine ⟨_, List.mem_singleton.2 rfl, q, hq, hsq, fun σ w sv xv hsv hxv hR => ?_⟩
          have hsv' : sv = .slice none 0 0 := hsv.self
          subst hsv'
          obtain ⟨m, L, h1, h2, h3, h4, h5, h6⟩ := srcCont_sound (P := P) hc hs hR (hxv.imp fun η h => DenV.un hx0 h)
          refine hx σ w [] L none 0 0 .nil xv m ⟨hR, fun _ h => h, by simp, fun w' _ => by simp [Builtin.firstCells], .inl ⟨rfl, rfl, rfl, rfl⟩⟩ hR (fun η _ => by simp) h2 (fun η _ => trivial) h4 (fun _ _ => rfl) h5 h1 h3 fun w' hw => ?_
          have := h6 w' hw m (Nat.le_refl _)
          rw [← h3, List.take_length] at this
          exact this
      · rename_i b len es _
        obtain ⟨_, h⟩ := bif_no h
        obtain ⟨d, hd, h⟩ := R.bind_ok h
        obtain ⟨hwh, h⟩ := bif_ok h
        obtain ⟨hr, h⟩ := bif_ok h
        cases h
        simp only [Bool.and_eq_true] at hr hwh
        have hes := (beq_iff _ _).1 hwh.1.2
        have hbt : blkType (blk st.heap b) = some e := by
          have := hwh.2
          split at this
          · rename_i u hu; rw [hu, (beq_iff _ _).1 this]
          · cases this
        subst hes
        have hal : Alive st.heap b := fun h0 => by rw [h0] at hbt; cases hbt
        obtain ⟨q, hq, hsq, hx⟩ := append_sound (tt := tt) hT ht he ht2 hd2 hs h8 (h₁ := st.heap.set .dead b) (c := c) (d := d) (K₀ := contVals p.η st b (.k 0) (len.smul ei.size)) (L₀ := srcVals p.η st ei.size x) (slen := len) (xlen := xlen) (tl := len.add xlen) (fun v => by simp) hz hr.1
        refine ⟨_, List.mem_singleton.2 rfl, q, hq, hsq, fun σ w sv xv hsv hxv hR => ?_⟩
        obtain ⟨m, L, h1, h2, h3, h4, h5, h6⟩ := srcCont_sound (P := P) hc hs hR (hxv.imp fun η h => DenV.un hx0 h)
        have hfc : ∀ w', w'.heap = w.heap → (Builtin.firstCells ei.size m xv).run P w' = .ok ⟨L⟩ w' := fun w' hw => by
          have := h6 w' hw m (Nat.le_refl _)
          rw [← h3, List.take_length] at this
          exact this
        rcases den_slice (hsv.imp fun η h => DenV.un rfl h) with ⟨rfl, hσ, hl⟩ | ⟨cc, N, o, l, cap, rfl, hσ, hl, hlc, hoff⟩
        · have h0 : (len.smul ei.size).ev p.η.int = 0 := by rw [Lin.ev_smul, hl.self]; simp
          exact hx σ w [] L none 0 0 .nil xv m ⟨hR.kill b, fun _ h => own_kill h, by simp, fun w' _ => by simp [Builtin.firstCells], .inl ⟨rfl, rfl, rfl, rfl⟩⟩ hR (hl.imp fun η h => by simpa using h) h2
            (fun η hη => contOf_zero hd (by rw [Lin.ev_smul, hl η hη]; simp)) h4 (fun _ _ => (contVals_zero h0).symm) h5 h1 h3 hfc
        · have hN : 0 + l * ei.size ≤ N := by
            rcases hoff with rfl | ⟨_, h⟩
            · have : l = 0 := by omega
              subst this; simp
            · have := Nat.mul_le_mul_right ei.size hlc; omega
          have hm : p.All fun η => (len.smul ei.size).ev η.int = ((l * ei.size : Nat) : Int) := fun η hη => by dsimp only; rw [Lin.ev_smul, hl η hη, Int.natCast_mul, Int.mul_comm]
          have ho0 : p.All fun η => (⟨.ofNat 0, []⟩ : Lin).ev η.int = ((0 : Nat) : Int) := fun η _ => by simp [Lin.ev, Lin.evTs]
          obtain ⟨tot, u, fr, hh, htl, hf, htu, hC, hF⟩ := contOf_sound hd hs hR hσ ho0 hm hN
          have hcapo : cap = 0 ∨ (o = 0 ∧ cap * ei.size ≤ N) := by
            rcases hoff with h | ⟨ho, h⟩
            · exact .inl h
            · have : o = 0 := by have := ho.self; simp [Lin.ev, Lin.evTs] at this; omega
              exact .inr ⟨this, by omega⟩
          refine hx σ w ((tot.drop 0).take (l * ei.size)) L (some ⟨cc, o, none⟩) l cap (.at_ cc N) xv m ⟨hR.kill b, fun _ h => own_kill h, by simp; omega, fun w' hw => ?_,
            .inr ⟨cc, o, N, tot, u, fr, rfl, rfl, hh, htl, hf, htu e hbt, ⟨b, N, hal, hσ⟩, hR.killed hal hσ, hlc, by simp, hcapo⟩⟩ hR hl h2 hC h4 hF h5 h1 h3 hfc
          simp only [Builtin.firstCells]
          rcases hcapo with rfl | ⟨rfl, _⟩
          · have : l = 0 := by omega
            subst this
            simp [loadCells, loadCellsFrom]
          · rw [run_loadCells_of (by rw [hw]; exact hh) (by omega)]
      · cases h
  · cases h
end
end Go.Hal
namespace Go.Hal
noncomputable section
open Go
variable {P : Program}

/-- the values that a block's cells hold -/
def TrD (η : Va) (σ : Sig) : ABlk → List Value → Prop
  | .cells _ cs, vs => DenL η σ cs vs
  | .blob _ a m ct, vs => η.row a = vs ∧ m.ev η.int = (vs.length : Int) ∧ ∀ v ∈ vs, ctHas ct v
  | .opq _ m, vs => m.ev η.int = (vs.length : Int) ∧ ∀ v ∈ vs, v.oneCell' = true
  | _, _ => False
theorem TrD.at {η : Va} {σ : Sig} {x : ABlk} {vs more : List Value} (h : TrD η σ x vs) {t : TypeId} (ht : blkType x = some t) {w : World} {c n : Nat} (hc : CellsAt w c t (vs ++ more)) (hn : (vs ++ more).length = n) :
    BlkD η σ w x (.at_ c n) := by
  cases x <;> simp only [TrD] at h <;> simp only [blkType, Option.some.injEq] at ht <;> first | exact h.elim | skip
  · subst ht; exact ⟨vs, more, hc, hn, h⟩
  · subst ht; exact ⟨vs, more, hc, hn, h.1, h.2.1, h.2.2⟩
  · subst ht; exact ⟨vs, more, hc, hn, h⟩
theorem TrD.nil {η : Va} {σ : Sig} {x : ABlk} (h : TrD η σ x []) (w : World) : BlkD η σ w x .nil := by
  cases x <;> simp only [TrD] at h <;> first | exact h.elim | skip
  · rename_i t cs
    cases cs
    · trivial
    · exact h.elim
  · exact ⟨h.1, by simpa using h.2.1⟩
  · simpa [BlkD] using h.1
theorem BlkD.nil_tr {η : Va} {σ : Sig} {w : World} {x : ABlk} {t : TypeId} (ht : blkType x = some t) (h : BlkD η σ w x .nil) : TrD η σ x [] := by
  cases x <;> simp only [blkType] at ht <;> first | (cases ht; done) | skip
  · rename_i t cs
    cases cs
    · trivial
    · exact h.elim
  · exact ⟨h.1, by simpa using h.2, by simp⟩
  · exact ⟨by simpa [BlkD] using h, by simp⟩
theorem TrD.len {p : Pt} {σ : Sig} {x : ABlk} {vs : List Value} (h : p.All fun η => TrD η σ x vs) : ∀ {l : Lin}, blkLen x = some l → p.All fun η => l.ev η.int = (vs.length : Int) := fun {l} hl η hη => by
  have := h η hη
  cases x <;> simp only [blkLen, Option.some.injEq] at hl <;> first | (cases hl; done) | skip
  · subst hl; simp [DenL.length this]
  · subst hl; exact this.2.1
  · subst hl; exact this.1
/-- of cells, of blobs: what they hold is settled -/
def isOpq : ABlk → Bool
  | .opq _ _ => true
  | _ => false
theorem tr_fix {p : Pt} {σ : Sig} {w : World} {x : ABlk} {t : TypeId} (ht : blkType x = some t) (ho : isOpq x = false) {c n : Nat} (h : p.All fun η => BlkD η σ w x (.at_ c n)) :
    ∃ vs more, CellsAt w c t (vs ++ more) ∧ (vs ++ more).length = n ∧ p.All fun η => TrD η σ x vs := by
  cases x <;> simp only [blkType, Option.some.injEq] at ht <;> first | (cases ht; done) | (cases ho; done) | skip
  · subst ht; exact cells_fix h
  · subst ht
    obtain ⟨vs, more, hc, hn, hd, hv⟩ := blob_fix h
    exact ⟨vs, more, hc, hn, fun η hη => ⟨(hd η hη).1, (hd η hη).2, hv⟩⟩
theorem wrote_nil (vs : List Value) (o : Nat) : wrote vs [] o = vs := by simp [wrote]
theorem wrote_len {vs X : List Value} {o : Nat} (h : o + X.length ≤ vs.length) : (wrote vs X o).length = vs.length := row_len h
theorem wrote_mem {vs X : List Value} {o : Nat} {v : Value} (h : v ∈ wrote vs X o) : v ∈ vs ∨ v ∈ X := by
  simp only [wrote, List.mem_append] at h
  rcases h with (h | h) | h
  · exact .inl (List.mem_of_mem_take h)
  · exact .inr h
  · exact .inl (List.mem_of_mem_drop h)
theorem rowPush_tr {p : Pt} {Φ : Ctx} (hs : Sat p Φ) {σ : Sig} {t : TypeId} {k : Lin} {ct : CT} {Z : List Value} (hk : p.All fun η => k.ev η.int = (Z.length : Int)) (hv : ∀ v ∈ Z, ctHas ct v) :
    (p.push 0 default Z default).All fun η => TrD η σ (.blob t Φ.fresh0.1 k ct) Z := fun η hη => by
  have hrow := Pt.push_row (p := p) η hη
  rw [hs.1] at hrow
  exact ⟨hrow, hk.mono (p.le_push _ _ _ _) η hη, hv⟩
theorem copyBlk_sound {p : Pt} {Φ Ψ : Ctx} (hs : Sat p Φ) {x y : ABlk} {off m : Lin} {c : Cont} (h : copyBlk Φ x off m c = .ok (y, Ψ)) (X₀ : List Value) :
    ∃ q, p.le q ∧ Sat q Ψ ∧ isOpq x = false ∧ (∃ t, blkType x = some t ∧ blkType y = some t) ∧ ∀ σ vs X, (p.All fun η => TrD η σ x vs) → (p.All fun η => ContD η σ c X) → (∀ ct, c.fits Φ ct = true → X = X₀) → (p.All fun η => m.ev η.int = (X.length : Int)) →
      (off.ev p.η.int).toNat + X.length ≤ vs.length ∧ q.All fun η => TrD η σ y (wrote vs X (off.ev p.η.int).toNat) := by
  unfold copyBlk at h
  split at h
  · rename_i t cs
    unfold copyCells at h
    split at h
    · rename_i o k
      have ho : ((⟨.ofNat o, []⟩ : Lin).ev p.η.int).toNat = o := by simp [Lin.ev, Lin.evTs]
      split at h
      · rename_i l
        split at h
        · rename_i r hr
          cases h
          refine ⟨p, p.le_refl, hs, rfl, ⟨t, rfl, rfl⟩, fun σ vs X hx hc _ _ => ?_⟩
          rw [ho]
          refine ⟨(claid_sound hr hc.self hx.self).2, fun η hη => (claid_sound hr (hc η hη) (hx η hη)).1⟩
        · cases h
      · rename_i n kd
        obtain ⟨q, hq, hsq, hi⟩ := newInts_sound kd k hs X₀
        cases hnew : newInts Φ kd k with
        | mk l Ω =>
          rw [hnew] at h hsq hi
          dsimp only at h
          split at h
          · rename_i r hr
            cases h
            refine ⟨q, hq, hsq, rfl, ⟨t, rfl, rfl⟩, fun σ vs X hx hc hf hm => ?_⟩
            rw [ho]
            have hX := hf (.int kd) (ceq_refl (.int kd))
            have hlen : X.length = k := by have := hm.self; simp [Lin.ev, Lin.evTs] at this; omega
            subst hX
            have hL := hi hlen hc.self.2 σ
            exact ⟨(claid_sound hr hL.self (hx.mono hq).self).2, fun η hη => (claid_sound hr (hL η hη) (hx.mono hq η hη)).1⟩
          · cases h
      · cases h
    · obtain ⟨hb, h⟩ := bif_ok h
      simp only [Bool.and_eq_true] at hb
      split at h
      · rename_i k hk
        obtain ⟨hfit, h⟩ := bif_ok h
        cases h
        have hall := allInt_all hk
        refine ⟨p.push 0 default (wrote (cs.map (cellVal p.η)) X₀ (off.ev p.η.int).toNat) default, p.le_push _ _ _ _, hs.push0 _ _ _ _, rfl, ⟨t, rfl, rfl⟩, fun σ vs X hx hc hf hm => ?_⟩
        have hX := hf (.int k) hfit
        subst hX
        have h1 := Ctx.ge0_sound hs.says hb.1.1
        have h2 := Ctx.ge0_sound hs.says hb.2
        simp only [Lin.ev_addc, Lin.ev_neg, Lin.ev_add, clen_eq] at h2
        have h3 := hm.self
        have h4 := hx.self.length
        rw [clen_eq] at h4
        have hle : (off.ev p.η.int).toNat + X.length ≤ vs.length := by omega
        have hvs := allInt_val hall hx.self
        refine ⟨hle, ?_⟩
        rw [← hvs]
        refine rowPush_tr hs (fun η _ => by simp only [Lin.ev_k]; rw [wrote_len hle, clen_eq, h4]) fun v hv => ?_
        rcases wrote_mem hv with hv | hv
        · exact DenL.ints hx.self hall v hv
        · exact fits_has hs.says hfit hc.self v hv
      · cases h
  · rename_i t a k ct
    obtain ⟨hb, h⟩ := bif_ok h
    simp only [Bool.and_eq_true] at hb
    obtain ⟨hfit, h⟩ := bif_ok h
    cases h
    refine ⟨p.push 0 default (wrote (p.η.row a) X₀ (off.ev p.η.int).toNat) default, p.le_push _ _ _ _, hs.push0 _ _ _ _, rfl, ⟨t, rfl, rfl⟩, fun σ vs X hx hc hf hm => ?_⟩
    have hX := hf ct hfit
    subst hX
    have h1 := Ctx.ge0_sound hs.says hb.1.1
    have h2 := Ctx.ge0_sound hs.says hb.2
    simp only [Lin.ev_sub] at h2
    have h3 := hm.self
    have h4 := hx.self.2.1
    have hle : (off.ev p.η.int).toNat + X.length ≤ vs.length := by omega
    refine ⟨hle, ?_⟩
    rw [hx.self.1]
    refine rowPush_tr hs (fun η hη => by have := (hx η hη).2.1; rw [wrote_len hle]; exact this) fun v hv => ?_
    rcases wrote_mem hv with hv | hv
    · exact hx.self.2.2 v hv
    · exact fits_has hs.says hfit hc.self v hv
  · cases h

/-! The lesser of two numbers. -/
theorem lesserL_mem {a b : Lin} : ∀ {l : List (Bool × Ctx)} {v : Bool} {Ψ : Ctx}, (v, Ψ) ∈ l → (Ψ.norm (bif v then a else b), Ψ) ∈ lesserL a b l
  | (v', Ψ') :: r, v, Ψ, h => by
    rcases List.mem_cons.1 h with h | h
    · cases h; exact List.mem_cons_self
    · exact List.mem_cons_of_mem _ (lesserL_mem h)
theorem lesser_sound {p : Pt} {Φ : Ctx} (hs : Sat p Φ) {a b : Lin} {l : List (Lin × Ctx)} (h : lesser Φ a b = .ok l) :
    ∃ n Ψ, (n, Ψ) ∈ l ∧ Sat p Ψ ∧ ∀ x y : Int, (p.All fun η => a.ev η.int = x) → (p.All fun η => b.ev η.int = y) → p.All fun η => n.ev η.int = min x y := by
  unfold lesser at h
  obtain ⟨l', hl, h⟩ := R.bind_ok h
  cases h
  obtain ⟨v, Ψ, hm, hsp, hv⟩ := split_sound hs hl
  refine ⟨_, Ψ, lesserL_mem hm, hsp, fun x y hx hy η hη => ?_⟩
  dsimp only
  rw [Ctx.norm_ev (hsp.2 η hη)]
  have h1 : a.ev η.int = x := hx η hη
  have h2 : b.ev η.int = y := hy η hη
  have h3 : (mkB (.ge (b.sub a))).ev η = v := hv η hη
  rw [mkB_ev] at h3
  simp only [ABool.ev, Lin.ev_sub, h1, h2] at h3
  cases v
  · simp only [decide_eq_false_iff_not] at h3
    simp only [cond_false, h2]; omega
  · simp only [decide_eq_true_iff] at h3
    simp only [cond_true, h1]; omega
theorem greater_sound {p : Pt} {Φ : Ctx} (hs : Sat p Φ) {a b : Lin} {l : List (Lin × Ctx)} (h : greater Φ a b = .ok l) :
    ∃ n Ψ, (n, Ψ) ∈ l ∧ Sat p Ψ ∧ ∀ x y : Int, (p.All fun η => a.ev η.int = x) → (p.All fun η => b.ev η.int = y) → p.All fun η => n.ev η.int = max x y := by
  unfold greater at h
  obtain ⟨l', hl, h⟩ := R.bind_ok h
  cases h
  obtain ⟨v, Ψ, hm, hsp, hv⟩ := split_sound hs hl
  refine ⟨_, Ψ, lesserL_mem hm, hsp, fun x y hx hy η hη => ?_⟩
  dsimp only
  rw [Ctx.norm_ev (hsp.2 η hη)]
  have h1 : a.ev η.int = x := hx η hη
  have h2 : b.ev η.int = y := hy η hη
  have h3 : (mkB (.ge (a.sub b))).ev η = v := hv η hη
  rw [mkB_ev] at h3
  simp only [ABool.ev, Lin.ev_sub, h1, h2] at h3
  cases v
  · simp only [decide_eq_false_iff_not] at h3
    simp only [cond_false, h2]; omega
  · simp only [decide_eq_true_iff] at h3
    simp only [cond_true, h1]; omega

/-! What is copied. -/
def copyVals (η : Va) (st : St) (es : Nat) (n : Lin) : SV → List Value
  | .str s => (byteVals (s.ev η)).take (n.ev η.int).toNat
  | .slice b off _ _ => contVals η st b off (n.smul es)
  | _ => []
theorem byteVals_take (l : List Nat) (k : Nat) : byteVals (bsOf (l.take k)) = (byteVals (bsOf l)).take k := by
  simp [byteVals, bsOf, List.map_take]
theorem copySrc_sound {st : St} {es : Nat} {src : SV} {n : Lin} {c : Cont} (h : copySrc st es src n = .ok c) {p : Pt} (hs : Sat p st.ctx) (hes : ∀ s, src = .str s → es = 1) (hes' : ∀ b o l fs, src = .slice b o l fs → fs = es) {σ : Sig} {w : World} {v : Value}
    (hr : RelH p σ st.heap st.nb w) (hd : p.All fun η => Den η σ src v) {m k : Nat} (hm : (Builtin.lenOf v).run P w = .ok m w) (hk : p.All fun η => n.ev η.int = (k : Int)) (hkm : k ≤ m) :
    ∃ X, X.length = k * es ∧ (p.All fun η => ContD η σ c X) ∧ (∀ ct, c.fits st.ctx ct = true → X = copyVals p.η st es n src) ∧ (Builtin.firstCells es k v).run P w = .ok ⟨X⟩ w := by
  have hk0 : (n.ev p.η.int).toNat = k := by have := hk.self; omega
  unfold copySrc at h
  split at h
  · cases h
    have hv : v = .slice none 0 0 := hd.self
    subst hv
    simp only [Builtin.lenOf, Sem.run_pure, Result.ok.injEq, and_true] at hm
    have : k = 0 := by omega
    subst this
    exact ⟨[], by simp, fun η _ => trivial, fun _ _ => rfl, by simp [Builtin.firstCells]⟩
  · rename_i l
    have := hes _ rfl
    subst this
    obtain ⟨a, rfl, ha⟩ := den_str' hd
    have h1 : bsOf l = a := ha.self.1
    subst h1
    simp only [Builtin.lenOf, Sem.run_pure, Result.ok.injEq, and_true] at hm
    have hlen : ((byteVals (bsOf l)).take k).length = k := by rw [List.length_take, byteVals_len]; omega
    refine ⟨(byteVals (bsOf l)).take k, by rw [hlen]; omega, ?_, fun _ _ => by simp only [copyVals, AStr.ev, hk0], by have := firstCells_str (P := P) (bsOf l) k w; rwa [Nat.mul_one] at this⟩
    split at h
    · rename_i k'
      cases h
      have : k' = k := by have := hk.self; simp [Lin.ev, Lin.evTs] at this; omega
      subst this
      intro η _
      have := litCells_den η σ (l.take k')
      rw [byteVals_take] at this
      exact this
    · cases h
      exact fun η hη => ⟨by rw [hlen]; exact hk η hη, fun v hv => byteVals_has _ v (List.mem_of_mem_take hv)⟩
  · rename_i a' n'
    have := hes _ rfl
    subst this
    cases h
    obtain ⟨s, rfl, ha⟩ := den_str' hd
    simp only [Builtin.lenOf, Sem.run_pure, Result.ok.injEq, and_true] at hm
    have hlen : ((byteVals s).take k).length = k := by rw [List.length_take, byteVals_len]; omega
    exact ⟨(byteVals s).take k, by rw [hlen]; omega, fun η hη => ⟨by rw [hlen]; exact hk η hη, fun v hv => byteVals_has _ v (List.mem_of_mem_take hv)⟩,
      fun _ _ => by simp only [copyVals]; rw [ha.self.1, hk0], by have := firstCells_str (P := P) s k w; rwa [Nat.mul_one] at this⟩
  · rename_i b off len fs
    have := hes' _ _ _ _ rfl
    subst this
    have hmm : p.All fun η => (n.smul fs).ev η.int = ((k * fs : Nat) : Int) := fun η hη => by
      have : n.ev η.int = (k : Int) := hk η hη
      dsimp only; rw [Lin.ev_smul, this, Int.natCast_mul, Int.mul_comm]
    have zero : k = 0 → ∃ X : List Value, X.length = k * fs ∧ (p.All fun η => ContD η σ c X) ∧ (∀ ct, c.fits st.ctx ct = true → X = copyVals p.η st fs n (.slice b off len fs)) ∧ X = [] := fun h0 => by
      subst h0
      have h0 : (n.smul fs).ev p.η.int = 0 := by have := hmm.self; simpa using this
      exact ⟨[], by simp, fun η hη => contOf_zero h (by have := hmm η hη; simpa using this), fun _ _ => by simp only [copyVals, contVals_zero h0], rfl⟩
    rcases den_slice hd with ⟨rfl, _, hl⟩ | ⟨d, N, o, l, cap, rfl, hσ, hl, hlc, hoff⟩
    · simp only [Builtin.lenOf, Sem.run_pure, Result.ok.injEq, and_true] at hm
      have : k = 0 := by omega
      obtain ⟨X, h1, h2, h3, h4⟩ := zero this
      subst h4
      exact ⟨[], h1, h2, h3, by simp [Builtin.firstCells]⟩
    · simp only [Builtin.lenOf, Sem.run_pure, Result.ok.injEq, and_true] at hm
      by_cases hcap : cap = 0
      · have : k = 0 := by omega
        obtain ⟨X, h1, h2, h3, h4⟩ := zero this
        subst h4; subst this
        exact ⟨[], h1, h2, h3, by simp [Builtin.firstCells, loadCells, loadCellsFrom]⟩
      · obtain ⟨ho, hN⟩ := hoff.resolve_left hcap
        have hle : o + k * fs ≤ N := by have := Nat.mul_le_mul_right fs (show k ≤ cap by omega); omega
        obtain ⟨tot, u, fr, hh, htl, _, _, hC, hF⟩ := contOf_sound h hs hr hσ ho hmm hle
        refine ⟨(tot.drop o).take (k * fs), by simp; omega, hC, hF, ?_⟩
        simp only [Builtin.firstCells]
        rw [run_loadCells_of hh (by omega)]
  · cases h
end
end Go.Hal
namespace Go.Hal
noncomputable section
open Go
variable {P : Program}

theorem run_copy' {dT sT ty elem : TypeId} {i : TypeInfo} {base : Option Addr} {dLen dCap m : Nat} {xv : Value} {X : List Value} {w w' : World} (hu : P.underlying dT = some (.slice elem)) (hi : P.info? elem = some i)
    (hm : (Builtin.lenOf xv).run P w = .ok m w) (hf : (Builtin.firstCells i.size (Nat.min m dLen) xv).run P w = .ok ⟨X⟩ w)
    (hst : (match base with | some a => storeCells a X | none => (pure () : Sem Unit)).run P w = .ok () w') :
    (Builtin.copy_ #[dT, sT] ty #[.slice base dLen dCap, xv]).run P w = .ok (goInt (Nat.min m dLen : Nat)) w' := by
  cases base with
  | none =>
    simp only [Sem.run_pure, Result.ok.injEq, true_and] at hst
    subst hst
    simp [Builtin.copy_, run_underlying hu, sizeOf, typeInfo, hi, hm, hf]
  | some a =>
    simp only at hst
    simp [Builtin.copy_, run_underlying hu, sizeOf, typeInfo, hi, hm, hf, hst]
theorem copyAll_mem {st : St} {b : Nat} {off : Lin} {es : Nat} {src : SV} : ∀ {l : List (Lin × Ctx)} {us : List Upd} {n : Lin} {Ψ : Ctx}, copyAll st b off es src l = .ok us → (n, Ψ) ∈ l →
    ∃ vs, copyOne (st.atCtx Ψ) b off es src n = .ok vs ∧ ∀ u ∈ vs, u ∈ us
  | (n', Ψ') :: r, us, n, Ψ, h, hm => by
    simp only [copyAll] at h
    obtain ⟨a, ha, h⟩ := R.bind_ok h
    obtain ⟨l', hl', h⟩ := R.bind_ok h
    cases h
    rcases List.mem_cons.1 hm with hm | hm
    · cases hm; exact ⟨a, ha, fun u hu => List.mem_append_left _ hu⟩
    · obtain ⟨vs, h1, h2⟩ := copyAll_mem hl' hm
      exact ⟨vs, h1, fun u hu => List.mem_append_right _ (h2 u hu)⟩
theorem den_i64 {q : Pt} {σ : Sig} {n : Lin} {k : Nat} (h : q.All fun η => n.ev η.int = (k : Int)) (hk : (k : Int) ≤ kmax .i64) : q.All fun η => DenV η σ (.sc (.int .i64 n)) (goInt k) := fun η hη => by
  have : n.ev η.int = (k : Int) := h η hη
  simp only [DenV, Den, this, goInt, true_and]
  exact ⟨by have := kmin_le0 .i64; omega, hk⟩
theorem copyOp_sound {ty : Nat → Option TI} (hT : TyOk P ty) {t t2 e tt : TypeId} {ei : TI} (ht : P.underlying t = some (.slice e)) (he : ty e = some ei)
    {st : St} {d s : AV} {us : List Upd} (h : copyOp st ei d s = .ok us) {p : Pt} (hs : Sat p st.ctx) :
    ∃ u ∈ us, ∃ q, p.le q ∧ Sat q u.ctx ∧ ∀ σ w dv sv, (p.All fun η => DenV η σ d dv) → (p.All fun η => DenV η σ s sv) → RelH p σ st.heap st.nb w →
      ∃ v w', (Builtin.copy_ #[t, t2] tt #[dv, sv]).run P w = .ok v w' ∧ Goes q st.nb σ st.heap w u v w' := by
  obtain ⟨i, hi, hsz, _, _⟩ := hT.info e ei he
  unfold copyOp at h
  split at h
  · rename_i b off len es s
    obtain ⟨hes, h⟩ := bif_ok h
    have hes := (beq_iff _ _).1 hes
    subst hes
    obtain ⟨⟨ob, c0, xlen⟩, hc, h⟩ := R.bind_ok h
    obtain ⟨_, h⟩ := bif_no h
    obtain ⟨ls, hl, h⟩ := R.bind_ok h
    have hx0 : s.isAny = false := by cases s <;> first | rfl | (simp [srcCont] at hc)
    obtain ⟨n, Ψ, hmem, hsp, hmin⟩ := lesser_sound hs hl
    obtain ⟨vs, hone, hsub⟩ := copyAll_mem h hmem
    unfold copyOne at hone
    obtain ⟨hfit, hone⟩ := bif_ok hone
    obtain ⟨c, hcs, hone⟩ := R.bind_ok hone
    obtain ⟨⟨y, Ω⟩, hcb, hone⟩ := R.bind_ok hone
    cases hone
    obtain ⟨q, hq, hsq, hno, ⟨tb, hbx, hby⟩, hB⟩ := copyBlk_sound hsp hcb (copyVals p.η (st.atCtx Ψ) ei.size n s)
    refine ⟨_, hsub _ (List.mem_singleton.2 rfl), q, hq, hsq, fun σ w dv sv hdv hsv hR => ?_⟩
    have hes1 : ∀ a, s = .str a → ei.size = 1 := fun a ha => by
      subst ha
      cases a <;> (simp only [srcCont] at hc; exact (beq_iff _ _).1 (bif_ok hc).1)
    have hes2 : ∀ b o l fs, s = .slice b o l fs → fs = ei.size := fun b o l fs ha => by
      subst ha
      simp only [srcCont] at hc
      exact ((beq_iff _ _).1 (bif_ok hc).1).symm
    obtain ⟨m, _, h1, h2, _, _, _, _⟩ := srcCont_sound (P := P) hc hs hR (hsv.imp fun η h => DenV.un hx0 h)
    -- what is copied, once it is known how many
    have src : ∀ dl : Nat, (p.All fun η => len.ev η.int = (dl : Int)) → ∃ X, X.length = Nat.min m dl * ei.size ∧ (p.All fun η => n.ev η.int = ((Nat.min m dl : Nat) : Int)) ∧ (p.All fun η => ContD η σ c X) ∧
        (∀ ct, c.fits Ψ ct = true → X = copyVals p.η (st.atCtx Ψ) ei.size n s) ∧ (Builtin.firstCells ei.size (Nat.min m dl) sv).run P w = .ok ⟨X⟩ w ∧ ((Nat.min m dl : Nat) : Int) ≤ kmax .i64 ∧ p.All fun η => (n.smul ei.size).ev η.int = (X.length : Int) := fun dl hdl => by
      have hn : p.All fun η => n.ev η.int = ((Nat.min m dl : Nat) : Int) := fun η hη => by
        have := hmin m dl h2 hdl η hη
        dsimp only at this ⊢
        rw [this]
        have : Nat.min m dl = min m dl := rfl
        omega
      obtain ⟨X, hX1, hX2, hX3, hX4⟩ := copySrc_sound (P := P) hcs hsp hes1 hes2 hR (hsv.imp fun η h => DenV.un hx0 h) (h1 w) hn (Nat.min_le_left _ _)
      refine ⟨X, hX1, hn, hX2, hX3, hX4, ?_, fun η hη => ?_⟩
      · have := fits_sound (hsp.2 _ (Va.agr_refl _ _)) hfit
        have h0 : n.ev p.η.int = _ := hn.self
        rw [h0] at this
        exact this.2
      · have h0 := hn η hη
        dsimp only at h0 ⊢
        rw [Lin.ev_smul, h0, hX1, Int.natCast_mul, Int.mul_comm]
    have hal : Alive st.heap b := fun h0 => by
      have : blkType (blk (st.atCtx Ψ).heap b) = none := by show blkType (blk st.heap b) = none; rw [h0]; rfl
      rw [this] at hbx; cases hbx
    rcases den_slice (hdv.imp fun η h => DenV.un rfl h) with ⟨rfl, hσ, hl0⟩ | ⟨cc, N, o, l, cap, rfl, hσ, hl0, hlc, hoff⟩
    · obtain ⟨X, hXl, hn, hXc, hXf, hXr, hkm, hnm⟩ := src 0 hl0
      have hX0 : X = [] := List.length_eq_zero_iff.1 (by rw [hXl]; simp)
      subst hX0
      refine ⟨_, w, run_copy' ht hi (h1 w) (by rw [hsz]; exact hXr) rfl, σ, ?_, den_i64 (hn.mono hq) hkm, ?_⟩
      · exact ⟨Nat.le_refl _, fun _ _ => rfl, Nat.le_refl _, fun _ _ _ => rfl, fun c' _ ho => by
          obtain ⟨b', n', ha', hb'⟩ := ho
          rcases alive_set ha' with ⟨rfl, _⟩ | ⟨_, h'⟩
          · rw [hσ] at hb'; cases hb'
          · exact ⟨b', n', h', hb'⟩, fun _ vs _ fr h => ⟨vs, fr, h, rfl⟩, fun _ vs _ _ h _ => ⟨vs, h⟩, ⟨rfl, rfl, rfl⟩⟩
      · have hx := hR.rel b
        rw [hσ] at hx
        have ht := hB σ [] [] (fun η hη => (hx η hη).nil_tr hbx) hXc hXf hnm
        exact {
          full := hR.full
          rel := fun b' η hη => by
            rw [blk_set]
            split
            · rename_i e; subst e; rw [hσ]
              have := ht.2 η hη
              rw [wrote_nil] at this
              exact this.nil w
            · exact (hR.rel b').mono hq η hη
          inj := fun b₁ b₂ c' n₁ n₂ h₁ h₂ e₁ e₂ => by
            have up : ∀ b', Alive ((st.atCtx Ψ).heap.set y b) b' → Alive st.heap b' := fun b' hb' => by
              rcases alive_set hb' with ⟨rfl, _⟩ | ⟨_, h'⟩
              · exact hal
              · exact h'
            exact hR.inj b₁ b₂ c' n₁ n₂ (up _ h₁) (up _ h₂) e₁ e₂
          glob := fun g hg ha => by
            rcases alive_set ha with ⟨rfl, _⟩ | ⟨_, h'⟩
            · exact hR.glob _ hg hal
            · exact hR.glob g hg h' }
    · obtain ⟨X, hXl, hn, hXc, hXf, hXr, hkm, hnm⟩ := src l hl0
      have hx := hR.rel b
      rw [hσ] at hx
      obtain ⟨vs, more, hC, hN, hTr⟩ := tr_fix hbx hno hx
      obtain ⟨hle, hY⟩ := hB σ vs X hTr hXc hXf hnm
      obtain ⟨u, fr, hcell, htu, hf⟩ := hC
      -- where the slice bears nothing, nothing is written
      have hw : ∃ w', (match (some ⟨cc, o, none⟩ : Option Addr) with | some a => storeCells a X | none => (pure () : Sem Unit)).run P w = .ok () w' ∧ w' = wput w cc (.cells ⟨wrote vs X (off.ev p.η.int).toNat ++ more⟩ u fr) := by
        by_cases hcap : cap = 0
        · have hX0 : X = [] := List.length_eq_zero_iff.1 (by
            have : l = 0 := by omega
            subst this
            rw [hXl]; simp)
          subst hX0
          refine ⟨w, by simp [storeCells], ?_⟩
          rw [wrote_nil, wput_same hcell]
        · obtain ⟨ho, _⟩ := hoff.resolve_left hcap
          have ho0 : (off.ev p.η.int).toNat = o := by have := ho.self; omega
          have hst := run_storeCells_of (P := P) (c := cc) (o := o) (u := u) (fr := fr) X 0 (vs ++ more) w hcell (by rw [← ho0]; simp; omega) hf hXc.self.one
          refine ⟨_, hst, ?_⟩
          rw [ho0, Nat.add_zero]
          rw [ho0] at hle
          congr 3
          unfold wrote
          rw [List.take_append_of_le_length (by omega), List.drop_append_of_le_length (by omega)]
          simp
      obtain ⟨w', hst, hw'⟩ := hw
      have hsize : (wrote vs X (off.ev p.η.int).toNat ++ more).length = (vs ++ more).length := by rw [List.length_append, List.length_append, wrote_len hle]
      refine ⟨_, w', run_copy' ht hi (h1 w) (by rw [hsz]; exact hXr) hst, σ, ?_, den_i64 (hn.mono hq) hkm, ?_⟩
      · rw [hw']
        exact Step.put hal hσ hcell fun vs' u' fr' he => by cases he; exact ⟨_, rfl, by simp only [List.size_toArray]; exact hsize⟩
      · rw [hw']
        refine hR.put hq hal hσ fun η hη => TrD.at (hY η hη) hby ⟨u, fr, wput_self (lt_of_get hcell), htu, fun j hj => hf j (by rw [← hsize]; exact hj)⟩ (by rw [hsize]; exact hN)
  · rename_i s
    obtain ⟨⟨ob, c0, xlen⟩, hc, h⟩ := R.bind_ok h
    cases h
    have hx0 : s.isAny = false := by cases s <;> first | rfl | (simp [srcCont] at hc)
    refine ⟨_, List.mem_singleton.2 rfl, p, p.le_refl, hs, fun σ w dv sv hdv hsv hR => ?_⟩
    obtain ⟨m, L, h1, h2, h3, h4, h5, h6⟩ := srcCont_sound (P := P) hc hs hR (hsv.imp fun η h => DenV.un hx0 h)
    have : dv = .slice none 0 0 := hdv.self
    subst this
    have e0 : Nat.min m 0 = 0 := Nat.min_zero m
    have h0 : (Builtin.firstCells i.size (Nat.min m 0) sv).run P w = .ok ⟨[]⟩ w := by
      have := h6 w rfl 0 (Nat.zero_le _)
      rw [Nat.zero_mul, List.take_zero] at this
      rw [hsz, e0]; exact this
    have hrun := run_copy' (P := P) (sT := t2) (ty := tt) (base := none) (dLen := 0) (dCap := 0) ht hi (h1 w) h0 rfl
    refine ⟨_, w, hrun, σ, Step.refl _ _ _ _, fun η _ => ?_, hR⟩
    rw [e0]
    exact ⟨rfl, in0 _⟩
  · cases h
end
end Go.Hal
namespace Go.Hal
noncomputable section
open Go
variable {P : Program}

/-- the bytes that numbers are -/
def bsV (X : List Value) : ByteArray := ⟨(X.map fun v => match v with | .int _ n => UInt8.ofNat n.toNat | _ => 0).toArray⟩
theorem bsV_bytes : ∀ {X : List Value}, (∀ v ∈ X, ctHas (.int .u8) v) → X = byteVals (bsV X)
  | [], _ => rfl
  | v :: X, h => by
    have ih := bsV_bytes (X := X) fun w hw => h w (by simp [hw])
    obtain ⟨n, rfl, hn⟩ := h v (by simp)
    have h0 : (0 : Int) ≤ n := hn.1
    have h1 : n ≤ 255 := hn.2
    simp only [byteVals, bsV, List.map_cons, List.map_map] at ih ⊢
    rw [← ih]
    congr 2
    rw [UInt8.toNat_ofNat']
    omega
theorem bsV_size (X : List Value) : (bsV X).size = X.length := by show (bsV X).data.size = _; simp [bsV]
theorem bsV_byteVals (s : ByteArray) : bsV (byteVals s) = s := by
  apply ByteArray.ext
  simp only [bsV, byteVals, List.map_map]
  have : ((fun v => match v with | Value.int _ n => UInt8.ofNat n.toNat | _ => 0) ∘ fun b : UInt8 => Value.int .u8 (b.toNat : Int)) = id := by
    funext b; simp
  rw [this]; simp
theorem allInt_fits {Φ : Ctx} {k : IntKind} : ∀ {l : List SV}, l.all (isInt k) = true → allFit Φ (.int k) l = true
  | [], _ => rfl
  | s :: l, h => by
    simp only [List.all_cons, Bool.and_eq_true] at h
    simp only [allFit, allInt_fits h.2, Bool.and_true]
    cases s <;> simp only [isInt] at h <;> first | (cases h.1; done) | skip
    simp only [fitsCt]
    rw [keq_eq h.1]; exact keq_refl _
theorem knownInts_sound {η : Va} {σ : Sig} : ∀ {l : List SV} {ns : List Nat} {X : List Value}, knownInts l = some ns → DenL η σ l X → bsV X = bsOf ns
  | [], ns, [], h, _ => by cases h; rfl
  | s :: l, ns, v :: X, h, hd => by
    unfold knownInts at h
    split at h
    · rename_i heq; cases heq
    · rename_i k c r heq
      cases heq
      split at h
      · rename_i l' hl
        cases h
        have ih := knownInts_sound hl hd.2
        have hv : v = .int k ((c : Nat) : Int) := by have := hd.1.1; simpa [Lin.ev, Lin.evTs] using this
        subst hv
        simp only [bsV, bsOf, ByteArray.mk.injEq, List.map_cons] at ih ⊢
        have := congrArg Array.toList ih
        simp only at this
        rw [this]
        simp
      · cases h
    · cases h
theorem bytesOf_sound {p : Pt} {Φ : Ctx} (hs : Sat p Φ) {c : Cont} {n : Lin} {r : SV × Ctx} (h : bytesOf Φ c n = .ok r) (X₀ : List Value) :
    ∃ q, p.le q ∧ Sat q r.2 ∧ ∀ σ X, (p.All fun η => ContD η σ c X) → (∀ ct, c.fits Φ ct = true → X = X₀) → (p.All fun η => n.ev η.int = (X.length : Int)) → (∀ v ∈ X, ctHas (.int .u8) v) ∧ q.All fun η => Den η σ r.1 (.string (bsV X)) := by
  have new : ∀ r, (match newStr Φ n with | (s, Ψ) => (R.ok (SV.str s, Ψ) : R (SV × Ctx))) = .ok r → (∀ σ X, (p.All fun η => ContD η σ c X) → ∀ v ∈ X, ctHas (.int .u8) v) → c.fits Φ (.int .u8) = true →
      ∃ q, p.le q ∧ Sat q r.2 ∧ ∀ σ X, (p.All fun η => ContD η σ c X) → (∀ ct, c.fits Φ ct = true → X = X₀) → (p.All fun η => n.ev η.int = (X.length : Int)) → (∀ v ∈ X, ctHas (.int .u8) v) ∧ q.All fun η => Den η σ r.1 (.string (bsV X)) := fun r h hall hfit => by
    cases h
    obtain ⟨q, hq, hsq, hx⟩ := newStr_sound hs n (bsV X₀)
    refine ⟨q, hq, hsq, fun σ X hc hf hn => ⟨hall σ X hc, ?_⟩⟩
    have := hf _ hfit
    subst this
    exact hx (hn.imp fun η h => by rw [bsV_size]; exact h) σ
  unfold bytesOf at h
  split at h
  · cases h
    refine ⟨p, p.le_refl, hs, fun σ X hc _ _ => ?_⟩
    have h0 := hc.self
    cases X with
    | nil => exact ⟨by simp, fun η _ => ⟨rfl, slen_lit _ _⟩⟩
    | cons v X => exact h0.elim
  · rename_i l _
    split at h
    · rename_i hk
      have hall := allInt_all hk
      split at h
      · rename_i ns hns
        cases h
        refine ⟨p, p.le_refl, hs, fun σ X hc _ _ => ⟨DenL.ints hc.self hall, fun η hη => ?_⟩⟩
        rw [knownInts_sound hns (hc η hη)]
        exact ⟨rfl, slen_lit _ _⟩
      · exact new r h (fun σ X hc => DenL.ints hc.self hall) (allInt_fits hall)
    · cases h
  · exact new r h (fun σ X hc => hc.self.2) rfl
  · cases h
theorem cells_bytes {w : World} {c o : Nat} {tot : List Value} {u : TypeId} {fr : Nat × Nat} (hh : w.heap[c]? = some (.cells ⟨tot⟩ u fr)) {k : Nat} (hb : ∀ v ∈ (tot.drop o).take k, ctHas (.int .u8) v) :
    ∀ j x, (bsV ((tot.drop o).take k)).data.toList[j]? = some x → w.cell? ((⟨c, o, none⟩ : Addr).add j) = some (.int .u8 (x.toNat : Int)) := fun j x hj => by
  have hX := bsV_bytes hb
  generalize hg : (tot.drop o).take k = X at hX hj
  have h1 : X[j]? = some (.int .u8 (x.toNat : Int)) := by
    rw [hX]; simp only [byteVals, List.getElem?_map, hj]; rfl
  have hjk : j < k := by
    have := (List.getElem?_eq_some_iff.1 h1).1
    rw [← hg] at this; simp at this; omega
  rw [add_addr, cell_of hh, ← h1, ← hg, List.getElem?_take_of_lt hjk, List.getElem?_drop]
theorem bytesStr_sound {st : St} {x : AV} {us : List Upd} (h : bytesStr st x = .ok us) {p : Pt} (hs : Sat p st.ctx) {src dst e : TypeId} (hsrc : P.underlying src = some (.slice e)) (he : P.underlying e = some (.int .u8)) (hd : P.underlying dst = some .string) :
    ∃ u ∈ us, ∃ q, p.le q ∧ Sat q u.ctx ∧ u.heap = st.heap ∧ u.nb = st.nb ∧ ∀ σ w a, (p.All fun η => DenV η σ x a) → RelH p σ st.heap st.nb w → ∃ v, (convert src dst a).run P w = .ok v w ∧ q.All fun η => DenV η σ u.val v := by
  unfold bytesStr at h
  split at h
  · cases h
    refine ⟨_, List.mem_singleton.2 rfl, p, p.le_refl, hs, rfl, rfl, fun σ w a ha _ => ?_⟩
    have : a = .slice none 0 0 := ha.self
    subst this
    refine ⟨.string .empty, ?_, fun η _ => ⟨rfl, slen_lit _ _⟩⟩
    rw [run_convert_bytes_string w src dst e none 0 0 hsrc he hd]
    rfl
  · rename_i b off len
    obtain ⟨c, hc, h⟩ := R.bind_ok h
    obtain ⟨r, hr, h⟩ := R.bind_ok h
    cases h
    obtain ⟨q, hq, hsq, hx⟩ := bytesOf_sound hs hr (contVals p.η st b off len)
    refine ⟨_, List.mem_singleton.2 rfl, q, hq, hsq, rfl, rfl, fun σ w a ha hR => ?_⟩
    have zero : ∀ aa cap, (p.All fun η => len.ev η.int = 0) → ∃ v, (convert src dst (.slice aa 0 cap)).run P w = .ok v w ∧ q.All fun η => DenV η σ (.sc r.1) v := fun aa cap hl => by
      have h0 := (hx σ [] (fun η hη => contOf_zero hc (hl η hη)) (fun _ _ => (contVals_zero hl.self).symm) (fun η hη => by simpa using hl η hη)).2
      refine ⟨.string (bsV []), ?_, h0.imp fun η h => DenV.of h⟩
      cases aa with
      | none => rw [run_convert_bytes_string w src dst e none 0 cap hsrc he hd]; rfl
      | some aa => exact run_convert_bytes_back w src dst e aa cap [] hsrc he hd (fun j hj => by simp at hj)
    rcases den_slice (ha.imp fun η h => DenV.un rfl h) with ⟨rfl, _, hl⟩ | ⟨d, N, o, l, cap, rfl, hσ, hl, hlc, hoff⟩
    · exact zero none 0 hl
    · by_cases hcap : cap = 0
      · have : l = 0 := by omega
        subst this
        exact zero _ _ (hl.imp fun η h => by simpa using h)
      · obtain ⟨ho, hN⟩ := hoff.resolve_left hcap
        obtain ⟨tot, u, fr, hh, htl, _, _, hC, hF⟩ := contOf_sound hc hs hR hσ ho hl (by omega)
        have hlen : ((tot.drop o).take l).length = l := by simp; omega
        obtain ⟨hb, hD⟩ := hx σ _ hC hF (hl.imp fun η h => by rw [hlen]; exact h)
        refine ⟨_, ?_, hD.imp fun η h => DenV.of h⟩
        have hcb := cells_bytes hh hb
        have hl2 : (bsV ((tot.drop o).take l)).data.toList.length = l := by
          have := bsV_size ((tot.drop o).take l)
          rw [hlen] at this
          exact this
        have := run_convert_bytes_back (P := P) w src dst e ⟨d, o, none⟩ cap (bsV ((tot.drop o).take l)).data.toList hsrc he hd (fun j hj => hcb j _ (List.getElem?_eq_getElem hj))
        rw [hl2] at this
        exact this
  · cases h
theorem strBytes_sound {st : St} {e : TypeId} {s : AStr} {us : List Upd} (h : strBytes st e s = .ok us) {p : Pt} (hs : Sat p st.ctx) (h8 : 8 ≤ st.nb) {src dst : TypeId} (hsrc : P.underlying src = some .string) (he : P.underlying e = some (.int .u8)) (hd : P.underlying dst = some (.slice e)) :
    ∃ u ∈ us, ∃ q, p.le q ∧ Sat q u.ctx ∧ ∀ σ w a, (p.All fun η => DenV η σ (.sc (.str s)) a) → RelH p σ st.heap st.nb w → ∃ v w', (convert src dst a).run P w = .ok v w' ∧ Goes q st.nb σ st.heap w u v w' := by
  have main : ∀ {y : ABlk} {q : Pt} {Ψ : Ctx} {n : Lin}, p.le q → blkType y = some e → (∀ σ (a : ByteArray), (p.All fun η => s.ev η = a ∧ (slen s).ev η.int = (a.size : Int)) → (q.All fun η => TrD η σ y (byteVals a)) ∧ q.All fun η => n.ev η.int = (a.size : Int)) →
      ∀ σ w a, (p.All fun η => DenV η σ (.sc (.str s)) a) → RelH p σ st.heap st.nb w → ∃ v w', (convert src dst a).run P w = .ok v w' ∧ Goes q st.nb σ st.heap w ⟨Ψ, .sc (.slice st.nb (.k 0) n 1), st.heap.set y st.nb, st.nb + 1⟩ v w' := by
    intro y q Ψ n hq hy hD σ w a ha hR
    obtain ⟨a, rfl, ha'⟩ := den_str ha
    have hrun := run_bytes_of_string (P := P) w src dst e a hsrc hd he
    generalize hg : grownCap w a.size 0 e = g at hrun
    have hge : a.size ≤ g := by rw [← hg]; exact grownCap_ge _ _ _ _
    have hrow : bytesRow a g = ⟨byteVals a ++ List.replicate (g - a.size) (.int .u8 0)⟩ := by
      apply Array.ext'
      simp [bytesRow, byteVals]
    have hlen : (byteVals a ++ List.replicate (g - a.size) (Value.int .u8 0)).length = g := by
      rw [List.length_append, byteVals_len, List.length_replicate]; omega
    have hno : σ st.nb = .no := hR.full _ (Nat.le_refl _)
    obtain ⟨hT, hN⟩ := hD (σ.put st.nb (.at_ w.heap.size g)) a ha'
    refine ⟨_, _, hrun, σ.put st.nb (.at_ w.heap.size g), ?_, fun η hη => ?_, ?_⟩
    · exact Step.laid (fun _ h => h) (fun _ _ h hlt => by cases h; omega) (by show w.heap.size ≤ (w.heap.push _).size; simp)
        (fun c' hc' _ => wnew_lt (w := w.drew) hc') (shp_refl fun c' hc' => wnew_lt (w := w.drew) hc') ⟨rfl, rfl, rfl⟩
    · exact .inr ⟨w.heap.size, g, 0, a.size, g, Sig.put_self _ _ _, hN η hη, hge, .inr ⟨by simp, by omega⟩, rfl⟩
    · refine hR.laid hq h8 (fun _ _ h ho => by cases h; exact absurd (hR.own_lt ho) (by omega)) (fun c' ho => wnew_lt (w := w.drew) (hR.own_lt ho)) fun η hη => ?_
      refine TrD.at (hT η hη) hy (more := List.replicate (g - a.size) (.int .u8 0)) ?_ hlen
      rw [hrow]
      refine ⟨e, _, wnew_self w.drew _, .inr rfl, fun j hj h => ?_⟩
      simp only [List.size_toArray, hlen] at h
      rw [hlen] at hj
      omega
  unfold strBytes at h
  split at h
  · rename_i l
    cases h
    refine ⟨_, List.mem_singleton.2 rfl, p, p.le_refl, hs, main p.le_refl rfl fun σ a ha => ⟨fun η _ => ?_, fun η _ => ?_⟩⟩
    · have : bsOf l = a := ha.self.1
      subst this
      exact litCells_den η σ l
    · have : bsOf l = a := ha.self.1
      subst this
      simp [llen_eq]
  · rename_i a' n
    cases h
    refine ⟨_, List.mem_singleton.2 rfl, p.push 0 default (byteVals (p.η.str a')) default, p.le_push _ _ _ _, hs.push0 _ _ _ _, main (p.le_push _ _ _ _) rfl fun σ a ha => ?_⟩
    have h1 : p.η.str a' = a := ha.self.1
    subst h1
    have h2 : p.All fun η => n.ev η.int = ((p.η.str a').size : Int) := fun η hη => (ha η hη).2
    refine ⟨?_, h2.mono (p.le_push _ _ _ _)⟩
    exact rowPush_tr hs (h2.imp fun η h => by rw [byteVals_len]; exact h) (byteVals_has _)
end
end Go.Hal
namespace Go.Hal
noncomputable section
open Go
variable {P : Program}

theorem lies_self {e : TypeId} (hc : 1 ≤ P.cellsOf e) (count : Nat) (hn : 1 ≤ count) : liesAt P P.depth e count 0 e 1 = true := by
  have hd : P.depth = (2 * (P.types.size + Made.depth) + 1) + 1 := rfl
  rw [hd]
  have hs : sameLayout P (2 * (P.types.size + Made.depth) + 1 + 1) e e = true := by simp [sameLayout]
  have h0 : P.cellsOf e ≠ 0 := by omega
  have hr : rowAt P (fun x => sameLayout P (2 * (P.types.size + Made.depth) + 1 + 1) x e) (2 * (P.types.size + Made.depth) + 1 + 1) e count 0 1 = true := by
    rw [rowAt]
    simp [h0, hs, hn]
  rw [liesAt, hd, hr]
  rfl
theorem isU8_sound {ty : Nat → Option TI} (hT : TyOk P ty) {e : TypeId} (h : isU8 ty e = true) : P.underlying e = some (.int .u8) := by
  unfold isU8 at h
  split at h
  · rename_i ti hti; exact hT.desc _ _ hti
  · cases h
theorem ptr0 {p : Pt} {σ : Sig} {b : Nat} {x : Value} (h : p.All fun η => DenV η σ (.sc (.ptr b ⟨.ofNat 0, []⟩)) x) : ∃ c n, σ b = .at_ c n ∧ x = .pointer (some ⟨c, 0, none⟩) := by
  obtain ⟨c, n, o, hb, hx, ho⟩ := ptr_fix h
  have : o = 0 := by have := ho.self; simp [Lin.ev, Lin.evTs] at this; omega
  subst this
  exact ⟨c, n, hb, hx⟩
theorem Step.same {nb : Nat} {σ : Sig} {h : Tr ABlk} {w w' : World} (hw : w'.heap = w.heap) (hio : w'.os = w.os ∧ w'.output = w.output ∧ w'.tape = w.tape) : Step nb σ h w nb σ h w' :=
  ⟨Nat.le_refl _, fun _ _ => rfl, by rw [hw]; exact Nat.le_refl _, fun _ _ _ => by rw [hw], fun _ _ h => h, fun _ vs _ fr h => ⟨vs, fr, by rw [hw]; exact h, rfl⟩, fun _ vs _ _ h _ => ⟨vs, by rw [hw]; exact h⟩, hio⟩
theorem Goes.still {q : Pt} {st : St} {σ : Sig} {w : World} {u : Upd} {v : Value} (hh : u.heap = st.heap) (hn : u.nb = st.nb) (hd : q.All fun η => DenV η σ u.val v) (hR : RelH q σ st.heap st.nb w) : Goes q st.nb σ st.heap w u v w := by
  refine ⟨σ, ?_, hd, ?_⟩
  · rw [hh, hn]; exact Step.refl _ _ _ _
  · rw [hh, hn]; exact hR
theorem convertOp_sound {ty : Nat → Option TI} (hT : TyOk P ty) {src dst : TypeId} {st : St} {x : AV} {us : List Upd} (h : convertOp st ty src dst x = .ok us) {p : Pt} (hs : Sat p st.ctx) (h8 : 8 ≤ st.nb) :
    ∃ u ∈ us, ∃ q, p.le q ∧ Sat q u.ctx ∧ ∀ σ w a, (p.All fun η => DenV η σ x a) → RelH p σ st.heap st.nb w → ∃ v w', (convert src dst a).run P w = .ok v w' ∧ Goes q st.nb σ st.heap w u v w' := by
  unfold convertOp at h
  split at h
  · rename_i si di hsi hdi
    have hsd := hT.desc _ _ hsi
    have hdd := hT.desc _ _ hdi
    split at h
    · rename_i k _ e hk
      cases h
      obtain ⟨q, hq, hsq, hx⟩ := mkInt_sound hs k e
      refine ⟨_, List.mem_singleton.2 rfl, q, hq, hsq, fun σ w a ha hR => ?_⟩
      obtain ⟨a', rfl, _, ha'⟩ := den_int ha
      refine ⟨.int k (k.wrap a'), w, ?_, Goes.still rfl rfl ((hx σ a' ha').imp fun η h => DenV.of h) (hR.mono hq)⟩
      rw [hk] at hdd
      simp [convert, run_underlying hsd, run_underlying hdd, Conv.intToInt]
    · rename_i s hk
      cases h
      refine ⟨_, List.mem_singleton.2 rfl, p, p.le_refl, hs, fun σ w a ha hR => ?_⟩
      obtain ⟨a', rfl, _⟩ := den_str ha
      refine ⟨.string a', w, ?_, Goes.still rfl rfl ha hR⟩
      rw [hk] at hdd
      simp [convert, run_underlying hsd, run_underlying hdd]
    · rename_i e s hk
      obtain ⟨hu, h⟩ := bif_ok h
      rw [hk] at hdd
      obtain ⟨hss, h⟩ := bif_ok h
      have hs' : P.underlying src = some .string := by
        rw [hsd]
        unfold isStr at hss
        split at hss
        · rename_i he; rw [he]
        · cases hss
      obtain ⟨u, hu', q, hq, hsq, hx⟩ := strBytes_sound (P := P) h hs h8 hs' (isU8_sound hT hu) hdd
      exact ⟨u, hu', q, hq, hsq, fun σ w a ha hR => hx σ w a ha hR⟩
    · rename_i hk _
      rw [hk] at hdd
      split at h
      · rename_i e he
        obtain ⟨hu, h⟩ := bif_ok h
        rw [he] at hsd
        obtain ⟨u, hu', q, hq, hsq, hh, hn, hx⟩ := bytesStr_sound (P := P) h hs hsd (isU8_sound hT hu) hdd
        refine ⟨u, hu', q, hq, hsq, fun σ w a ha hR => ?_⟩
        obtain ⟨v, h1, h2⟩ := hx σ w a ha hR
        exact ⟨v, w, h1, Goes.still hh hn h2 (hR.mono hq)⟩
      · cases h
    · rename_i b hk
      rw [hk] at hdd
      split at h
      · rename_i t _ t' c0 cs he hb
        split at h
        · rename_i ti hti
          obtain ⟨hz, h⟩ := bif_no h
          cases h
          refine ⟨_, List.mem_singleton.2 rfl, p, p.le_refl, hs, fun σ w a ha hR => ?_⟩
          obtain ⟨c, n, hσ, rfl⟩ := ptr0 ha
          rw [he] at hsd
          have hB := hR.rel b
          rw [hb, hσ] at hB
          obtain ⟨vs, more, ⟨u, fr, hc, _⟩, _, hD⟩ := cells_fix hB
          obtain ⟨v, vs', rfl⟩ : ∃ v vs', vs = v :: vs' := by
            have := hD.self
            cases vs with
            | nil => exact this.elim
            | cons v vs' => exact ⟨v, vs', rfl⟩
          obtain ⟨i, hi, hsz, _⟩ := hT.info _ _ hti
          refine ⟨.pointer (some ⟨c, 0, none⟩), w, ?_, Goes.still rfl rfl ?_ hR⟩
          · refine run_convert_to_unsafe (v := v) hsd hdd ?_ ?_
            · rw [hi]
              have : ti.size ≠ 0 := fun e0 => by rw [(beq_iff _ _).2 e0] at hz; cases hz
              simp [hsz, this]
            · rw [cell_of hc]; rfl
          · exact fun η hη => ⟨c, n, 0, hσ, by simp, rfl⟩
        · cases h
      · cases h
    · rename_i u b hk
      rw [hk] at hdd
      split at h
      · rename_i t cs he hb
        split at h
        · rename_i ui hui
          obtain ⟨hz, h⟩ := bif_ok h
          cases h
          simp only [Bool.and_eq_true, beq_iff, blt_iff, ble_iff] at hz
          refine ⟨_, List.mem_singleton.2 rfl, p, p.le_refl, hs, fun σ w a ha hR => ?_⟩
          obtain ⟨c, n, hσ, rfl⟩ := ptr0 ha
          rw [he] at hsd
          have hB := hR.rel b
          rw [hb, hσ] at hB
          obtain ⟨vs, more, ⟨u', fr, hc, htu, _⟩, _, hD⟩ := cells_fix hB
          obtain ⟨i, hi, hsz, _⟩ := hT.info _ _ hui
          have hu' : u' = u := (htu.resolve_left fun h0 => by have h1 := hz.1.1.1; have h2 := hz.1.1.2; rw [← h1, h0] at h2; exact absurd h2 (Nat.lt_irrefl 0)).symm.trans hz.1.1.1
          subst hu'
          have hlen := hD.self.length
          have hsh : w.shape? c = some (u', (vs ++ more).length) := by simp [World.shape?, hc]
          have hco : P.cellsOf u' = ui.size := by simp [Program.cellsOf, hi, hsz]
          have hl := lies_self (P := P) (e := u') (by omega) ((vs ++ more).length / P.cellsOf u') (by
            rw [hco]
            refine (Nat.le_div_iff_mul_le (by omega)).2 ?_
            simp only [List.length_append]
            omega)
          refine ⟨.pointer (some ⟨c, 0, none⟩), w, ?_, Goes.still rfl rfl (fun η hη => ⟨c, n, 0, hσ, by simp, rfl⟩) hR⟩
          simp [convert, Conv.unsafePointer, Conv.seenAt, viewAt, sizeOf, typeInfo, run_underlying hsd, run_underlying hdd, hi, hsh, variablesAt, Result.andThen]
          simp at hl
          simp [hl]
        · cases h
      · cases h
    · cases h
  · cases h
end
end Go.Hal
namespace Go.Hal
noncomputable section
open Go
variable {P : Program}

theorem foldl_set (off : Nat) : ∀ (l : List Value) (k : Nat) (X : Array Value), off + k + l.length ≤ X.size → ((l.zipIdx k).foldl (fun cs x => cs.setIfInBounds (off + x.2) x.1) X).toList = X.toList.take (off + k) ++ l ++ X.toList.drop (off + k + l.length)
  | [], k, X, _ => by simp
  | v :: l, k, X, h => by
    simp only [List.length_cons] at h
    have ih := foldl_set off l (k + 1) (X.setIfInBounds (off + k) v) (by simp; omega)
    simp only [List.zipIdx_cons, List.foldl_cons, ih, Array.toList_setIfInBounds]
    rw [show off + (k + 1) = off + k + 1 by omega]
    have hlt : off + k < X.toList.length := by simp; omega
    have h1 : (X.toList.set (off + k) v).take (off + k + 1) = X.toList.take (off + k) ++ [v] := by
      rw [List.take_set, List.take_add_one, List.set_append]
      have : (X.toList.take (off + k)).length = off + k := by simp; omega
      simp only [this, Nat.sub_self, List.getElem?_eq_getElem hlt]
      simp
    have h2 : (X.toList.set (off + k) v).drop (off + k + 1 + l.length) = X.toList.drop (off + k + (l.length + 1)) := by
      rw [List.drop_set_of_lt (by omega)]
      congr 1; omega
    rw [h1, h2, List.length_cons]
    simp
theorem fold_part (off : Nat) (v X : Array Value) (h : off + v.size ≤ X.size) : (v.zipIdx.foldl (fun cs (x : Value × Nat) => cs.setIfInBounds (off + x.2) x.1) X).toList = wrote X.toList v.toList off := by
  rw [← Array.foldl_toList, Array.toList_zipIdx, foldl_set off v.toList 0 X (by simpa using h)]
  simp [wrote]
/-- parts, each with its place -/
def PartsD (η : Va) (σ : Sig) : List (Nat × AV) → List (Nat × Value) → Prop
  | [], [] => True
  | (i, a) :: l, (j, v) :: r => (i = j ∧ DenV η σ a v) ∧ PartsD η σ l r
  | _, _ => False
theorem fillA_sound {place pl : Nat → Option (Nat × Nat)} (hpl : ∀ i, place i = pl i) : ∀ {parts : List (Nat × AV)} {cs r : List SV}, fillA place cs parts = .ok r → ∀ {p : Pt} {σ : Sig} {vs : List (Nat × Value)} {X : Array Value}, (p.All fun η => PartsD η σ parts vs) → (p.All fun η => DenL η σ cs X.toList) →
    ∃ Y : Array Value, Instr.fill pl X vs = some Y ∧ Y.size = X.size ∧ p.All fun η => DenL η σ r Y.toList
  | [], cs, r, h, p, σ, vs, X, hp, hX => by
    cases h
    have := hp.self
    cases vs with
    | nil => exact ⟨X, rfl, rfl, hX⟩
    | cons v vs => exact this.elim
  | (i, a) :: parts, cs, r, h, p, σ, vs, X, hp, hX => by
    obtain ⟨v, vs', rfl⟩ : ∃ v vs', vs = (i, v) :: vs' := by
      have := hp.self
      cases vs with
      | nil => exact this.elim
      | cons v vs' => obtain ⟨j, v⟩ := v; obtain ⟨⟨rfl, _⟩, _⟩ := this; exact ⟨v, vs', rfl⟩
    simp only [fillA] at h
    split at h
    · cases h
    · rename_i off size hpi
      obtain ⟨as, ha, h⟩ := R.bind_ok h
      obtain ⟨hsz, h⟩ := bif_ok h
      split at h
      · rename_i r' hr
        have hd : p.All fun η => DenL η σ as v.cells.toList := fun η hη => cells_sound ha (hp η hη).1.2
        have hl := hd.self.length
        have hsz' := (beq_iff _ _).1 hsz
        have hvs : v.cells.size = size := by rw [← hsz', hl]; simp
        have hc := claid_sound hr hd.self hX.self
        have hle : off + v.cells.size ≤ X.size := by have := hc.2; simpa using this
        have hfold := fold_part off v.cells X hle
        obtain ⟨Y, hY, hYs, hYd⟩ := fillA_sound hpl h (p := p) (σ := σ) (vs := vs') (X := v.cells.zipIdx.foldl (fun cs (x : Value × Nat) => cs.setIfInBounds (off + x.2) x.1) X) (hp.imp fun η h => h.2) (fun η hη => by
          rw [hfold]
          exact (claid_sound hr (hd η hη) (hX η hη)).1)
        refine ⟨Y, ?_, ?_, hYd⟩
        · have hno : ¬ (v.cells.size ≠ size ∨ off + v.cells.size > X.size) := by omega
          simp only [Instr.fill, ← hpl, hpi]
          simp only [ne_eq, hvs, not_true_eq_false, decide_false, Bool.false_or, decide_eq_true_eq]
          rw [if_neg (by omega)]
          exact hY
        · rw [hYs]
          have := congrArg List.length hfold
          rw [wrote_len (by simpa using hle)] at this
          simpa using this
      · cases h
theorem run_fieldPlaces {ty : Nat → Option TI} (hT : TyOk P ty) (w : World) : ∀ (fs : List Field), typesKnown ty fs = true →
    ∃ l : List (Nat × Nat), (fs.mapM fun f => (do pure (f.offset, ← sizeOf f.type) : Sem (Nat × Nat))).run P w = .ok l w ∧ ∀ i, fieldPlaces ty ⟨fs⟩ i = l[i]?
  | [], _ => ⟨[], by simp, fun i => by simp [fieldPlaces]⟩
  | f :: fs, h => by
    simp only [typesKnown, Bool.and_eq_true] at h
    obtain ⟨l, hl, hi⟩ := run_fieldPlaces hT w fs h.2
    have h1 := h.1
    split at h1
    · rename_i fi hfi
      refine ⟨(f.offset, fi.size) :: l, ?_, fun i => ?_⟩
      · simp [List.mapM_cons, hT.run_size hfi] at hl ⊢
        simp [hl]
      · cases i with
        | zero => simp [fieldPlaces, hfi]
        | succ i => simpa [fieldPlaces] using hi i
    · cases h1
theorem run_places' {ty : Nat → Option TI} (hT : TyOk P ty) (w : World) (fs : Array Field) (h : typesKnown ty fs.toList = true) :
    ∃ l : Array (Nat × Nat), (fs.mapM fun f => (do pure (f.offset, ← sizeOf f.type) : Sem (Nat × Nat))).run P w = .ok l w ∧ ∀ i, fieldPlaces ty fs i = l[i]? := by
  obtain ⟨l, hl, hi⟩ := run_fieldPlaces hT w fs.toList h
  refine ⟨l.toArray, ?_, fun i => by simpa using hi i⟩
  have : fs = fs.toList.toArray := by simp
  rw [this, List.mapM_toArray]
  simp at hl ⊢
  simp [hl]
theorem buildOp_sound {ty : Nat → Option TI} (hT : TyOk P ty) {t : TypeId} {st : St} {parts : List (Nat × AV)} {us : List Upd} (h : buildOp st ty t parts = .ok us) {p : Pt} (hs : Sat p st.ctx) :
    Still p st us fun q val => ∀ σ (vs : Array (Nat × Value)) w, (p.All fun η => PartsD η σ parts vs.toList) → ∃ v, (Instr.build t vs).run P w = .ok v w ∧ q.All fun η => DenV η σ val v := by
  unfold buildOp at h
  split at h
  · cases h
  · rename_i ti hti
    obtain ⟨z, hz, h⟩ := R.bind_ok h
    have hd := hT.desc _ _ hti
    split at h
    · rename_i fs hfs
      rw [hfs] at hd
      obtain ⟨hk, h⟩ := bif_ok h
      obtain ⟨cs, hcs, h⟩ := R.bind_ok h
      refine Still.one hs h fun σ vs w hp => ?_
      obtain ⟨zv, hzr, hzd⟩ := hT.run_zero hti hz w
      obtain ⟨l, hl, hpl⟩ := run_places' hT w fs hk
      obtain ⟨Y, hY, _, hYd⟩ := fillA_sound hpl hcs (X := zv.cells) hp (fun η hη => cells_sound hz (hzd η σ))
      refine ⟨.agg Y, ?_, fun η hη => ⟨Y.toList, rfl, hYd η hη⟩⟩
      simp only [Instr.build, Sem.run_bind, hzr, Result.andThen_ok, run_underlying hd, hl]
      rw [hY]
      simp
    · rename_i n e hfs
      rw [hfs] at hd
      split at h
      · rename_i ei hei
        obtain ⟨cs, hcs, h⟩ := R.bind_ok h
        refine Still.one hs h fun σ vs w hp => ?_
        obtain ⟨zv, hzr, hzd⟩ := hT.run_zero hti hz w
        obtain ⟨Y, hY, _, hYd⟩ := fillA_sound (fun _ => rfl) hcs (X := zv.cells) hp (fun η hη => cells_sound hz (hzd η σ))
        refine ⟨.agg Y, ?_, fun η hη => ⟨Y.toList, rfl, hYd η hη⟩⟩
        simp only [Instr.build, Sem.run_bind, hzr, Result.andThen_ok, run_underlying hd, hT.run_size hei]
        rw [hY]
        simp
      · cases h
    · cases h
end
end Go.Hal
namespace Go.Hal
noncomputable section
open Go
variable {P : Program}

/-- a new block of cells, and a slice of it -/
theorem newRow_goes {p q : Pt} {st : St} (hpq : p.le q) (h8 : 8 ≤ st.nb) {σ : Sig} {w w₀ : World} (hw : w₀.heap = w.heap) (hio : w₀.os = w.os ∧ w₀.output = w.output ∧ w₀.tape = w.tape) (hR : RelH p σ st.heap st.nb w) {y : ABlk} {e : TypeId} (hy : blkType y = some e) {vs more : List Value}
    (hT : q.All fun η => TrD η (σ.at1 st.nb w.heap.size (vs ++ more).length) y vs) {val : AV} {v : Value} (hv : q.All fun η => DenV η (σ.at1 st.nb w.heap.size (vs ++ more).length) val v) {Ψ : Ctx} :
    Goes q st.nb σ st.heap w ⟨Ψ, val, st.heap.set y st.nb, st.nb + 1⟩ v (wnew w₀ (.cells ⟨vs ++ more⟩ e)) := by
  have hh : (wnew w₀ (.cells ⟨vs ++ more⟩ e)).heap = (wnew w (.cells ⟨vs ++ more⟩ e)).heap := by
    show w₀.heap.push _ = w.heap.push _
    rw [hw]
  have h1 : RelH q (σ.at1 st.nb w.heap.size (vs ++ more).length) (st.heap.set y st.nb) (st.nb + 1) (wnew w (.cells ⟨vs ++ more⟩ e)) :=
    hR.new hpq h8 fun η hη => TrD.at (hT η hη) hy ⟨e, (0, 0), wnew_self _ _, .inr rfl, fun j _ h => by omega⟩ rfl
  have h2 : Step st.nb σ st.heap w (st.nb + 1) (σ.at1 st.nb w.heap.size (vs ++ more).length) (st.heap.set y st.nb) (wnew w (.cells ⟨vs ++ more⟩ e)) := Step.new hR
  refine ⟨_, ?_, hv, ?_⟩
  · exact ⟨h2.le, h2.ext, by rw [hh]; exact h2.size, by rw [hh]; exact h2.fr, h2.own, by rw [hh]; exact h2.shp, by rw [hh]; exact h2.frz, hio⟩
  · exact ⟨h1.full, fun b η hη => BlkD.world (h1.rel b η hη) fun c n _ => by rw [hh], h1.inj, h1.glob⟩
theorem alloc_sound {ty : Nat → Option TI} (hT : TyOk P ty) {t : TypeId} {ti : TI} (hti : ty t = some ti) {z : List SV} (hz : ti.zero.cells = .ok z) {st : St} {p : Pt} (h8 : 8 ≤ st.nb) {σ : Sig} {w : World} (hR : RelH p σ st.heap st.nb w) :
    ∃ v w', (Instr.alloc t true (.tuple #[])).run P w = .ok v w' ∧ Goes p st.nb σ st.heap w ⟨st.ctx, .sc (.ptr st.nb (.k 0)), st.heap.set (.cells t z) st.nb, st.nb + 1⟩ v w' := by
  obtain ⟨zv, hzr, hzd⟩ := hT.run_zero hti hz w
  have hrow : (Obj.cells zv.cells t : Obj) = .cells ⟨zv.cells.toList ++ []⟩ t := by simp
  refine ⟨.pointer (some ⟨w.heap.size, 0, none⟩), wnew w (.cells ⟨zv.cells.toList ++ []⟩ t), ?_, ?_⟩
  · rw [← hrow]
    simp only [Instr.alloc, Sem.run_bind, hzr, Result.andThen_ok]
    rfl
  · refine newRow_goes p.le_refl h8 rfl ⟨rfl, rfl, rfl⟩ hR (y := .cells t z) rfl (vs := zv.cells.toList) (more := []) (fun η _ => cells_sound hz (hzd η _)) fun η _ => ?_
    exact ⟨w.heap.size, _, 0, Sig.at1_self _ _ _ _, by simp, rfl⟩
theorem box_sound {t : TypeId} {x : AV} {z : List SV} (hz : x.cells = .ok z) {st : St} {p : Pt} (h8 : 8 ≤ st.nb) {σ : Sig} {w : World} (hR : RelH p σ st.heap st.nb w) {a : Value} (ha : p.All fun η => DenV η σ x a) :
    ∃ v w', (Instr.box t a).run P w = .ok v w' ∧ Goes p st.nb σ st.heap w ⟨st.ctx, .sc (.ptr st.nb (.k 0)), st.heap.set (.cells t z) st.nb, st.nb + 1⟩ v w' := by
  have hrow : (Obj.cells a.cells t : Obj) = .cells ⟨a.cells.toList ++ []⟩ t := by simp
  refine ⟨.pointer (some ⟨w.heap.size, 0, none⟩), wnew w (.cells ⟨a.cells.toList ++ []⟩ t), ?_, ?_⟩
  · rw [← hrow]; rfl
  · refine newRow_goes p.le_refl h8 rfl ⟨rfl, rfl, rfl⟩ hR (y := .cells t z) rfl (vs := a.cells.toList) (more := []) (fun η hη => ?_) fun η _ => ?_
    · have hext : σ.ext (σ.at1 st.nb w.heap.size (a.cells.toList ++ []).length) := Sig.at1_ext (hR.full _ (Nat.le_refl _))
      exact DenL.ext hext (cells_sound hz (ha η hη))
    · exact ⟨w.heap.size, _, 0, Sig.at1_self _ _ _ _, by simp, rfl⟩

/-! Rows of one value, again and again. -/
def repeatV : Nat → List Value → List Value
  | 0, _ => []
  | n + 1, l => l ++ repeatV n l
theorem repeatV_len (l : List Value) : ∀ n, (repeatV n l).length = n * l.length
  | 0 => by simp [repeatV]
  | n + 1 => by simp only [repeatV, List.length_append, repeatV_len l n, Nat.add_mul]; omega
theorem repeatV_mem {l : List Value} : ∀ {n : Nat} {v : Value}, v ∈ repeatV n l → v ∈ l
  | n + 1, v, h => by
    rcases List.mem_append.1 h with h | h
    · exact h
    · exact repeatV_mem h
theorem repeatL_den {η : Va} {σ : Sig} {z : List SV} {l : List Value} (h : DenL η σ z l) : ∀ n, DenL η σ (repeatL n z) (repeatV n l)
  | 0 => trivial
  | n + 1 => h.append (repeatL_den h n)
theorem repeatV_get (l : List Value) (hl : 0 < l.length) : ∀ (n i : Nat), i < n * l.length → (repeatV n l)[i]? = l[i % l.length]?
  | 0, i, h => by omega
  | n + 1, i, h => by
    simp only [repeatV]
    rw [Nat.add_mul] at h
    by_cases hi : i < l.length
    · rw [List.getElem?_append_left hi, Nat.mod_eq_of_lt hi]
    · have ih := repeatV_get l hl n (i - l.length) (by omega)
      rw [List.getElem?_append_right (Nat.le_of_not_lt hi), ih]
      have := Nat.mod_eq_sub_mod (Nat.le_of_not_lt hi)
      rw [this]
theorem madeCells_repeat (z : Array Value) (n : Nat) : (madeCells z (n * z.size)).toList = repeatV n z.toList := by
  rcases Nat.eq_zero_or_pos z.size with h0 | h0
  · rw [h0]
    have h1 : repeatV n z.toList = [] := List.length_eq_zero_iff.1 (by rw [repeatV_len]; simp [h0])
    rw [h1]
    simp [madeCells]
  · apply List.ext_getElem?
    intro i
    by_cases hi : i < n * z.size
    · rw [repeatV_get z.toList (by simpa using h0) n i (by simpa using hi)]
      simp only [madeCells, Array.toList_map, Array.toList_range, List.getElem?_map, List.getElem?_range hi, Option.map_some]
      rw [getElem!_pos z _ (Nat.mod_lt _ h0)]
      simp [Nat.mod_lt _ h0]
    · rw [List.getElem?_eq_none, List.getElem?_eq_none]
      · rw [repeatV_len]; simp; omega
      · simp [madeCells]; omega
theorem repeatV_more (l : List Value) {m n : Nat} (h : m ≤ n) : ∃ more, repeatV n l = repeatV m l ++ more := by
  refine ⟨repeatV (n - m) l, ?_⟩
  have : n = m + (n - m) := by omega
  generalize n - m = k at this
  subst this
  clear h
  induction m with
  | zero => simp [repeatV]
  | succ m ih =>
    rw [show m + 1 + k = (m + k) + 1 by omega]
    simp [repeatV, ih]
theorem madeBlk_sound {p : Pt} {Φ Ψ : Ctx} (hs : Sat p Φ) {e : TypeId} {es : Nat} {l : Lin} {z : List SV} {y : ABlk} (h : madeBlk Φ e es l z = .ok (y, Ψ)) {zv : List Value} (hz : ∀ η σ, DenL η σ z zv) (hes : zv.length = es) :
    ∃ q, p.le q ∧ Sat q Ψ ∧ blkType y = some e ∧ ∀ σ (n : Nat), (p.All fun η => l.ev η.int = (n : Int)) → q.All fun η => TrD η σ y (repeatV n zv) := by
  unfold madeBlk at h
  split at h
  · rename_i n
    obtain ⟨_, h⟩ := bif_ok h
    cases h
    refine ⟨p, p.le_refl, hs, rfl, fun σ m hm η _ => ?_⟩
    have : n = m := by have := hm.self; simp [Lin.ev, Lin.evTs] at this; omega
    subst this
    exact repeatL_den (hz η σ) n
  · have blob : ∀ ct, (∀ v ∈ zv, ctHas ct v) → zv.length = 1 → ∃ q, p.le q ∧ Sat q Φ.fresh0.2 ∧ blkType (.blob e Φ.fresh0.1 l ct) = some e ∧ ∀ σ (n : Nat), (p.All fun η => l.ev η.int = (n : Int)) → q.All fun η => TrD η σ (.blob e Φ.fresh0.1 l ct) (repeatV n zv) := fun ct hv h1 => by
      refine ⟨p.push 0 default (repeatV (l.ev p.η.int).toNat zv) default, p.le_push _ _ _ _, hs.push0 _ _ _ _, rfl, fun σ n hn => ?_⟩
      have e0 : (l.ev p.η.int).toNat = n := by have := hn.self; omega
      rw [e0]
      exact rowPush_tr hs (hn.imp fun η h => by rw [repeatV_len, h1, Nat.mul_one]; exact h) fun v hv' => hv v (repeatV_mem hv')
    split at h
    · rename_i k c
      cases h
      have hz0 := hz ⟨fun _ => 0, fun _ => default, fun _ => [], fun _ => default⟩ (fun _ => .no)
      have h1 : zv.length = 1 := by have := hz0.length; simpa [clen] using this.symm
      exact blob (.int k) (DenL.ints hz0 (by simp [isInt, keq_refl])) h1
    · cases h
      have hz0 := hz ⟨fun _ => 0, fun _ => default, fun _ => [], fun _ => default⟩ (fun _ => .no)
      have h1 : zv.length = 1 := by have := hz0.length; simpa [clen] using this.symm
      refine blob (.str 65536) (fun v hv => ?_) h1
      cases zv with
      | nil => cases hv
      | cons a r =>
        have hr : r = [] := List.length_eq_zero_iff.1 (by simpa using h1)
        subst hr
        simp only [List.mem_singleton] at hv
        subst hv
        refine ⟨bsOf [], hz0.1.1, by simp⟩
    · cases h
      refine ⟨p, p.le_refl, hs, rfl, fun σ n hn η hη => ⟨?_, fun v hv => ?_⟩⟩
      · have : l.ev η.int = (n : Int) := hn η hη
        rw [Lin.ev_smul, this, repeatV_len, hes, Int.natCast_mul, Int.mul_comm]
      · exact DenL.one (hz η σ) v (repeatV_mem hv)
theorem makeSliceOp_sound {ty : Nat → Option TI} (hT : TyOk P ty) {t : TypeId} {st : St} {len cap : AV} {us : List Upd} (h : makeSliceOp st ty t len cap = .ok us) {p : Pt} (hs : Sat p st.ctx) (h8 : 8 ≤ st.nb) :
    ∃ u ∈ us, ∃ q, p.le q ∧ Sat q u.ctx ∧ ∀ σ w lv cv, (p.All fun η => DenV η σ len lv) → (p.All fun η => DenV η σ cap cv) → RelH p σ st.heap st.nb w →
      ∃ v w', (Instr.makeSlice t lv cv).run P w = .ok v w' ∧ Goes q st.nb σ st.heap w u v w' := by
  unfold makeSliceOp at h
  split at h
  · rename_i e _ _ kl l kc c hti
    have hd := hT.desc _ _ hti
    split at h
    · rename_i ei hei
      obtain ⟨hb, h⟩ := bif_ok h
      simp only [Bool.and_eq_true] at hb
      obtain ⟨z, hz, h⟩ := R.bind_ok h
      obtain ⟨⟨y, Ψ⟩, hy, h⟩ := R.bind_ok h
      cases h
      obtain ⟨i, zv, hi, hsz, hby, hiz, hzs, cs, hcs, hzd⟩ := zeroSize_sound hT hei hb.2
      rw [hz] at hcs; cases hcs
      obtain ⟨q, hq, hsq, hyt, hY⟩ := madeBlk_sound hs hy hzd (by simpa using hzs)
      refine ⟨_, List.mem_singleton.2 rfl, q, hq, hsq, fun σ w lv cv hlv hcv hR => ?_⟩
      obtain ⟨l', rfl, hkl, hl'⟩ := den_int hlv
      obtain ⟨c', rfl, hkc, hc'⟩ := den_int hcv
      have h1 := Ctx.ge0_sound hs.says hb.1.1.1
      have h2 := Ctx.ge0_sound hs.says hb.1.1.2
      have e1 : l.ev p.η.int = l' := hl'.self
      have e2 : c.ev p.η.int = c' := hc'.self
      simp only [Lin.ev_sub, e1, e2] at h1 h2
      obtain ⟨hb1, hb2, hb3⟩ := roomA_sound (m := c'.toNat) hs.says hb.1.2 (by rw [e2]; omega)
      have hbb : (i.bytes : Int) * c' ≤ 281474976710656 := by
        rw [hby]
        have : ((c'.toNat * ei.bytes : Nat) : Int) = (ei.bytes : Int) * c' := by rw [Int.natCast_mul, Int.mul_comm]; congr 1; omega
        omega
      have hc63 : c' ≤ 9223372036854775807 := by
        have : c'.toNat ≤ c'.toNat * ei.bytes := Nat.le_mul_of_pos_right _ hb1
        omega
      have hrun := run_make (P := P) w t e i zv hd hi hiz kl kc l' c' h1 (by omega) hbb hc63
      have hrows : (madeCells zv.cells (c'.toNat * i.size)).toList = repeatV c'.toNat zv.cells.toList := by
        rw [hsz, ← hzs]; exact madeCells_repeat _ _
      obtain ⟨more, hmore⟩ := repeatV_more zv.cells.toList (show l'.toNat ≤ c'.toNat by omega)
      have hobj : (Obj.cells (madeCells zv.cells (c'.toNat * i.size)) e : Obj) = .cells ⟨repeatV l'.toNat zv.cells.toList ++ more⟩ e := by
        rw [← hmore, ← hrows]
      rw [hobj] at hrun
      have hlz : zv.cells.toList.length = ei.size := by simpa using hzs
      have hlen : (repeatV l'.toNat zv.cells.toList ++ more).length = c'.toNat * ei.size := by rw [← hmore, repeatV_len, hlz]
      refine ⟨_, _, hrun, newRow_goes hq h8 rfl ⟨rfl, rfl, rfl⟩ hR hyt (hY _ l'.toNat fun η hη => ?_) fun η hη => ?_⟩
      · have : l.ev η.int = l' := hl' η hη
        dsimp only; rw [this]; omega
      · have : l.ev η.int = l' := hl'.mono hq η hη
        refine .inr ⟨w.heap.size, _, 0, l'.toNat, c'.toNat, Sig.at1_self _ _ _ _, by rw [this]; omega, by omega, .inr ⟨by simp, ?_⟩, rfl⟩
        rw [hlen]; omega
    · cases h
  · cases h
theorem buildSliceOp_sound {ty : Nat → Option TI} (hT : TyOk P ty) {t : TypeId} {n : Nat} {st : St} {parts : List (Nat × AV)} {us : List Upd} (h : buildSliceOp st ty t n parts = .ok us) {p : Pt} (hs : Sat p st.ctx) (h8 : 8 ≤ st.nb) :
    ∃ u ∈ us, ∃ q, p.le q ∧ Sat q u.ctx ∧ ∀ σ w (vs : Array (Nat × Value)), (p.All fun η => PartsD η σ parts vs.toList) → RelH p σ st.heap st.nb w →
      ∃ v w', (Instr.buildSlice t n vs).run P w = .ok v w' ∧ Goes q st.nb σ st.heap w u v w' := by
  unfold buildSliceOp at h
  split at h
  · rename_i e _ _ hti
    have hd := hT.desc _ _ hti
    split at h
    · rename_i ei hei
      obtain ⟨hb, h⟩ := bif_ok h
      simp only [Bool.and_eq_true, ble_iff] at hb
      obtain ⟨z, hz, h⟩ := R.bind_ok h
      obtain ⟨cs, hcs, h⟩ := R.bind_ok h
      cases h
      obtain ⟨i, zv, hi, hsz, hby, hiz, hzs, cs', hcs', hzd⟩ := zeroSize_sound hT hei hb.2
      rw [hz] at hcs'; cases hcs'
      refine ⟨_, List.mem_singleton.2 rfl, p, p.le_refl, hs, fun σ w vs hp hR => ?_⟩
      have hX : p.All fun η => DenL η σ (repeatL n z) (madeCells zv.cells (n * ei.size)).toList := fun η _ => by
        rw [← hzs, madeCells_repeat]
        exact repeatL_den (hzd η σ) n
      obtain ⟨Y, hY, hYs, hYd⟩ := fillA_sound (fun _ => rfl) hcs hp hX
      have hrun : (Instr.buildSlice t n vs).run P w = .ok (.slice (some ⟨w.heap.size, 0, none⟩) n n) (wnew w (.cells ⟨Y.toList ++ []⟩ e)) := by
        have h24 : ¬ (16777216 < n * ei.size) := by omega
        have hobj : (Obj.cells ⟨Y.toList ++ []⟩ e : Obj) = .cells Y e := by simp
        rw [hobj]
        by_cases h0 : n * ei.size = 0
        · rw [h0] at hY
          have hm : madeCells zv.cells 0 = #[] := by simp [madeCells]
          rw [hm] at hY
          simp only [Instr.buildSlice, Sem.run_bind, run_underlying hd, Result.andThen_ok, hT.run_size hei]
          have hr : ∀ f : Nat → Value, (Array.range 0).map f = #[] := fun f => by simp [Array.range]
          simp [h0, hr, hY, newRow]
          rfl
        · simp only [Instr.buildSlice, Sem.run_bind, run_underlying hd, Result.andThen_ok, hT.run_size hei]
          simp only [madeCells] at hY
          simp [h24, h0, zeroValue, typeInfo, hi, hiz, hY, newRow]
          rfl
      refine ⟨_, _, hrun, newRow_goes p.le_refl h8 rfl ⟨rfl, rfl, rfl⟩ hR (y := .cells e cs) rfl (vs := Y.toList) (more := []) (fun η hη => ?_) fun η _ => ?_⟩
      · exact DenL.ext (Sig.at1_ext (hR.full _ (Nat.le_refl _))) (hYd η hη)
      · refine .inr ⟨w.heap.size, _, 0, n, n, Sig.at1_self _ _ _ _, by simp, Nat.le_refl _, .inr ⟨by simp, ?_⟩, rfl⟩
        have : Y.toList.length = n * ei.size := by rw [Array.length_toList, hYs, size_madeCells]
        simp [this]
    · cases h
  · cases h
end
end Go.Hal
namespace Go.Hal
noncomputable section
open Go
variable {P : Program}

/-! Bounds. -/
def OptD (η : Va) (σ : Sig) : Option AV → Option Value → Prop
  | none, none => True
  | some a, some v => DenV η σ a v
  | _, _ => False
theorem optInt_sound {o : Option AV} {d e : Lin} (h : optInt o d = .ok e) {p : Pt} {σ : Sig} {v : Option Value} (hd : p.All fun η => OptD η σ o v) : (v = none ∧ e = d) ∨ ∃ k x, v = some (.int k x) ∧ p.All fun η => e.ev η.int = x := by
  cases o with
  | none =>
    cases h
    have := hd.self
    cases v with
    | none => exact .inl ⟨rfl, rfl⟩
    | some v => exact this.elim
  | some a =>
    have h0 := hd.self
    cases v with
    | none => exact h0.elim
    | some v =>
      unfold optInt at h
      split at h
      · rename_i he; cases he
      · rename_i k e' he
        cases he
        cases h
        obtain ⟨x, rfl, _, hx⟩ := den_int (p := p) (σ := σ) (v := v) hd
        exact .inr ⟨k, x, rfl, hx⟩
      · cases h
theorem run_bounds (isSlice : Bool) {len cap l h : Nat} {lo hi : Option Value} (hl : (lo = none ∧ l = 0) ∨ ∃ k, lo = some (.int k l)) (hh : (hi = none ∧ h = len) ∨ ∃ k, hi = some (.int k h)) (h1 : l ≤ h) (h2 : h ≤ cap) (w : World) :
    (Instr.sliceBounds isSlice len cap lo hi none).run P w = .ok (l, h, cap) w := by
  rcases hl with ⟨rfl, rfl⟩ | ⟨k, rfl⟩ <;> rcases hh with ⟨rfl, rfl⟩ | ⟨k', rfl⟩ <;> simp [Instr.sliceBounds, Instr.sliceBound, asIntOf, h1, h2]
/-- a slice's bounds, as the operation takes them -/
theorem bounds_sound {lo hi : Option AV} {dl dh l h : Lin} (hl : optInt lo dl = .ok l) (hh : optInt hi dh = .ok h) {p : Pt} {Φ : Ctx} (hs : Sat p Φ) {n : Lin} (hb : inBounds Φ l h n = true) {σ : Sig} {lv hv : Option Value} (hdl : p.All fun η => OptD η σ lo lv) (hdh : p.All fun η => OptD η σ hi hv)
    {N : Nat} (hn : p.All fun η => n.ev η.int = (N : Int)) (hd0 : dl = .k 0) (hdn : dh = n) :
    ∃ a b : Nat, (p.All fun η => l.ev η.int = (a : Int)) ∧ (p.All fun η => h.ev η.int = (b : Int)) ∧ a ≤ b ∧ b ≤ N ∧ ((lv = none ∧ a = 0) ∨ ∃ k, lv = some (.int k a)) ∧ ((hv = none ∧ b = N) ∨ ∃ k, hv = some (.int k b)) := by
  simp only [inBounds, Bool.and_eq_true] at hb
  have h1 := Ctx.ge0_sound hs.says hb.1.1
  have h2 := Ctx.ge0_sound hs.says hb.1.2
  have h3 := Ctx.ge0_sound hs.says hb.2
  simp only [Lin.ev_sub] at h1 h2 h3
  have hnn := hn.self
  have el : ∃ a : Nat, (p.All fun η => l.ev η.int = (a : Int)) ∧ ((lv = none ∧ a = 0) ∨ ∃ k, lv = some (.int k a)) := by
    rcases optInt_sound hl hdl with ⟨rfl, rfl⟩ | ⟨k, x, rfl, hx⟩
    · exact ⟨0, fun η _ => by rw [hd0]; simp, .inl ⟨rfl, rfl⟩⟩
    · have hx0 : l.ev p.η.int = x := hx.self
      have e0 : x = (x.toNat : Int) := by omega
      exact ⟨x.toNat, fun η hη => by rw [← e0]; exact hx η hη, .inr ⟨k, by rw [← e0]⟩⟩
  have eh : ∃ b : Nat, (p.All fun η => h.ev η.int = (b : Int)) ∧ ((hv = none ∧ b = N) ∨ ∃ k, hv = some (.int k b)) := by
    rcases optInt_sound hh hdh with ⟨rfl, rfl⟩ | ⟨k, x, rfl, hx⟩
    · exact ⟨N, fun η hη => by rw [hdn]; exact hn η hη, .inl ⟨rfl, rfl⟩⟩
    · have hx0 : h.ev p.η.int = x := hx.self
      have e0 : x = (x.toNat : Int) := by omega
      exact ⟨x.toNat, fun η hη => by rw [← e0]; exact hx η hη, .inr ⟨k, by rw [← e0]⟩⟩
  obtain ⟨a, ha, ha'⟩ := el
  obtain ⟨b, hb', hb''⟩ := eh
  have e1 := ha.self
  have e2 := hb'.self
  exact ⟨a, b, ha, hb', by omega, by omega, ha', hb''⟩
theorem blkLen_le {p : Pt} {σ : Sig} {w : World} {x : ABlk} {m : Lin} (hm : blkLen x = some m) {c N : Nat} (h : p.All fun η => BlkD η σ w x (.at_ c N)) : p.All fun η => m.ev η.int ≤ N := fun η hη => by
  have := h η hη
  cases x <;> simp only [blkLen, Option.some.injEq] at hm <;> first | (cases hm; done) | skip
  · subst hm
    obtain ⟨vs, more, _, hn, hd⟩ := this
    dsimp only
    rw [Lin.ev_k, hd.length, ← hn]
    simp; omega
  · subst hm
    obtain ⟨vs, more, _, hn, _, hd, _⟩ := this
    dsimp only
    rw [hd, ← hn]
    simp; omega
  · subst hm
    obtain ⟨vs, more, _, hn, hd, _⟩ := this
    dsimp only
    rw [hd, ← hn]
    simp; omega
theorem bsOf_extract (l : List Nat) (a b : Nat) : (bsOf l).extract a b = bsOf ((l.take b).drop a) := by
  apply ByteArray.ext
  simp only [ByteArray.data_extract, bsOf]
  apply Array.ext'
  simp [List.map_drop, List.map_take, List.take_drop]
  by_cases h : a ≤ b
  · congr 2; omega
  · rw [List.drop_eq_nil_of_le (by simp; omega), List.drop_eq_nil_of_le (by simp; omega)]
theorem strSlice_sound {p : Pt} {Φ : Ctx} (hs : Sat p Φ) (s : AStr) (l h : Lin) :
    ∃ q, p.le q ∧ Sat q (strSlice Φ s l h).2 ∧ ∀ σ (x : ByteArray) (a b : Nat), (p.All fun η => s.ev η = x) → (p.All fun η => l.ev η.int = (a : Int)) → (p.All fun η => h.ev η.int = (b : Int)) → a ≤ b → b ≤ x.size → q.All fun η => Den η σ (strSlice Φ s l h).1 (.string (x.extract a b)) := by
  unfold strSlice
  split
  · rename_i xs a b
    refine ⟨p, p.le_refl, hs, fun σ x a' b' hx ha hb _ _ η _ => ?_⟩
    have e1 : a = a' := by have := ha.self; simp [Lin.ev, Lin.evTs] at this; omega
    have e2 : b = b' := by have := hb.self; simp [Lin.ev, Lin.evTs] at this; omega
    have e3 : bsOf xs = x := hx.self
    subst e1; subst e2; subst e3
    rw [bsOf_extract]
    exact ⟨rfl, slen_lit _ _⟩
  · obtain ⟨q, hq, hsq, hx⟩ := newStr_sound hs (Φ.norm (h.sub l)) ((s.ev p.η).extract (l.ev p.η.int).toNat (h.ev p.η.int).toNat)
    refine ⟨q, hq, hsq, fun σ x a b hx' ha hb hab hbx => ?_⟩
    have e1 : (l.ev p.η.int).toNat = a := by have := ha.self; omega
    have e2 : (h.ev p.η.int).toNat = b := by have := hb.self; omega
    have e3 : s.ev p.η = x := hx'.self
    rw [e1, e2, e3] at hx
    refine hx (fun η hη => ?_) σ
    have e4 : l.ev η.int = (a : Int) := ha η hη
    have e5 : h.ev η.int = (b : Int) := hb η hη
    dsimp only
    rw [Ctx.norm_ev (hs.2 η hη), Lin.ev_sub, e4, e5, ByteArray.size_extract]
    omega
theorem sliceOp_sound {ty : Nat → Option TI} (hT : TyOk P ty) {t : TypeId} {st : St} {x : AV} {lo hi mx : Option AV} {us : List Upd} (h : sliceOp st ty t x lo hi mx = .ok us) {p : Pt} (hs : Sat p st.ctx) :
    ∃ u ∈ us, ∃ q, p.le q ∧ Sat q u.ctx ∧ u.heap = st.heap ∧ u.nb = st.nb ∧ ∀ σ w a lv hv mv, (p.All fun η => DenV η σ x a) → (p.All fun η => OptD η σ lo lv) → (p.All fun η => OptD η σ hi hv) → (p.All fun η => OptD η σ mx mv) → RelH p σ st.heap st.nb w →
      ∃ v, (Instr.sliceAt t a lv hv mv).run P w = .ok v w ∧ q.All fun η => DenV η σ u.val v := by
  unfold sliceOp at h
  split at h
  · rename_i ti hti
    have hd := hT.desc _ _ hti
    have nomax : ∀ {p : Pt} {σ : Sig} {mv : Option Value}, (p.All fun η => OptD η σ none mv) → mv = none := fun h => by
      have := h.self
      revert this
      rename_i mv
      cases mv
      · intro _; rfl
      · intro h; exact h.elim
    split at h
    · rename_i s hdd
      rw [hdd] at hd
      obtain ⟨hh, hhh, h⟩ := R.bind_ok h
      obtain ⟨l, hl, h⟩ := R.bind_ok h
      obtain ⟨hb, h⟩ := bif_ok h
      cases h
      obtain ⟨q, hq, hsq, hx⟩ := strSlice_sound hs s l hh
      refine ⟨_, List.mem_singleton.2 rfl, q, hq, hsq, rfl, rfl, fun σ w a lv hv mv ha hlv hhv hmv hR => ?_⟩
      have := nomax hmv
      subst this
      obtain ⟨a', rfl, ha'⟩ := den_str ha
      obtain ⟨i, j, hi', hj, hij, hjn, e1, e2⟩ := bounds_sound hl hhh hs hb hlv hhv (N := a'.size) (fun η hη => (ha' η hη).2) rfl rfl
      refine ⟨.string (a'.extract i j), ?_, (hx σ a' i j (ha'.imp fun η h => h.1) hi' hj hij hjn).imp fun η h => DenV.of h⟩
      simp [Instr.sliceAt, Instr.slice, run_underlying hd, run_bounds false e1 e2 hij hjn]
    · rename_i e b off len es hdd
      rw [hdd] at hd
      obtain ⟨hh, hhh, h⟩ := R.bind_ok h
      obtain ⟨l, hl, h⟩ := R.bind_ok h
      split at h
      · rename_i ei hei
        obtain ⟨hb, h⟩ := bif_ok h
        cases h
        simp only [Bool.and_eq_true, beq_iff] at hb
        refine ⟨_, List.mem_singleton.2 rfl, p, p.le_refl, hs, rfl, rfl, fun σ w a lv hv mv ha hlv hhv hmv hR => ?_⟩
        have := nomax hmv
        subst this
        rcases den_slice (ha.imp fun η h => DenV.un rfl h) with ⟨rfl, hσ, hl0⟩ | ⟨c, N, o, ln, cap, rfl, hσ, hl0, hlc, hoff⟩
        · obtain ⟨i, j, hi', hj, hij, hjn, e1, e2⟩ := bounds_sound hl hhh hs hb.2 hlv hhv (N := 0) hl0 rfl rfl
          have hj0 : j = 0 := by omega
          have hi0 : i = 0 := by omega
          subst hj0; subst hi0
          refine ⟨.slice none 0 0, ?_, fun η hη => .inl ⟨hσ, ?_, rfl⟩⟩
          · simp [Instr.sliceAt, Instr.slice, run_underlying hd, run_bounds true e1 e2 hij hjn, hT.run_size hei]
          · have h1 : l.ev η.int = _ := hi' η hη
            have h2 : hh.ev η.int = _ := hj η hη
            rw [Ctx.norm_ev (hs.2 η hη), Lin.ev_sub, h1, h2]; simp
        · obtain ⟨i, j, hi', hj, hij, hjn, e1, e2⟩ := bounds_sound hl hhh hs hb.2 hlv hhv (N := ln) hl0 rfl rfl
          refine ⟨.slice (some (if cap = i then ⟨c, o, none⟩ else (⟨c, o, none⟩ : Addr).add (i * ei.size))) (j - i) (cap - i), ?_, fun η hη => ?_⟩
          · simp [Instr.sliceAt, Instr.slice, run_underlying hd, run_bounds true e1 e2 hij (show j ≤ cap by omega), hT.run_size hei]
            split <;> rfl
          · have h1 : l.ev η.int = _ := hi' η hη
            have h2 : hh.ev η.int = _ := hj η hη
            refine .inr ⟨c, N, if cap = i then o else o + i * ei.size, j - i, cap - i, hσ, ?_, by omega, ?_, ?_⟩
            · rw [Ctx.norm_ev (hs.2 η hη), Lin.ev_sub, h1, h2]; omega
            · by_cases hci : cap = i
              · exact .inl (by omega)
              · have hc0 : cap ≠ 0 := by omega
                obtain ⟨ho, hN⟩ := hoff.resolve_left hc0
                refine .inr ⟨?_, ?_⟩
                · have h3 : off.ev η.int = (o : Int) := ho η hη
                  rw [if_neg hci, Lin.ev_add, Lin.ev_smul, h1, h3, ← hb.1]
                  simp [Int.mul_comm]
                · rw [if_neg hci, ← hb.1]
                  rw [← hb.1] at hN
                  have : i * ei.size + (cap - i) * ei.size = cap * ei.size := by rw [← Nat.add_mul]; congr 1; omega
                  omega
            · by_cases hci : cap = i
              · simp [hci]
              · simp only [hci, if_false, add_addr]
      · cases h
    · rename_i e hdd
      rw [hdd] at hd
      obtain ⟨hh, hhh, h⟩ := R.bind_ok h
      obtain ⟨l, hl, h⟩ := R.bind_ok h
      split at h
      · rename_i ei hei
        obtain ⟨hb, h⟩ := bif_ok h
        cases h
        simp only [Bool.and_eq_true] at hb
        have h1 := Ctx.eq0_sound hs.says hb.1
        have h2 := Ctx.eq0_sound hs.says hb.2
        refine ⟨_, List.mem_singleton.2 rfl, p, p.le_refl, hs, rfl, rfl, fun σ w a lv hv mv ha hlv hhv hmv hR => ?_⟩
        have := nomax hmv
        subst this
        have ha0 : a = .slice none 0 0 := ha.self
        subst ha0
        have e1 : (lv = none ∧ (0 : Nat) = 0) ∨ ∃ k, lv = some (.int k ((0 : Nat) : Int)) := by
          rcases optInt_sound hl hlv with ⟨rfl, _⟩ | ⟨k, x, rfl, hx⟩
          · exact .inl ⟨rfl, rfl⟩
          · have : l.ev p.η.int = x := hx.self
            exact .inr ⟨k, by rw [← this, h2]; rfl⟩
        have e2 : (hv = none ∧ (0 : Nat) = 0) ∨ ∃ k, hv = some (.int k ((0 : Nat) : Int)) := by
          rcases optInt_sound hhh hhv with ⟨rfl, _⟩ | ⟨k, x, rfl, hx⟩
          · exact .inl ⟨rfl, rfl⟩
          · have : hh.ev p.η.int = x := hx.self
            exact .inr ⟨k, by rw [← this, h1]; rfl⟩
        refine ⟨.slice none 0 0, ?_, fun η hη => rfl⟩
        simp [Instr.sliceAt, Instr.slice, run_underlying hd, run_bounds true e1 e2 (Nat.le_refl _) (Nat.le_refl _), hT.run_size hei]
      · cases h
    · rename_i n e b off hdd
      rw [hdd] at hd
      obtain ⟨hh, hhh, h⟩ := R.bind_ok h
      obtain ⟨l, hl, h⟩ := R.bind_ok h
      split at h
      · rename_i ei m hei hm
        obtain ⟨hb, h⟩ := bif_ok h
        cases h
        simp only [Bool.and_eq_true] at hb
        refine ⟨_, List.mem_singleton.2 rfl, p, p.le_refl, hs, rfl, rfl, fun σ w a lv hv mv ha hlv hhv hmv hR => ?_⟩
        have := nomax hmv
        subst this
        obtain ⟨c, N, o, hσ, rfl, ho⟩ := ptr_fix ha
        obtain ⟨i, j, hi', hj, hij, hjn, e1, e2⟩ := bounds_sound hl hhh hs hb.1.1 hlv hhv (N := n) (fun η _ => Lin.ev_k _ _) rfl rfl
        have hB := hR.rel b
        rw [hσ] at hB
        have hle := (blkLen_le hm hB).self
        have h3 := Ctx.ge0_sound hs.says hb.2
        have h4 := ho.self
        simp only [Lin.ev_addc, Lin.ev_sub] at h3
        refine ⟨.slice (some (if n = i then ⟨c, o, none⟩ else (⟨c, o, none⟩ : Addr).add (i * ei.size))) (j - i) (n - i), ?_, fun η hη => ?_⟩
        · simp [Instr.sliceAt, Instr.sureAddr, run_underlying hd, run_bounds false e1 e2 hij hjn, hT.run_size hei]
        · have h1 : l.ev η.int = _ := hi' η hη
          have h2 : hh.ev η.int = _ := hj η hη
          have h5 : off.ev η.int = _ := ho η hη
          refine .inr ⟨c, N, if n = i then o else o + i * ei.size, j - i, n - i, hσ, by rw [Lin.ev_sub, h1, h2]; omega, by omega, ?_, ?_⟩
          · by_cases hni : n = i
            · exact .inl (by omega)
            · refine .inr ⟨by rw [if_neg hni, Lin.ev_add, Lin.ev_smul, h1, h5]; simp [Int.mul_comm], ?_⟩
              rw [if_neg hni]
              have : i * ei.size + (n - i) * ei.size = n * ei.size := by rw [← Nat.add_mul]; congr 1; omega
              omega
          · by_cases hni : n = i
            · simp [hni]
            · simp only [hni, if_false, add_addr]
      · cases h
    · cases h
  · cases h
end
end Go.Hal
namespace Go.Hal
noncomputable section
open Go
variable {P : Program}

/-- an operation that leaves the heap as it is, and looks at it -/
def StillH (p : Pt) (st : St) (us : List Upd) (K : Pt → AV → Sig → World → Prop) : Prop :=
  ∃ u ∈ us, ∃ q, p.le q ∧ Sat q u.ctx ∧ u.heap = st.heap ∧ u.nb = st.nb ∧ ∀ σ w, RelH p σ st.heap st.nb w → K q u.val σ w
theorem StillH.one {p : Pt} {st : St} {v : AV} {us : List Upd} {K : Pt → AV → Sig → World → Prop} (hs : Sat p st.ctx) (h : one st v = .ok us) (hk : ∀ σ w, RelH p σ st.heap st.nb w → K p v σ w) : StillH p st us K := by
  cases h
  exact ⟨_, List.mem_singleton.2 rfl, p, p.le_refl, hs, rfl, rfl, hk⟩
theorem updsOf_mem {st : St} : ∀ {l : List (AV × Ctx)} {u : AV × Ctx}, u ∈ l → (⟨u.2, u.1, st.heap, st.nb⟩ : Upd) ∈ updsOf st l
  | (v, Φ) :: r, u, h => by
    rcases List.mem_cons.1 h with rfl | h
    · exact List.mem_cons_self
    · exact List.mem_cons_of_mem _ (updsOf_mem h)
theorem fieldAddrOp_sound {ty : Nat → Option TI} (hT : TyOk P ty) {t : TypeId} {st : St} {x : AV} {i : Nat} {us : List Upd} (h : fieldAddrOp st ty t x i = .ok us) {p : Pt} (hs : Sat p st.ctx) :
    StillH p st us fun q val σ w => ∀ a, (p.All fun η => DenV η σ x a) → ∃ v, (Instr.fieldAt t a i).run P w = .ok v w ∧ q.All fun η => DenV η σ val v := by
  unfold fieldAddrOp at h
  split at h
  · rename_i fs _ _ b off hti
    have hd := hT.desc _ _ hti
    split at h
    · rename_i f hf
      split at h
      · rename_i fi hfi
        obtain ⟨hz, h⟩ := bif_no h
        have hz' : fi.size ≠ 0 := fun e => by rw [(beq_iff _ _).2 e] at hz; cases hz
        refine StillH.one hs h fun σ w _ a ha => ?_
        obtain ⟨c, N, o, hσ, rfl, ho⟩ := ptr_fix ha
        refine ⟨.pointer (some ⟨c, o + f.offset, none⟩), ?_, fun η hη => ⟨c, N, o + f.offset, hσ, ?_, rfl⟩⟩
        · have hf' : fs[i]? = some f := by simpa using hf
          simp [Instr.fieldAt, run_underlying hd, hf', Instr.sureAddr, fieldPlace, hT.run_size hfi, hz', add_addr]
        · have : off.ev η.int = (o : Int) := ho η hη
          rw [Lin.ev_addc, this]; simp
      · cases h
    · cases h
  · cases h
theorem partA_sound {ty : Nat → Option TI} (hT : TyOk P ty) {t : TypeId} {ti : TI} (hti : ty t = some ti) {cs : List SV} {off : Nat} {v : AV} (h : partA ti cs off = .ok v) {p : Pt} {σ : Sig} {vs : List Value} (hd : p.All fun η => DenL η σ cs vs) (w : World) :
    ∃ x, (part t ⟨vs⟩ off).run P w = .ok x w ∧ p.All fun η => DenV η σ v x := by
  unfold partA at h
  split at h
  · rename_i l hl
    cases ha : isAggD ti.desc
    · rw [ha] at h
      simp only [cond_false] at h
      split at h
      · rename_i s
        cases h
        have hlen : ti.size = 1 ∧ off + 1 ≤ vs.length := by
          rcases cpart_sound hl hd.self with ⟨h1, h2, _⟩ | ⟨_, h2⟩
          · simp at h2; omega
          · cases h2
        have hlt : off < vs.length := by omega
        refine ⟨vs[off], ?_, fun η hη => ?_⟩
        · simp [part, hT.run_isAgg hti, ha, List.getElem?_eq_getElem hlt]
        · rcases cpart_sound hl (hd η hη) with ⟨_, _, h3⟩ | ⟨_, h2⟩
          · rw [hlen.1] at h3
            have : (vs.drop off).take 1 = [vs[off]] := by
              rw [List.take_one, List.head?_drop, List.getElem?_eq_getElem hlt]; rfl
            rw [this] at h3
            exact DenV.of h3.1
          · cases h2
      · cases h
    · rw [ha] at h
      simp only [cond_true] at h
      cases h
      refine ⟨.agg ⟨(vs.drop off).take ti.size⟩, ?_, fun η hη => ⟨_, rfl, ?_⟩⟩
      · simp only [part, Sem.run_bind, hT.run_isAgg hti, ha, Result.andThen_ok, if_true, hT.run_size hti, Sem.run_pure, Result.ok.injEq, and_true, Value.agg.injEq]
        apply Array.ext'
        simp
      · rcases cpart_sound hl (hd η hη) with ⟨_, _, h3⟩ | ⟨h1, rfl⟩
        · exact h3
        · rw [h1]; simp [DenL]
  · cases h
theorem agg_fix {p : Pt} {σ : Sig} {cs : List SV} {a : Value} (h : p.All fun η => DenV η σ (.agg cs) a) : ∃ vs, a = .agg ⟨vs⟩ ∧ p.All fun η => DenL η σ cs vs := by
  obtain ⟨vs, rfl, _⟩ := h.self
  refine ⟨vs, rfl, fun η hη => ?_⟩
  obtain ⟨vs', h1, h2⟩ := h η hη
  simp only [Value.agg.injEq, Array.mk.injEq] at h1
  rw [h1]; exact h2
theorem fieldOp_sound {ty : Nat → Option TI} (hT : TyOk P ty) {t : TypeId} {st : St} {x : AV} {i : Nat} {us : List Upd} (h : fieldOp st ty t x i = .ok us) {p : Pt} (hs : Sat p st.ctx) :
    StillH p st us fun q val σ w => ∀ a, (p.All fun η => DenV η σ x a) → ∃ v, (Instr.field t a i).run P w = .ok v w ∧ q.All fun η => DenV η σ val v := by
  unfold fieldOp at h
  split at h
  · rename_i fs _ _ cs hti
    have hd := hT.desc _ _ hti
    split at h
    · rename_i f hf
      split at h
      · rename_i fi hfi
        obtain ⟨v, hv, h⟩ := R.bind_ok h
        refine StillH.one hs h fun σ w _ a ha => ?_
        obtain ⟨vs, rfl, hvs⟩ := agg_fix ha
        obtain ⟨x, hx, hxd⟩ := partA_sound hT hfi hv hvs w
        refine ⟨x, ?_, hxd⟩
        have hf' : fs[i]? = some f := by simpa using hf
        simp [Instr.field, run_underlying hd, hf', asAgg, hx]
      · cases h
    · cases h
  · cases h
theorem indexAddrOp_sound {ty : Nat → Option TI} (hT : TyOk P ty) {t : TypeId} {st : St} {x i : AV} {us : List Upd} (h : indexAddrOp st ty t x i = .ok us) {p : Pt} (hs : Sat p st.ctx) :
    StillH p st us fun q val σ w => ∀ a b, (p.All fun η => DenV η σ x a) → (p.All fun η => DenV η σ i b) → ∃ v, (Instr.indexAt t a b).run P w = .ok v w ∧ q.All fun η => DenV η σ val v := by
  unfold indexAddrOp at h
  split at h
  · rename_i n e _ _ b off k j hti
    have hd := hT.desc _ _ hti
    split at h
    · rename_i ei hei
      obtain ⟨hb, h⟩ := bif_ok h
      simp only [Bool.and_eq_true] at hb
      refine StillH.one hs h fun σ w _ a bv ha hbv => ?_
      obtain ⟨c, N, o, hσ, rfl, ho⟩ := ptr_fix ha
      obtain ⟨j', rfl, _, hj'⟩ := den_int hbv
      have h1 := Ctx.ge0_sound hs.says hb.1.1
      have h2 := Ctx.ge0_sound hs.says hb.1.2
      have e1 : j.ev p.η.int = j' := hj'.self
      simp only [Lin.ev_addc, Lin.ev_neg, e1] at h1 h2
      refine ⟨.pointer (some ⟨c, o + j'.toNat * ei.size, none⟩), ?_, fun η hη => ⟨c, N, o + j'.toNat * ei.size, hσ, ?_, rfl⟩⟩
      · have h3 : j' < (n : Int) := by omega
        simp [Instr.indexAt, asIntOf, run_underlying hd, Instr.sureAddr, h1, h3, hT.run_size hei, add_addr]
      · have e2 : off.ev η.int = (o : Int) := ho η hη
        have e3 : j.ev η.int = j' := hj' η hη
        rw [Lin.ev_add, Lin.ev_smul, e2, e3]
        have : ((j'.toNat : Nat) : Int) = j' := Int.toNat_of_nonneg h1
        simp [Int.natCast_mul, this, Int.mul_comm]
    · cases h
  · rename_i e _ _ b off len es k j hti
    have hd := hT.desc _ _ hti
    split at h
    · rename_i ei hei
      obtain ⟨hb, h⟩ := bif_ok h
      simp only [Bool.and_eq_true, beq_iff] at hb
      refine StillH.one hs h fun σ w _ a bv ha hbv => ?_
      obtain ⟨j', rfl, _, hj'⟩ := den_int hbv
      have h1 := Ctx.ge0_sound hs.says hb.1.2
      have h2 := Ctx.ge0_sound hs.says hb.2
      have e1 : j.ev p.η.int = j' := hj'.self
      simp only [Lin.ev_addc, Lin.ev_sub, e1] at h1 h2
      rcases den_slice (ha.imp fun η h => DenV.un rfl h) with ⟨rfl, hσ, hl0⟩ | ⟨c, N, o, ln, cap, rfl, hσ, hl0, hlc, hoff⟩
      · have := hl0.self; omega
      · have hl := hl0.self
        have hc0 : cap ≠ 0 := by omega
        obtain ⟨ho, _⟩ := hoff.resolve_left hc0
        have h3 : j' < (ln : Int) := by omega
        refine ⟨.pointer (some ⟨c, o + j'.toNat * ei.size, none⟩), ?_, fun η hη => ⟨c, N, o + j'.toNat * ei.size, hσ, ?_, rfl⟩⟩
        · simp [Instr.indexAt, asIntOf, run_underlying hd, h1, h3, hT.run_size hei, add_addr]
        · have e2 : off.ev η.int = (o : Int) := ho η hη
          have e3 : j.ev η.int = j' := hj' η hη
          rw [Lin.ev_add, Lin.ev_smul, e2, e3, ← hb.1.1]
          have : ((j'.toNat : Nat) : Int) = j' := Int.toNat_of_nonneg h1
          simp [Int.natCast_mul, this, Int.mul_comm]
    · cases h
  · cases h
theorem rangeL_sound : ∀ {l : List Nat} {a : Nat}, a ∈ l → (rangeL l).1 ≤ a % 256 ∧ a % 256 ≤ (rangeL l).2
  | b :: r, a, h => by
    have key : ∀ x y : Nat, (bif Nat.ble (b % 256) x then b % 256 else x) ≤ b % 256 ∧ (bif Nat.ble (b % 256) x then b % 256 else x) ≤ x ∧ b % 256 ≤ (bif Nat.ble y (b % 256) then b % 256 else y) ∧ y ≤ (bif Nat.ble y (b % 256) then b % 256 else y) := fun x y => by
      cases h1 : Nat.ble (b % 256) x <;> cases h2 : Nat.ble y (b % 256)
      all_goals
        simp only [cond_true, cond_false]
        have e1 : ¬ b % 256 ≤ x ∨ b % 256 ≤ x := by omega
        have h1' := ble_iff (b % 256) x
        have h2' := ble_iff y (b % 256)
        rw [h1] at h1'
        rw [h2] at h2'
        simp at h1' h2'
        omega
    obtain ⟨k1, k2, k3, k4⟩ := key (rangeL r).1 (rangeL r).2
    simp only [rangeL]
    rcases List.mem_cons.1 h with rfl | h
    · exact ⟨k1, k3⟩
    · obtain ⟨h1, h2⟩ := rangeL_sound h
      exact ⟨Nat.le_trans k2 h1, Nat.le_trans h2 k4⟩
theorem byte_get (s : ByteArray) (i : Nat) : (byteVals s)[i]? = (s[i]?).map fun b => Value.int .u8 (b.toNat : Int) := by
  simp only [byteVals, List.getElem?_map]
  congr 1
  rw [Array.getElem?_toList]
  show s.data[i]? = _
  by_cases h : i < s.size
  · rw [getElem?_pos s i h, Array.getElem?_eq_getElem (show i < s.data.size from h)]; rfl
  · rw [getElem?_neg s i h, Array.getElem?_eq_none (by show s.data.size ≤ i; exact Nat.le_of_not_lt h)]
theorem byteAt_sound {p : Pt} {Φ : Ctx} (hs : Sat p Φ) {s : AStr} {j : Lin} {r : SV × Ctx} (h : byteAt Φ s j = .ok r) (h0 : Φ.ge0 j = true) (h1 : Φ.ge0 (((slen s).sub j).addc (-1)) = true) :
    ∃ q, p.le q ∧ Sat q r.2 ∧ ∀ σ (x : ByteArray) (i : Int), (p.All fun η => s.ev η = x ∧ (slen s).ev η.int = (x.size : Int)) → (p.All fun η => j.ev η.int = i) → ∃ b, 0 ≤ i ∧ x[i.toNat]? = some b ∧ q.All fun η => Den η σ r.1 (.int .u8 (b.toNat : Int)) := by
  have e0 := Ctx.ge0_sound hs.says h0
  have e1 := Ctx.ge0_sound hs.says h1
  simp only [Lin.ev_addc, Lin.ev_sub] at e1
  have inx : ∀ (x : ByteArray) (i : Int), (p.All fun η => s.ev η = x ∧ (slen s).ev η.int = (x.size : Int)) → (p.All fun η => j.ev η.int = i) → 0 ≤ i ∧ i.toNat < x.size := fun x i hx hi => by
    have h2 := hx.self.2
    have h3 : j.ev p.η.int = i := hi.self
    omega
  have new : ∀ lo hi : Int, lo ≤ hi → 0 ≤ lo → hi ≤ 255 → (∀ (x : ByteArray) (i : Nat) b, (p.All fun η => s.ev η = x) → x[i]? = some b → lo ≤ (b.toNat : Int) ∧ (b.toNat : Int) ≤ hi) → ∃ q, p.le q ∧ Sat q (newInt Φ .u8 lo hi).2 ∧ ∀ σ (x : ByteArray) (i : Int), (p.All fun η => s.ev η = x ∧ (slen s).ev η.int = (x.size : Int)) → (p.All fun η => j.ev η.int = i) →
      ∃ b, 0 ≤ i ∧ x[i.toNat]? = some b ∧ q.All fun η => Den η σ (newInt Φ .u8 lo hi).1 (.int .u8 (b.toNat : Int)) := fun lo hi hlh hl hh hb => by
    obtain ⟨q, hq, hsq, hn⟩ := newInt_sound hs (k := .u8) hlh (((s.ev p.η)[(j.ev p.η.int).toNat]?).getD 0).toNat
    refine ⟨q, hq, hsq, fun σ x i hx hi => ?_⟩
    obtain ⟨i0, i1⟩ := inx x i hx hi
    have hx' : s.ev p.η = x := hx.self.1
    have hi' : j.ev p.η.int = i := hi.self
    refine ⟨x[i.toNat], i0, getElem?_pos x i.toNat i1, ?_⟩
    have hbb := hb x i.toNat x[i.toNat] (hx.imp fun η h => h.1) (getElem?_pos x i.toNat i1)
    rw [hx', hi', getElem?_pos x i.toNat i1, Option.getD_some] at hn
    exact hn hbb.1 hbb.2 ⟨by simp [kmin], by have := (x[i.toNat]).toNat_lt; simp [kmax]; omega⟩ σ
  have lit : ∀ (l : List Nat) (i : Nat) b, (bsOf l)[i]? = some b → ∃ c, l[i]? = some c ∧ b.toNat = c % 256 := fun l i b hb => by
    have := byte_get (bsOf l) i
    rw [hb] at this
    simp only [byteVals, bsOf, List.getElem?_map, Option.map_some] at this
    cases hc : l[i]? with
    | none => simp [hc] at this
    | some c =>
      refine ⟨c, rfl, ?_⟩
      simp [hc] at this
      omega
  unfold byteAt at h
  split at h
  · rename_i l o
    split at h
    · rename_i c hc
      cases h
      refine ⟨p, p.le_refl, hs, fun σ x i hx hi => ?_⟩
      obtain ⟨i0, i1⟩ := inx x i hx hi
      have hx' : bsOf l = x := hx.self.1
      have hi' : (o : Int) = i := by have := hi.self; simpa [Lin.ev, Lin.evTs] using this
      have hio : i.toNat = o := by omega
      refine ⟨x[i.toNat], i0, getElem?_pos x i.toNat i1, fun η _ => ?_⟩
      have hg := getElem?_pos x i.toNat i1
      obtain ⟨c', hc', hcb⟩ := lit l i.toNat x[i.toNat] (by rw [hx']; exact hg)
      rw [hio, ← lget_eq, hc] at hc'
      cases hc'
      refine ⟨?_, ?_⟩
      · rw [Lin.ev_k, hcb]
      · rw [Lin.ev_k]
        have : c % 256 < 256 := Nat.mod_lt _ (by omega)
        exact ⟨by simp [kmin]; omega, by simp [kmax]; omega⟩
    · cases h
  · rename_i l _
    cases h
    cases l with
    | nil => simp [slen, llen] at e1; omega
    | cons a r =>
      have hm := rangeL_sound (l := a :: r) (a := a) (by simp)
      have h255 : (rangeL (a :: r)).2 ≤ 255 := by
        have : ∀ l : List Nat, (rangeL l).2 ≤ 255 := fun l => by
          induction l with
          | nil => simp [rangeL]
          | cons b l ih =>
            simp only [rangeL]
            have : b % 256 < 256 := Nat.mod_lt _ (by omega)
            cases Nat.ble (rangeL l).2 (b % 256) <;> simp <;> omega
        exact this _
      refine new _ _ (by omega) (by omega) (by omega) fun x i b hx hb => ?_
      have hx' : bsOf (a :: r) = x := hx.self
      rw [← hx'] at hb
      obtain ⟨c, hc, hcb⟩ := lit _ i b hb
      obtain ⟨k1, k2⟩ := rangeL_sound (List.mem_of_getElem? hc)
      omega
  · cases h
    exact new 0 255 (by omega) (by omega) (by omega) fun x i b _ _ => by have := b.toNat_lt; omega
theorem indexOp_sound {ty : Nat → Option TI} (hT : TyOk P ty) {t : TypeId} {st : St} {x i : AV} {us : List Upd} (h : indexOp st ty t x i = .ok us) {p : Pt} (hs : Sat p st.ctx) :
    StillH p st us fun q val σ w => ∀ a b, (p.All fun η => DenV η σ x a) → (p.All fun η => DenV η σ i b) → ∃ v, (Instr.index t a b).run P w = .ok v w ∧ q.All fun η => DenV η σ val v := by
  unfold indexOp at h
  split at h
  · rename_i n e _ _ cs k j hti
    have hd := hT.desc _ _ hti
    split at h
    · rename_i ei hei
      obtain ⟨hb, h⟩ := bif_ok h
      simp only [Bool.and_eq_true] at hb
      have h1 := Ctx.ge0_sound hs.says hb.1
      have h2 := Ctx.ge0_sound hs.says hb.2
      simp only [Lin.ev_addc, Lin.ev_neg] at h2
      split at h
      · rename_i o _
        obtain ⟨v, hv, h⟩ := R.bind_ok h
        refine StillH.one hs h fun σ w _ a bv ha hbv => ?_
        obtain ⟨vs, rfl, hvs⟩ := agg_fix ha
        obtain ⟨j', rfl, _, hj'⟩ := den_int hbv
        have e1 : (o : Int) = j' := by have := hj'.self; simpa [Lin.ev, Lin.evTs] using this
        have e2 : (o : Int) < n := by simp [Lin.ev, Lin.evTs] at h2; omega
        obtain ⟨x, hx, hxd⟩ := partA_sound hT hei hv hvs w
        refine ⟨x, ?_, hxd⟩
        subst e1
        have e3 : o < n := by omega
        simp [Instr.index, asIntOf, run_underlying hd, e3, hT.run_size hei, hx]
      · obtain ⟨hz, h⟩ := bif_no h
        simp only [Bool.or_eq_false_iff, Bool.not_eq_false'] at hz
        obtain ⟨l, hl, h⟩ := R.bind_ok h
        obtain ⟨u, hu, q, hq, hsq, hx⟩ := cellAt_sound hs hl
        cases h
        refine ⟨_, updsOf_mem hu, q, hq, hsq, rfl, rfl, fun σ w _ a bv ha hbv => ?_⟩
        obtain ⟨vs, rfl, hvs⟩ := agg_fix ha
        obtain ⟨j', rfl, _, hj'⟩ := den_int hbv
        have e1 : j.ev p.η.int = j' := hj'.self
        rw [e1] at h1 h2
        have e0 : j' = (j'.toNat : Int) := by omega
        obtain ⟨v, hv, hvd⟩ := hx σ vs j'.toNat hvs (fun η hη => by rw [← e0]; exact hj' η hη)
        refine ⟨v, ?_, hvd⟩
        have e3 : j' < (n : Int) := by omega
        have hsz := (beq_iff _ _).1 hz.2
        simp [Instr.index, asIntOf, run_underlying hd, h1, e3, hT.run_size hei, part, hT.run_isAgg hei, hz.1, hsz, hv]
    · cases h
  · rename_i _ _ _ s k j hti
    have hd := hT.desc _ _ hti
    obtain ⟨hb, h⟩ := bif_ok h
    simp only [Bool.and_eq_true] at hb
    obtain ⟨r, hr, h⟩ := R.bind_ok h
    cases h
    obtain ⟨q, hq, hsq, hx⟩ := byteAt_sound hs hr hb.1 hb.2
    refine ⟨_, List.mem_singleton.2 rfl, q, hq, hsq, rfl, rfl, fun σ w _ a bv ha hbv => ?_⟩
    obtain ⟨a', rfl, ha'⟩ := den_str ha
    obtain ⟨j', rfl, _, hj'⟩ := den_int hbv
    obtain ⟨b, hb0, hb1, hb2⟩ := hx σ a' j' ha' hj'
    refine ⟨.int .u8 b.toNat, ?_, hb2.imp fun η h => DenV.of h⟩
    simp [Instr.index, asIntOf, run_underlying hd, hb0, hb1]
  · cases h
end
end Go.Hal
