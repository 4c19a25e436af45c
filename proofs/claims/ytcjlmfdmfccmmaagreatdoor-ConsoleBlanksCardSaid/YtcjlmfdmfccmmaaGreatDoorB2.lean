/- The analyser is sound, part 3. -/
import Derived.Test.YtcjlmfdmfccmmaaGreatDoorB1
import GoSem.Instr.MapUpdate
import GoSem.Instr.Range
import GoSem.Instr.Next
import Derived.Laws.RangeString
import Derived.Lib.Bytealg
import GoSem.Builtin.Max
import GoSem.Builtin.Min
import Derived.Test.YtcjlmfdmfccmmaaGreatDoorA
namespace Go.Hal
noncomputable section
open Go
variable {P : Program}

/-! Keys. -/
theorem run_checkKey_plain {kt : TypeId} {d : TypeDesc} (hd : P.underlying kt = some d) (hk : d = .string ∨ ∃ k, d = .int k) (em : Bool) (n : Nat) (v : Value) (w : World) : (Instr.checkKey em (n + 1) kt v).run P w = .ok () w := by
  rcases hk with rfl | ⟨k, rfl⟩ <;> simp [Instr.checkKey, run_underlying hd]
theorem beq_bytes (a b : ByteArray) : (a == b) = decide (a = b) := by
  rw [Bool.eq_iff_iff, decide_eq_true_iff]
  show (a.data == b.data) = true ↔ _
  rw [beq_iff_eq]
  exact ⟨fun h => ByteArray.ext h, fun h => by rw [h]⟩
/-- the first entry of a key, if there is one -/
theorem findNow_str {η : Va} {σ : Sig} {l : List Nat} : ∀ {es : List (List Nat × List SV)} {xs : List MapEntry} (i : Nat), DenE η σ es xs →
    match findLit l es with
    | some v => ∃ j vs, Instr.findNow .string (.string (bsOf l)) xs i = some (some (j, .agg ⟨vs⟩)) ∧ DenL η σ v vs
    | none => Instr.findNow .string (.string (bsOf l)) xs i = some none
  | [], [], i, _ => rfl
  | (k, v) :: es, e :: xs, i, h => by
    obtain ⟨⟨hk, vs, hv, hd⟩, h⟩ := h
    simp only [findLit]
    cases hl : leq k l
    · simp only [cond_false]
      have hne : ¬ bsOf l = bsOf k := fun e => by rw [leq_iff.2 e.symm] at hl; cases hl
      have hf : Instr.findNow .string (.string (bsOf l)) (e :: xs) i = Instr.findNow .string (.string (bsOf l)) xs (i + 1) := by
        simp [Instr.findNow, hk, Instr.sameNow, beq_bytes, hne]
      rw [hf]
      exact findNow_str (i + 1) h
    · simp only [cond_true]
      have he := leq_iff.1 hl
      exact ⟨i, vs, by simp [Instr.findNow, hk, Instr.sameNow, beq_bytes, he, hv], hd⟩
def findS (s : ByteArray) : List (List Nat × List SV) → Option (List Nat × List SV)
  | [] => none
  | (k, v) :: r => if bsOf k = s then some (k, v) else findS s r
theorem findS_mem {s : ByteArray} : ∀ {es : List (List Nat × List SV)} {k : List Nat} {v : List SV}, findS s es = some (k, v) → (k, v) ∈ es ∧ bsOf k = s
  | (j, u) :: es, k, v, h => by
    simp only [findS] at h
    split at h
    · rename_i hj; cases h; exact ⟨List.mem_cons_self, hj⟩
    · obtain ⟨h1, h2⟩ := findS_mem h
      exact ⟨List.mem_cons_of_mem _ h1, h2⟩
theorem findNow_s {η : Va} {σ : Sig} {s : ByteArray} : ∀ {es : List (List Nat × List SV)} {xs : List MapEntry} (i : Nat), DenE η σ es xs →
    match findS s es with
    | some (_, v) => ∃ j vs, Instr.findNow .string (.string s) xs i = some (some (j, .agg ⟨vs⟩)) ∧ DenL η σ v vs
    | none => Instr.findNow .string (.string s) xs i = some none
  | [], [], i, _ => rfl
  | (k, v) :: es, e :: xs, i, h => by
    obtain ⟨⟨hk, vs, hv, hd⟩, h⟩ := h
    simp only [findS]
    by_cases hs : bsOf k = s
    · simp only [hs, if_true]
      exact ⟨i, vs, by simp [Instr.findNow, hk, Instr.sameNow, beq_bytes, hs, hv], hd⟩
    · simp only [hs, if_false]
      have hs' : ¬ s = bsOf k := fun e => hs e.symm
      have hf : Instr.findNow .string (.string s) (e :: xs) i = Instr.findNow .string (.string s) xs (i + 1) := by
        simp [Instr.findNow, hk, Instr.sameNow, beq_bytes, hs']
      rw [hf]
      exact findNow_s (i + 1) h
theorem run_findKey_now {kt : TypeId} {d : TypeDesc} (hd : P.underlying kt = some d) {k : Value} {es : List MapEntry} {r : Option (Nat × Value)} (h : Instr.findNow d k es 0 = some r) (w : World) : (Instr.findKey kt k es).run P w = .ok r w := by
  simp [Instr.findKey, run_underlying hd, h]
def lookRes (ok : Bool) (z : Value) : Option (Nat × Value) → Value
  | some (_, v) => if ok then .tuple #[v, .bool true] else v
  | none => if ok then .tuple #[z, .bool false] else z
theorem run_lookup_now {t kt e : TypeId} {d : TypeDesc} (ht : P.underlying t = some (.map kt e)) (hd : P.underlying kt = some d) (hk : d = .string ∨ ∃ k, d = .int k) {c : Nat} {w : World} {es : Array MapEntry} {cl : Nat} (hc : w.heap[c]? = some (.map es cl)) {k : Value} {ok : Bool}
    {r : Option (Nat × Value)} (h : Instr.findNow d k es.toList 0 = some r) {z : Value} (hz : r = none → (zeroValue e).run P w = .ok z w) :
    (Instr.lookup t (.map (some c)) k ok).run P w = .ok (lookRes ok z r) w := by
  have hg : (getObj c).run P w = .ok (.map es cl) w := by simp [getObj, Sem.run, hc]
  simp only [Instr.lookup, Sem.run_bind, run_underlying ht, Result.andThen_ok, hg, run_checkKey_plain hd hk, run_findKey_now hd h, Sem.run_pure]
  cases r with
  | none => simp [hz rfl, lookRes]
  | some r => simp [lookRes]
theorem lookAns_den {η : Va} {σ : Sig} {ok found : Bool} {v : List SV} {vs : List Value} (h : DenL η σ v vs) : DenV η σ (lookAns ok v found) (if ok then .tuple #[.agg ⟨vs⟩, .bool found] else .agg ⟨vs⟩) := by
  cases ok
  · exact ⟨vs, rfl, h⟩
  · exact ⟨[.agg ⟨vs⟩, .bool found], rfl, ⟨vs, rfl, h⟩, ⟨_, rfl, rfl⟩, trivial⟩
theorem lookHits_mem {p : Pt} {Φ : Ctx} (hs : Sat p Φ) {ok : Bool} {n : Lin} (hl : n.lt Φ.n = true) {k : List Nat} {v : List SV} (hn : n.ev p.η.int = (llen k : Int)) : ∀ {es : List (List Nat × List SV)}, (k, v) ∈ es → ∃ Ψ, (lookAns ok v true, Ψ) ∈ lookHits Φ ok n es ∧ Sat p Ψ
  | (j, u) :: es, hm => by
    simp only [lookHits]
    rcases List.mem_cons.1 hm with hm | hm
    · cases hm
      have hc := Sat.int_ev hs.1 hl
      obtain ⟨Ψ, hΨ, hN, _⟩ := Ctx.assumeEq_sound hs.says (e := n.addc (-(llen k : Int))) (by simp [hn]; omega)
      have hall : p.All fun η => Ψ.Says η.int := fun η hη => by
        obtain ⟨Ω, hΩ, _, h2⟩ := Ctx.assumeEq_sound (hs.2 η hη) (e := n.addc (-(llen k : Int))) (by simp [hc η hη, hn]; omega)
        rw [hΨ] at hΩ; cases hΩ; exact h2
      exact ⟨Ψ, by rw [hΨ]; simp, hs.assume hN hall⟩
    · obtain ⟨Ψ, h1, h2⟩ := lookHits_mem hs hl hn hm
      refine ⟨Ψ, ?_, h2⟩
      split
      · exact List.mem_cons_of_mem _ h1
      · exact h1
theorem map_fix {p : Pt} {σ : Sig} {w : World} {es : List (List Nat × List SV)} {c n : Nat} (h : p.All fun η => BlkD η σ w (.mapk es) (.at_ c n)) : ∃ ents cl, w.heap[c]? = some (.map ⟨ents⟩ cl) ∧ p.All fun η => DenE η σ es ents := by
  obtain ⟨ents, cl, hc, _⟩ := h.self
  refine ⟨ents, cl, hc, fun η hη => ?_⟩
  obtain ⟨ents', cl', hc', hd⟩ := h η hη
  rw [hc] at hc'
  simp only [Option.some.injEq, Obj.map.injEq, Array.mk.injEq] at hc'
  rw [hc'.1]; exact hd
theorem mapi_fix {p : Pt} {σ : Sig} {w : World} {a : Nat} {c n : Nat} (h : p.All fun η => BlkD η σ w (.mapi a) (.at_ c n)) :
    ∃ ents cl, w.heap[c]? = some (.map ents cl) ∧ p.η.map a = (ents, cl) ∧ ∀ e ∈ ents, (∃ i, e.key = .int .i64 i) ∧ ∃ b, e.val = .bool b := by
  obtain ⟨ents, cl, hc, hm, hv⟩ := h.self
  exact ⟨ents, cl, hc, hm, hv⟩
/-- is a number's entry there, and true? -/
def mapHas (x : Int) : List MapEntry → Bool
  | [] => false
  | e :: r => match e.key, e.val with
    | .int .i64 i, .bool b => if x = i then b else mapHas x r
    | _, _ => mapHas x r
theorem findNow_int {x : Int} : ∀ {es : List MapEntry} (i : Nat), (∀ e ∈ es, (∃ i, e.key = .int .i64 i) ∧ ∃ b, e.val = .bool b) →
    (Instr.findNow (.int .i64) (.int .i64 x) es i = some none ∧ mapHas x es = false) ∨ ∃ j b e, Instr.findNow (.int .i64) (.int .i64 x) es i = some (some (j, .bool b)) ∧ mapHas x es = b ∧ i ≤ j ∧ es[j - i]? = some e ∧ e.key = .int .i64 x
  | [], i, _ => .inl ⟨rfl, rfl⟩
  | e :: es, i, h => by
    obtain ⟨⟨k, hk⟩, b, hb⟩ := h e (by simp)
    by_cases hx : x = k
    · exact .inr ⟨i, b, e, by simp [Instr.findNow, hk, Instr.sameNow, hx, hb], by simp [mapHas, hk, hb, hx], Nat.le_refl _, by simp, by rw [hk, hx]⟩
    · have hb' : (x == k) = false := by simpa using hx
      have hf : Instr.findNow (.int .i64) (.int .i64 x) (e :: es) i = Instr.findNow (.int .i64) (.int .i64 x) es (i + 1) := by
        simp only [Instr.findNow, hk, Instr.sameNow, if_true, hb']
      have hm : mapHas x (e :: es) = mapHas x es := by simp [mapHas, hk, hb, hx]
      rw [hf, hm]
      rcases findNow_int (x := x) (es := es) (i + 1) (fun e' he => h e' (List.mem_cons_of_mem _ he)) with h1 | ⟨j, b', e', h1, h2, h3, h4, h5⟩
      · exact .inl h1
      · refine .inr ⟨j, b', e', h1, h2, by omega, ?_, h5⟩
        rw [show j - i = (j - (i + 1)) + 1 by omega]
        simpa using h4
theorem lookupOp_sound {ty : Nat → Option TI} (hT : TyOk P ty) {t : TypeId} {st : St} {m k : AV} {ok : Bool} {us : List Upd} (h : lookupOp st ty t m k ok = .ok us) {p : Pt} (hs : Sat p st.ctx) :
    ∃ u ∈ us, ∃ q, p.le q ∧ Sat q u.ctx ∧ u.heap = st.heap ∧ u.nb = st.nb ∧ ∀ σ w a b, (p.All fun η => DenV η σ m a) → (p.All fun η => DenV η σ k b) → RelH p σ st.heap st.nb w → ∃ v, (Instr.lookup t a b ok).run P w = .ok v w ∧ q.All fun η => DenV η σ u.val v := by
  unfold lookupOp at h
  split at h
  · rename_i kt e _ _ b k hti
    have hd := hT.desc _ _ hti
    split at h
    · rename_i ki ei hki hei
      have hkd := hT.desc _ _ hki
      have hed := hT.desc _ _ hei
      have zero : ∀ {z : List SV}, ei.zero = .agg z → ∀ w, ∃ zs, (zeroValue e).run P w = .ok (.agg ⟨zs⟩) w ∧ ∀ η σ, DenL η σ z zs := fun {z} hz w => by
        obtain ⟨zv, hzr, hzd⟩ := hT.run_zero hei (cs := z) (by rw [hz]; rfl) w
        have h0 := hzd ⟨fun _ => 0, fun _ => default, fun _ => [], fun _ => default⟩ (fun _ => .no)
        rw [hz] at h0
        obtain ⟨zs, rfl, _⟩ := h0
        refine ⟨zs, hzr, fun η σ => ?_⟩
        have h1 := hzd η σ
        rw [hz] at h1
        obtain ⟨zs', h2, h3⟩ := h1
        simp only [Value.agg.injEq, Array.mk.injEq] at h2
        rw [h2]; exact h3
      -- of rows: what is found, settled by the point
      have rows : ∀ {es : List (List Nat × List SV)} {s : AStr}, ki.desc = .string → blk st.heap b = .mapk es → k = .str s → ∀ {σ w a bv}, (p.All fun η => DenV η σ (.sc (.map b)) a) → (p.All fun η => DenV η σ (.sc k) bv) → RelH p σ st.heap st.nb w →
          (∀ k' v, findS (s.ev p.η) es = some (k', v) → ∃ v', (Instr.lookup t a bv ok).run P w = .ok v' w ∧ p.All fun η => DenV η σ (lookAns ok v true) v') ∧
          (∀ z, findS (s.ev p.η) es = none → ei.zero = .agg z → ∃ v', (Instr.lookup t a bv ok).run P w = .ok v' w ∧ p.All fun η => DenV η σ (lookAns ok z false) v') := fun {es s} hkk hb hks {σ w a bv} ha hbv hR => by
        rw [hkk] at hkd
        subst hks
        obtain ⟨c, N, hσ, rfl⟩ := ha.self
        have hB := hR.rel b
        rw [hb, hσ] at hB
        obtain ⟨ents, cl, hc, hE⟩ := map_fix hB
        have hbv' : bv = .string (s.ev p.η) := hbv.self.1
        subst hbv'
        refine ⟨fun k' v hf => ?_, fun z hf hz => ?_⟩
        · have h0 := findNow_s (s := s.ev p.η) 0 hE.self
          rw [hf] at h0
          obtain ⟨j, vs, h1, h2⟩ := h0
          refine ⟨_, run_lookup_now hd hkd (.inl rfl) hc h1 (z := default) (fun h => by cases h), fun η hη => ?_⟩
          have h3 := findNow_s (s := s.ev p.η) 0 (hE η hη)
          rw [hf] at h3
          obtain ⟨j', vs', h4, h5⟩ := h3
          rw [h1] at h4
          simp only [Option.some.injEq, Prod.mk.injEq, Value.agg.injEq, Array.mk.injEq] at h4
          rw [← h4.2] at h5
          exact lookAns_den h5
        · have h0 := findNow_s (s := s.ev p.η) 0 hE.self
          rw [hf] at h0
          obtain ⟨zs, hzr, hzd⟩ := zero hz w
          exact ⟨_, run_lookup_now hd hkd (.inl rfl) hc h0 (fun _ => hzr), fun η hη => lookAns_den (hzd η σ)⟩
      split at h
      · rename_i es l hkk hb
        have hfl : ∀ es, findS (AStr.ev p.η (.lit l)) es = none ∧ findLit l es = none ∨ ∃ k' v, findS (AStr.ev p.η (.lit l)) es = some (k', v) ∧ findLit l es = some v := fun es => by
          induction es with
          | nil => exact .inl ⟨rfl, rfl⟩
          | cons e es ih =>
            obtain ⟨k', v⟩ := e
            simp only [findS, findLit, AStr.ev]
            cases hl : leq k' l
            · have hne : ¬ bsOf k' = bsOf l := fun e => by rw [leq_iff.2 e] at hl; cases hl
              simp only [hne, if_false, cond_false]; exact ih
            · simp only [leq_iff.1 hl, if_true, cond_true]; exact .inr ⟨k', v, rfl, rfl⟩
        split at h
        · rename_i v hf
          cases h
          refine ⟨_, List.mem_singleton.2 rfl, p, p.le_refl, hs, rfl, rfl, fun σ w a bv ha hbv hR => ?_⟩
          rcases hfl es with ⟨_, h1⟩ | ⟨k', v', h1, h2⟩
          · rw [hf] at h1; cases h1
          · rw [hf] at h2; cases h2
            exact (rows hkk hb rfl ha hbv hR).1 k' v h1
        · rename_i hf
          split at h
          · rename_i z hz
            cases h
            refine ⟨_, List.mem_singleton.2 rfl, p, p.le_refl, hs, rfl, rfl, fun σ w a bv ha hbv hR => ?_⟩
            rcases hfl es with ⟨h1, _⟩ | ⟨k', v', h1, h2⟩
            · exact (rows hkk hb rfl ha hbv hR).2 z h1 hz
            · rw [hf] at h2; cases h2
          · cases h
      · rename_i es s n hkk hb
        obtain ⟨hn, h⟩ := bif_ok h
        split at h
        · rename_i z hz
          cases h
          cases hf : findS (AStr.ev p.η (.atom s n)) es with
          | some kv =>
            obtain ⟨k', v⟩ := kv
            obtain ⟨hm, hk'⟩ := findS_mem hf
            by_cases hnk : n.ev p.η.int = (llen k' : Int)
            · obtain ⟨Ψ, h1, h2⟩ := lookHits_mem hs hn (ok := ok) hnk hm
              refine ⟨_, updsOf_mem (List.mem_cons_of_mem _ h1), p, p.le_refl, h2, rfl, rfl, fun σ w a bv ha hbv hR => (rows hkk hb rfl ha hbv hR).1 k' v hf⟩
            · refine ⟨_, updsOf_mem List.mem_cons_self, p, p.le_refl, hs, rfl, rfl, fun σ w a bv ha hbv hR => ?_⟩
              exfalso
              apply hnk
              have h1 : n.ev p.η.int = ((AStr.ev p.η (.atom s n)).size : Int) := hbv.self.2
              rw [h1, ← hk', bsOf_size, llen_eq]
          | none => exact ⟨_, updsOf_mem List.mem_cons_self, p, p.le_refl, hs, rfl, rfl, fun σ w a bv ha hbv hR => (rows hkk hb rfl ha hbv hR).2 z hf hz⟩
        · cases h
      · rename_i a0 e0 hkk hb
        rw [hkk] at hkd
        split at h
        · rename_i hde hze
          cases h
          obtain ⟨q, hq, hsq, hx⟩ := newBool_sound hs (mapHas (e0.ev p.η.int) (p.η.map a0).1.toList)
          refine ⟨_, List.mem_singleton.2 rfl, q, hq, hsq, rfl, rfl, fun σ w a bv ha hbv hR => ?_⟩
          obtain ⟨c, N, hσ, rfl⟩ := ha.self
          have hB := hR.rel b
          rw [hb, hσ] at hB
          obtain ⟨ents, cl, hc, hm, hE⟩ := mapi_fix hB
          have hbv' : bv = .int .i64 (e0.ev p.η.int) := hbv.self.1
          subst hbv'
          rw [hm] at hx
          obtain ⟨zv, hzr, hzd⟩ := hT.run_zero hei (cs := [.bool (.known false)]) (by rw [hze]; rfl) w
          have hz0 : zv = .bool false := by
            have := hzd p.η σ
            rw [hze] at this
            exact this
          subst hz0
          rcases findNow_int (x := e0.ev p.η.int) (es := ents.toList) 0 (fun e he => hE e (Array.mem_toList_iff.1 he)) with ⟨h1, h2⟩ | ⟨j, bb, e', h1, h2, _⟩
          · exact ⟨.bool false, run_lookup_now hd hkd (.inr ⟨_, rfl⟩) hc h1 (fun _ => hzr) (ok := false), fun η hη => congrArg Value.bool ((hx η hη).trans h2).symm⟩
          · exact ⟨.bool bb, run_lookup_now hd hkd (.inr ⟨_, rfl⟩) hc h1 (z := default) (fun h => by cases h) (ok := false), fun η hη => congrArg Value.bool ((hx η hη).trans h2).symm⟩
        · cases h
      · cases h
    · cases h
  · cases h

/-! Maps written. -/
theorem run_getMap {c : Nat} {w : World} {es : Array MapEntry} {cl : Nat} (hc : w.heap[c]? = some (.map es cl)) : (getObj c).run P w = .ok (.map es cl) w := by simp [getObj, Sem.run, hc]
theorem run_setMap {c : Nat} {w : World} {es : Array MapEntry} {cl : Nat} (hc : w.heap[c]? = some (.map es cl)) (o : Obj) : (setObj c o).run P w = .ok () (wput w c o) := by simp [setObj, Sem.run, hc, wput]
theorem DenE.push {η : Va} {σ : Sig} {l : List Nat} {vs : List SV} {e : MapEntry} (he : e.key = .string (bsOf l) ∧ ∃ xs : List Value, e.val = .agg ⟨xs⟩ ∧ DenL η σ vs xs) : ∀ {es : List (List Nat × List SV)} {xs : List MapEntry}, DenE η σ es xs → DenE η σ (es ++ [(l, vs)]) (xs ++ [e])
  | [], [], _ => ⟨he, trivial⟩
  | (_, _) :: _, _ :: _, h => ⟨h.1, DenE.push he h.2⟩
theorem mapUpdateOp_sound {ty : Nat → Option TI} (hT : TyOk P ty) {t : TypeId} {st : St} {m k v : AV} {us : List Upd} (h : mapUpdateOp st ty t m k v = .ok us) {p : Pt} (hs : Sat p st.ctx) :
    ∃ u ∈ us, ∃ q, p.le q ∧ Sat q u.ctx ∧ ∀ σ w a b x, (p.All fun η => DenV η σ m a) → (p.All fun η => DenV η σ k b) → (p.All fun η => DenV η σ v x) → RelH p σ st.heap st.nb w →
      ∃ w', (Instr.mapUpdate t a b x).run P w = .ok () w' ∧ Goes q st.nb σ st.heap w u undef w' := by
  unfold mapUpdateOp at h
  split at h
  · rename_i kt e _ _ b k hti
    have hd := hT.desc _ _ hti
    split at h
    · rename_i ki ei hki hei
      have hkd := hT.desc _ _ hki
      split at h
      · rename_i es l hkk hb
        rw [hkk] at hkd
        split at h
        · rename_i vs hf
          cases h
          refine ⟨_, List.mem_singleton.2 rfl, p, p.le_refl, hs, fun σ w a bv x ha hbv hx hR => ?_⟩
          obtain ⟨c, N, hσ, rfl⟩ := ha.self
          have hB := hR.rel b
          rw [hb, hσ] at hB
          obtain ⟨ents, cl, hc, hE⟩ := map_fix hB
          have hbv' : bv = .string (bsOf l) := hbv.self.1
          subst hbv'
          obtain ⟨xs, rfl, hxs⟩ := agg_fix hx
          have h0 := findNow_str (l := l) 0 hE.self
          rw [hf] at h0
          have hal : Alive st.heap b := fun h0 => by rw [h0] at hb; cases hb
          have hrun : (Instr.mapUpdate t (.map (some c)) (.string (bsOf l)) (.agg ⟨xs⟩)).run P w = .ok () (wput w c (.map ⟨ents ++ [{ key := .string (bsOf l), val := .agg ⟨xs⟩, born := cl }]⟩ (cl + 1))) := by
            have ho : (Obj.map ⟨ents ++ [{ key := .string (bsOf l), val := .agg ⟨xs⟩, born := cl }]⟩ (cl + 1) : Obj) = .map ((⟨ents⟩ : Array MapEntry).push { key := .string (bsOf l), val := .agg ⟨xs⟩, born := cl }) (cl + 1) := by simp
            rw [ho]
            simp only [Instr.mapUpdate, Sem.run_bind, run_underlying hd, Result.andThen_ok, run_getMap hc, run_checkKey_plain hkd (.inl rfl), run_findKey_now hkd h0, run_setMap hc]
          refine ⟨_, hrun, σ, Step.put hal hσ hc (fun _ _ _ h => by cases h), fun η _ => undef_den η σ, hR.put p.le_refl hal hσ fun η hη => ?_⟩
          exact ⟨_, _, wput_self (lt_of_get hc), DenE.push ⟨rfl, xs, rfl, hxs η hη⟩ (hE η hη)⟩
        · cases h
      · rename_i a0 e0 hkk hb
        rw [hkk] at hkd
        split at h
        · rename_i vb hde
          cases h
          -- the map that it comes to
          let ents0 := (p.η.map a0).1
          let cl0 := (p.η.map a0).2
          let key : Value := .int .i64 (e0.ev p.η.int)
          let val : Value := .bool (vb.ev p.η)
          let res : Array MapEntry × Nat := match Instr.findNow (.int .i64) key ents0.toList 0 with
            | some (some (i, _)) => (ents0.modify i fun e => { e with key, val := val }, cl0)
            | _ => (ents0.push { key, val := val, born := cl0 }, cl0 + 1)
          refine ⟨_, List.mem_singleton.2 rfl, p.push 0 default [] res, p.le_push _ _ _ _, hs.push0 _ _ _ _, fun σ w a bv x ha hbv hx hR => ?_⟩
          obtain ⟨c, N, hσ, rfl⟩ := ha.self
          have hB := hR.rel b
          rw [hb, hσ] at hB
          obtain ⟨ents, cl, hc, hm, hE⟩ := mapi_fix hB
          have hbv' : bv = key := hbv.self.1
          have hx' : x = val := hx.self
          subst hbv'; subst hx'
          have hal : Alive st.heap b := fun h0 => by rw [h0] at hb; cases hb
          have hres : res = match Instr.findNow (.int .i64) key ents.toList 0 with
            | some (some (i, _)) => (ents.modify i fun e => { e with key, val := val }, cl)
            | _ => (ents.push { key, val := val, born := cl }, cl + 1) := by
            simp only [res, ents0, cl0, hm]
          have hall : (Instr.mapUpdate t (.map (some c)) key val).run P w = .ok () (wput w c (.map res.1 res.2)) ∧ ∀ e ∈ res.1, (∃ i, e.key = .int .i64 i) ∧ ∃ b, e.val = .bool b := by
            rcases findNow_int (x := e0.ev p.η.int) (es := ents.toList) 0 (fun e he => hE e (Array.mem_toList_iff.1 he)) with ⟨h1, h2⟩ | ⟨j, bb, e', h1, h2, _, h4, h5⟩
            · have hr : res = (ents.push { key, val := val, born := cl }, cl + 1) := by rw [hres]; simp only [key]; rw [h1]
              rw [hr]
              refine ⟨?_, fun e he => ?_⟩
              · simp only [Instr.mapUpdate, Sem.run_bind, run_underlying hd, Result.andThen_ok, run_getMap hc, run_checkKey_plain hkd (.inr ⟨_, rfl⟩), run_findKey_now hkd (show Instr.findNow (.int .i64) key ents.toList 0 = some none from h1), run_setMap hc]
              · rcases Array.mem_push.1 he with he | rfl
                · exact hE e he
                · exact ⟨⟨_, rfl⟩, _, rfl⟩
            · have hr : res = (ents.modify j fun e => { e with key, val := val }, cl) := by rw [hres]; simp only [key]; rw [h1]
              rw [hr]
              have hk : (((ents[j]?).map (·.key)).getD key) = key := by
                have : ents[j]? = some e' := by simpa using h4
                rw [this]; exact h5
              have hst : (Instr.keyThatStays key key).run P w = .ok key w := by simp [Instr.keyThatStays, key, Instr.sameBits]
              refine ⟨?_, fun e he => ?_⟩
              · simp only [Instr.mapUpdate, Sem.run_bind, run_underlying hd, Result.andThen_ok, run_getMap hc, run_checkKey_plain hkd (.inr ⟨_, rfl⟩), run_findKey_now hkd (show Instr.findNow (.int .i64) key ents.toList 0 = some (some (j, .bool bb)) from h1), run_setMap hc, hk, hst]
              · obtain ⟨i, hi⟩ := Array.mem_iff_getElem?.1 he
                rw [Array.getElem?_modify] at hi
                split at hi
                · cases hei' : ents[i]? with
                  | none => rw [hei'] at hi; simp at hi
                  | some e0' =>
                    rw [hei'] at hi
                    simp at hi
                    rw [← hi]
                    exact ⟨⟨_, rfl⟩, _, rfl⟩
                · exact hE e (Array.mem_of_getElem? hi)
          refine ⟨_, hall.1, σ, Step.put hal hσ hc (fun _ _ _ h => by cases h), fun η _ => undef_den η σ, hR.put (p.le_push _ _ _ _) hal hσ fun η hη => ?_⟩
          have hmp := Pt.push_map (p := p) η hη
          rw [hs.1] at hmp
          exact ⟨res.1, res.2, wput_self (lt_of_get hc), hmp, hall.2⟩
        · cases h
      · cases h
    · cases h
  · cases h
theorem RelH.new' {p q : Pt} {st : St} {σ : Sig} {w : World} (hR : RelH p σ st.heap st.nb w) (hpq : p.le q) (h8 : 8 ≤ st.nb) {o : Obj} {n : Nat} {x : ABlk} {val : AV} {v : Value} {Ψ : Ctx}
    (hx : q.All fun η => BlkD η (σ.at1 st.nb w.heap.size n) (wnew w o) x (.at_ w.heap.size n)) (hv : q.All fun η => DenV η (σ.at1 st.nb w.heap.size n) val v) :
    Goes q st.nb σ st.heap w ⟨Ψ, val, st.heap.set x st.nb, st.nb + 1⟩ v (wnew w o) := ⟨_, Step.new hR, hv, hR.new hpq h8 hx⟩
theorem makeMapOp_sound {ty : Nat → Option TI} (_hT : TyOk P ty) {t : TypeId} {st : St} {r : Option AV} {us : List Upd} (h : makeMapOp st ty t r = .ok us) {p : Pt} (hs : Sat p st.ctx) (h8 : 8 ≤ st.nb) :
    r = none ∧ ∃ u ∈ us, ∃ q, p.le q ∧ Sat q u.ctx ∧ ∀ σ w, RelH p σ st.heap st.nb w → ∃ v w', (Instr.makeMap t none).run P w = .ok v w' ∧ Goes q st.nb σ st.heap w u v w' := by
  unfold makeMapOp at h
  split at h
  · rename_i k e _ _ hti
    refine ⟨rfl, ?_⟩
    split at h
    · rename_i ki hki
      have hrun : ∀ w, (Instr.makeMap t none).run P w = .ok (.map (some w.heap.size)) (wnew w (.map #[] 0)) := fun w => rfl
      split at h
      · cases h
        refine ⟨_, List.mem_singleton.2 rfl, p, p.le_refl, hs, fun σ w hR => ⟨_, _, hrun w, hR.new' p.le_refl h8 (n := 0) (fun η _ => ?_) fun η _ => ?_⟩⟩
        · exact ⟨[], 0, wnew_self _ _, trivial⟩
        · exact ⟨w.heap.size, 0, Sig.at1_self _ _ _ _, rfl⟩
      · cases h
        refine ⟨_, List.mem_singleton.2 rfl, p.push 0 default [] (#[], 0), p.le_push _ _ _ _, hs.push0 _ _ _ _, fun σ w hR => ⟨_, _, hrun w, hR.new' (p.le_push _ _ _ _) h8 (n := 0) (fun η hη => ?_) fun η _ => ?_⟩⟩
        · have hmp := Pt.push_map (p := p) η hη
          rw [hs.1] at hmp
          exact ⟨#[], 0, wnew_self _ _, hmp, by simp⟩
        · exact ⟨w.heap.size, 0, Sig.at1_self _ _ _ _, rfl⟩
      · cases h
    · cases h
  · cases h
end
end Go.Hal
namespace Go.Hal
noncomputable section
open Go
variable {P : Program}

theorem decode_spec (s : ByteArray) (i : Nat) (h : i < s.size) : (Utf8.decode s i).1 ≤ 1114111 ∧ 1 ≤ (Utf8.decode s i).2 ∧ (Utf8.decode s i).2 ≤ 4 ∧ i + (Utf8.decode s i).2 ≤ s.size := by
  have hv : ∀ c : Nat, Utf8.valid (c : Int) = true → c ≤ 1114111 := fun c hc => by
    simp only [Utf8.valid, Bool.or_eq_true, Bool.and_eq_true, decide_eq_true_eq] at hc
    omega
  unfold Utf8.decode
  generalize hb0 : (s.get! (i + 0)).toNat = b0
  generalize hb1 : (s.get! (i + 1)).toNat = b1
  generalize hb2 : (s.get! (i + 2)).toNat = b2
  generalize hb3 : (s.get! (i + 3)).toNat = b3
  have h0 : b0 < 256 := by rw [← hb0]; exact UInt8.toNat_lt _
  simp only [hb0, hb1, hb2, hb3, Utf8.runeError, ge_iff_le]
  split
  · simp only; omega
  · split
    · rename_i hc
      simp only [Bool.and_eq_true, decide_eq_true_eq] at hc
      split <;> (simp only; omega)
    · split
      · rename_i hc
        simp only [Bool.and_eq_true, decide_eq_true_eq] at hc
        split
        · rename_i hv'
          simp only [Bool.and_eq_true, decide_eq_true_eq] at hv'
          have := hv _ hv'.2
          simp only; omega
        · simp only; omega
      · split
        · rename_i hc
          simp only [Bool.and_eq_true, decide_eq_true_eq] at hc
          split
          · rename_i hv'
            simp only [Bool.and_eq_true, decide_eq_true_eq] at hv'
            have := hv _ hv'.2
            simp only; omega
          · simp only; omega
        · simp only; omega
theorem rangeOp_sound {ty : Nat → Option TI} (hT : TyOk P ty) {t : TypeId} {st : St} {x : AV} {us : List Upd} (h : rangeOp st ty t x = .ok us) {p : Pt} (hs : Sat p st.ctx) (h8 : 8 ≤ st.nb) :
    ∃ u ∈ us, ∃ q, p.le q ∧ Sat q u.ctx ∧ ∀ σ w a, (p.All fun η => DenV η σ x a) → RelH p σ st.heap st.nb w → ∃ v w', (Instr.range t a).run P w = .ok v w' ∧ Goes q st.nb σ st.heap w u v w' := by
  unfold rangeOp at h
  split at h
  · rename_i s hti
    have hd := hT.desc _ _ hti
    cases h
    refine ⟨_, List.mem_singleton.2 rfl, p, p.le_refl, hs, fun σ w a ha hR => ?_⟩
    obtain ⟨a', rfl, ha'⟩ := den_str ha
    have hrun : (Instr.range t (.string a')).run P w = .ok (.pointer (some ⟨w.heap.size, 0, none⟩)) (wnew w (.stringIter a' 0)) := by
      simp only [Instr.range, Sem.run_bind, run_underlying hd, Result.andThen_ok, Sem.run_pure]
      rfl
    refine ⟨_, _, hrun, hR.new' p.le_refl h8 (n := 0) (fun η hη => ?_) fun η _ => ?_⟩
    · obtain ⟨h1, h2⟩ := ha' η hη
      exact ⟨0, by rw [h1]; exact wnew_self _ _, by simp, by rw [h2, h1]⟩
    · exact ⟨w.heap.size, 0, 0, Sig.at1_self _ _ _ _, by simp, rfl⟩
  · cases h
theorem nextWays_mem {st : St} {b : Nat} {s : AStr} {pos : Lin} : ∀ {l : List (Bool × Ctx)} {v : Bool} {Φ : Ctx}, (v, Φ) ∈ l → (bif v then nextOn st b s pos Φ else ⟨Φ, overV, st.heap, st.nb⟩) ∈ nextWays st b s pos l
  | (v', Φ') :: r, v, Φ, h => by
    rcases List.mem_cons.1 h with h | h
    · cases h; exact List.mem_cons_self
    · exact List.mem_cons_of_mem _ (nextWays_mem h)
theorem iter_fix {p : Pt} {σ : Sig} {w : World} {s : AStr} {pos : Lin} {c n : Nat} (h : p.All fun η => BlkD η σ w (.iter s pos) (.at_ c n)) :
    ∃ (a : ByteArray) (i : Nat), w.heap[c]? = some (.stringIter a i) ∧ p.All fun η => s.ev η = a ∧ pos.ev η.int = (i : Int) ∧ (slen s).ev η.int = (a.size : Int) := by
  obtain ⟨i, hc, _⟩ := h.self
  refine ⟨_, i, hc, fun η hη => ?_⟩
  obtain ⟨i', hc', h1, h2⟩ := h η hη
  rw [hc] at hc'
  simp only [Option.some.injEq, Obj.stringIter.injEq] at hc'
  exact ⟨hc'.1.symm, by rw [h1, hc'.2], by rw [h2, hc'.1]⟩
theorem run_next_over {c : Nat} {w : World} {a : ByteArray} {i : Nat} {ty : TypeId} (hc : w.heap[c]? = some (.stringIter a i)) (h : ¬ i < a.size) : (Instr.next (.pointer (some ⟨c, 0, none⟩)) true ty).run P w = .ok (.tuple #[.bool false]) w := by
  simp [Instr.next, getObj, Sem.run, hc, h]
theorem run_next_on {c : Nat} {w : World} {a : ByteArray} {i : Nat} {ty : TypeId} (hc : w.heap[c]? = some (.stringIter a i)) (h : i < a.size) :
    (Instr.next (.pointer (some ⟨c, 0, none⟩)) true ty).run P w = .ok (.tuple #[.bool true, .int .i64 i, .int .i32 (Utf8.decode a i).1]) (wput w c (.stringIter a (i + (Utf8.decode a i).2))) := by
  simp only [Instr.next, getObj, setObj, Sem.run_bind, Sem.run, hc, Result.andThen, h, if_true]
  rfl
theorem overV_den (η : Va) (σ : Sig) : DenV η σ overV (.tuple #[.bool false]) := ⟨[.bool false], rfl, ⟨_, rfl, rfl⟩, trivial⟩
theorem onV_den {η : Va} {σ : Sig} {pos c : Lin} {i d : Nat} (h1 : pos.ev η.int = (i : Int)) (h2 : c.ev η.int = (d : Int)) (h3 : (i : Int) ≤ maxStr) (h4 : d ≤ 1114111) : DenV η σ (onV pos c) (.tuple #[.bool true, .int .i64 i, .int .i32 d]) := by
  refine ⟨[.bool true, .int .i64 i, .int .i32 d], rfl, ⟨_, rfl, rfl⟩, ⟨_, rfl, ?_⟩, ⟨_, rfl, ?_⟩, trivial⟩
  · simp only [Den, h1, true_and]
    exact ⟨by have := kmin_le0 .i64; omega, h3⟩
  · simp only [Den, h2, true_and]
    exact ⟨by have := kmin_le0 .i32; omega, by simp [kmax]; omega⟩
theorem nextOp_sound {st : St} {x : AV} {isS : Bool} {us : List Upd} (h : nextOp st x isS = .ok us) {p : Pt} (hs : Sat p st.ctx) (ty : TypeId) :
    ∃ u ∈ us, ∃ q, p.le q ∧ Sat q u.ctx ∧ ∀ σ w a, (p.All fun η => DenV η σ x a) → RelH p σ st.heap st.nb w → ∃ v w', (Instr.next a isS ty).run P w = .ok v w' ∧ Goes q st.nb σ st.heap w u v w' := by
  unfold nextOp at h
  split at h
  · rename_i b
    split at h
    · rename_i s pos hb
      obtain ⟨hc0, h⟩ := bif_ok h
      simp only [Bool.and_eq_true] at hc0
      have g1 := Ctx.ge0_sound hs.says hc0.1
      have g2 := Ctx.ge0_sound hs.says hc0.2
      simp only [Lin.ev_addc, Lin.ev_neg] at g2
      have hal : Alive st.heap b := fun h0 => by rw [h0] at hb; cases hb
      have main : ∀ {σ : Sig} {w : World} {a : Value}, (p.All fun η => DenV η σ (.sc (.ptr b ⟨.ofNat 0, []⟩)) a) → RelH p σ st.heap st.nb w → ∃ c n s' i, a = .pointer (some ⟨c, 0, none⟩) ∧ σ b = .at_ c n ∧ w.heap[c]? = some (.stringIter s' i) ∧ (s'.size : Int) ≤ maxStr ∧
          p.All fun η => s.ev η = s' ∧ pos.ev η.int = (i : Int) ∧ (slen s).ev η.int = (s'.size : Int) := fun {σ w a} ha hR => by
        obtain ⟨c, n, hσ, rfl⟩ := ptr0 ha
        have hB := hR.rel b
        rw [hb, hσ] at hB
        obtain ⟨s', i, hc, hall⟩ := iter_fix hB
        refine ⟨c, n, s', i, rfl, hσ, hc, ?_, hall⟩
        have := hall.self.2.2
        omega
      -- one rune on
      have on : ∀ {q : Pt} {Ψ : Ctx} {pos' cc : Lin}, p.le q → (∀ (s' : ByteArray) (i : Nat), (p.All fun η => s.ev η = s' ∧ pos.ev η.int = (i : Int) ∧ (slen s).ev η.int = (s'.size : Int)) → i < s'.size ∧ q.All fun η => pos'.ev η.int = ((i + (Utf8.decode s' i).2 : Nat) : Int) ∧ cc.ev η.int = ((Utf8.decode s' i).1 : Int)) →
          ∀ σ w a, (p.All fun η => DenV η σ (.sc (.ptr b ⟨.ofNat 0, []⟩)) a) → RelH p σ st.heap st.nb w → ∃ v w', (Instr.next a true ty).run P w = .ok v w' ∧ Goes q st.nb σ st.heap w ⟨Ψ, onV pos cc, st.heap.set (.iter s pos') b, st.nb⟩ v w' := fun {q Ψ pos' cc} hq hD σ w a ha hR => by
        obtain ⟨c, n, s', i, rfl, hσ, hc, hmx, hall⟩ := main ha hR
        obtain ⟨hi, hD⟩ := hD s' i hall
        have hsp := decode_spec s' i hi
        refine ⟨_, _, run_next_on hc hi, σ, Step.put hal hσ hc (fun _ _ _ h => by cases h), fun η hη => onV_den (hall.mono hq η hη).2.1 (hD η hη).2 (by omega) hsp.1, hR.put hq hal hσ fun η hη => ?_⟩
        obtain ⟨h1, _, h3⟩ := hall.mono hq η hη
        exact ⟨i + (Utf8.decode s' i).2, by rw [h1]; exact wput_self (lt_of_get hc), (hD η hη).1, by rw [h3, h1]⟩
      have over : ∀ {Ψ : Ctx}, (∀ (s' : ByteArray) (i : Nat), (p.All fun η => s.ev η = s' ∧ pos.ev η.int = (i : Int) ∧ (slen s).ev η.int = (s'.size : Int)) → ¬ i < s'.size) →
          ∀ σ w a, (p.All fun η => DenV η σ (.sc (.ptr b ⟨.ofNat 0, []⟩)) a) → RelH p σ st.heap st.nb w → ∃ v w', (Instr.next a true ty).run P w = .ok v w' ∧ Goes p st.nb σ st.heap w ⟨Ψ, overV, st.heap, st.nb⟩ v w' := fun {Ψ} hD σ w a ha hR => by
        obtain ⟨c, n, s', i, rfl, hσ, hc, hmx, hall⟩ := main ha hR
        exact ⟨_, w, run_next_over hc (hD s' i hall), Goes.still rfl rfl (fun η _ => overV_den η σ) hR⟩
      split at h
      · rename_i l i _
        have hsi : ∀ (s' : ByteArray) (j : Nat), (p.All fun η => AStr.ev η (.lit l) = s' ∧ (⟨.ofNat i, []⟩ : Lin).ev η.int = (j : Int) ∧ (slen (.lit l)).ev η.int = (s'.size : Int)) → s' = bsOf l ∧ j = i := fun s' j hall => by
          have h1 : bsOf l = s' := hall.self.1
          have h2 := hall.self.2.1
          simp [Lin.ev, Lin.evTs] at h2
          exact ⟨h1.symm, by omega⟩
        cases hlt : Nat.blt i (llen l)
        · rw [hlt] at h
          cases h
          refine ⟨_, List.mem_singleton.2 rfl, p, p.le_refl, hs, over fun s' j hall => ?_⟩
          obtain ⟨rfl, rfl⟩ := hsi s' j hall
          rw [bsOf_size, ← llen_eq]
          intro h1
          rw [(blt_iff _ _).2 h1] at hlt; cases hlt
        · rw [hlt] at h
          simp only [cond_true] at h
          have hil : i < (bsOf l).size := by rw [bsOf_size, ← llen_eq]; exact (blt_iff _ _).1 hlt
          split at h
          · rename_i c hlc
            cases hasc : Nat.blt (c % 256) 128
            · rw [hasc] at h
              simp only [cond_false] at h
              cases h
              refine ⟨_, List.mem_singleton.2 rfl, p, p.le_refl, hs, on p.le_refl fun s' j hall => ?_⟩
              obtain ⟨rfl, rfl⟩ := hsi s' j hall
              exact ⟨hil, fun η _ => ⟨by rw [Lin.ev_k], by rw [Lin.ev_k]⟩⟩
            · rw [hasc] at h
              simp only [cond_true] at h
              cases h
              refine ⟨_, List.mem_singleton.2 rfl, p, p.le_refl, hs, on p.le_refl fun s' j hall => ?_⟩
              obtain ⟨rfl, rfl⟩ := hsi s' j hall
              have hbyte : ((bsOf l)[j]'hil).toNat = c % 256 := by
                have := byte_get (bsOf l) j
                rw [getElem?_pos (bsOf l) j hil] at this
                rw [lget_eq] at hlc
                simp only [byteVals, bsOf, List.getElem?_map, Option.map_some, hlc] at this
                simp only [Option.some.injEq, Value.int.injEq, true_and] at this
                have h2 : ((UInt8.ofNat c).toNat : Int) = (((bsOf l)[j]'hil).toNat : Int) := this
                rw [UInt8.toNat_ofNat'] at h2
                omega
              have hd := decode_ascii (bsOf l) j hil (by rw [hbyte]; exact (blt_iff _ _).1 hasc)
              refine ⟨hil, fun η _ => ⟨?_, ?_⟩⟩
              · rw [hd, Lin.ev_k]
              · rw [hd, Lin.ev_k, hbyte]
          · cases h
      · obtain ⟨l, hl, h⟩ := R.bind_ok h
        cases h
        obtain ⟨v, Ψ, hm, hsp, hv⟩ := split_sound hs hl
        have hmem := nextWays_mem (st := st) (b := b) (s := s) (pos := pos) hm
        have hiff : ∀ (s' : ByteArray) (i : Nat), (p.All fun η => s.ev η = s' ∧ pos.ev η.int = (i : Int) ∧ (slen s).ev η.int = (s'.size : Int)) → (v = true ↔ i < s'.size) := fun s' i hall => by
          have h1 := hv.self
          rw [mkB_ev] at h1
          obtain ⟨_, h2, h3⟩ := hall.self
          simp only [ABool.ev, Lin.ev_addc, Lin.ev_sub, h2, h3] at h1
          rw [← h1, decide_eq_true_iff]
          omega
        cases v
        · simp only [cond_false] at hmem
          exact ⟨_, hmem, p, p.le_refl, hsp, over fun s' i hall h1 => by have := (hiff s' i hall).2 h1; cases this⟩
        · simp only [cond_true] at hmem
          -- the rune and its width, where there is one
          have pick : ∃ d : Nat × Nat, d.1 ≤ 1114111 ∧ 1 ≤ d.2 ∧ d.2 ≤ 4 ∧ (∀ (s' : ByteArray) (i : Nat), (p.All fun η => s.ev η = s' ∧ pos.ev η.int = (i : Int) ∧ (slen s).ev η.int = (s'.size : Int)) → d = Utf8.decode s' i) ∧ p.All fun η => 0 ≤ (slen s).ev η.int - pos.ev η.int - d.2 := by
            by_cases hw : ∃ (s' : ByteArray) (i : Nat), p.All fun η => s.ev η = s' ∧ pos.ev η.int = (i : Int) ∧ (slen s).ev η.int = (s'.size : Int)
            · obtain ⟨s', i, hall⟩ := hw
              have hi := (hiff s' i hall).1 rfl
              have hspec := decode_spec s' i hi
              refine ⟨Utf8.decode s' i, hspec.1, hspec.2.1, hspec.2.2.1, fun s'' j hall' => ?_, fun η hη => ?_⟩
              · have es : s'' = s' := hall'.self.1.symm.trans hall.self.1
                have ej : j = i := by have h1 := hall'.self.2.1; have h2 := hall.self.2.1; omega
                rw [es, ej]
              · obtain ⟨_, h2, h3⟩ := hall η hη
                rw [h2, h3]
                omega
            · refine ⟨(0, 1), by omega, by omega, by omega, fun s' i hall => absurd ⟨s', i, hall⟩ hw, fun η hη => ?_⟩
              have h1 : ABool.ev η (mkB _) = true := hv η hη
              rw [mkB_ev] at h1
              simp only [ABool.ev, Lin.ev_addc, Lin.ev_sub, decide_eq_true_iff] at h1
              omega
          obtain ⟨d, hd1, hd2, hd3, hd4, hd5⟩ := pick
          obtain ⟨q1, hq1, hsq1, hx1⟩ := fresh_num hsp (lo := 0) (hi := 1114111) (by decide) d.1
          obtain ⟨q2, hq2, hsq2, hx2⟩ := fresh_num hsq1 (lo := 1) (hi := 4) (by decide) d.2
          have hle := hq1.trans hq2
          have hc := (hx1 (by omega) (by omega)).mono hq2
          have hw' := hx2 (by omega) (by omega)
          have hsat : Sat q2 ((((Ψ.fresh 0 1114111).2.fresh 1 4).2).tell ((slen s).sub (pos.add (.at_ ((Ψ.fresh 0 1114111).2.fresh 1 4).1)))) := by
            unfold Ctx.tell
            cases hlt : ((slen s).sub (pos.add (.at_ ((Ψ.fresh 0 1114111).2.fresh 1 4).1))).lt ((Ψ.fresh 0 1114111).2.fresh 1 4).2.n
            · exact hsq2
            · refine hsq2.assume rfl fun η hη => (hsq2.2 η hη).addFact ?_
              have h2 := hd5.mono hle η hη
              have h4 : η.int ((Ψ.fresh 0 1114111).2.fresh 1 4).1 = (d.2 : Int) := hw' η hη
              simp only [if_true, Lin.ev_sub, Lin.ev_add, Lin.ev_at, h4]
              omega
          refine ⟨_, hmem, q2, hle, hsat, on hle fun s' i hall => ?_⟩
          have hi := (hiff s' i hall).1 rfl
          have hd := hd4 s' i hall
          refine ⟨hi, fun η hη => ⟨?_, ?_⟩⟩
          · have h4 : η.int ((Ψ.fresh 0 1114111).2.fresh 1 4).1 = (d.2 : Int) := hw' η hη
            have h2 := (hall.mono hle η hη).2.1
            have h5 : η.int (Ψ.n + 1) = (d.2 : Int) := h4
            show Lin.ev η.int (pos.add (.at_ (Ψ.n + 1))) = _
            rw [Lin.ev_add, Lin.ev_at, h2, h5, hd]; simp
          · have h4 : η.int Ψ.n = (d.1 : Int) := hc η hη
            show Lin.ev η.int (.at_ Ψ.n) = _
            rw [Lin.ev_at, h4, hd]
    · cases h
  · cases h
end
end Go.Hal
namespace Go.Hal
noncomputable section
open Go
variable {P : Program}

/-- what the model lays for 'Sub64' -/
def sub64Entry : Array Value → Sem Value := fun args => do
  let (x, y, b) ← Extern.MathBitsCarry.three "Sub64" args
  pure (Extern.MathBitsCarry.pair ((x + Extern.MathBitsCarry.m64 - y - b) % Extern.MathBitsCarry.m64) (if x < y + b then 1 else 0))
def entryOf : Nat → Array Value → Sem Value
  | 0 => Extern.AbiNoEscape.same
  | 1 => add64Entry
  | 2 => sub64Entry
  | 3 => Extern.BytealgCount.count
  | 4 => Extern.BytealgIndexByte.indexByte
  | _ => fun _ => stuck ""
theorem entryOf_3 : entryOf 3 = Extern.BytealgCount.count := rfl
theorem entryOf_4 : entryOf 4 = Extern.BytealgIndexByte.indexByte := rfl
theorem run_three (x y c : Nat) (hc : c ≤ 1) (w : World) (n : String) : (Extern.MathBitsCarry.three n #[.int .u64 x, .int .u64 y, .int .u64 c]).run P w = .ok (x, y, c) w := by
  have : c = 0 ∨ c = 1 := by omega
  rcases this with rfl | rfl <;> rfl
theorem run_add64' (x y c : Nat) (hc : c ≤ 1) (w : World) : (add64Entry #[.int .u64 x, .int .u64 y, .int .u64 c]).run P w = .ok (.tuple #[.int .u64 ((x + y + c) % 18446744073709551616 : Nat), .int .u64 ((x + y + c) / 18446744073709551616 : Nat)]) w := by
  simp only [add64Entry, Sem.run_bind, run_three x y c hc, Result.andThen_ok, Sem.run_pure]
  rfl
theorem run_sub64' (x y c : Nat) (hc : c ≤ 1) (w : World) : (sub64Entry #[.int .u64 x, .int .u64 y, .int .u64 c]).run P w =
    .ok (.tuple #[.int .u64 ((x + 18446744073709551616 - y - c) % 18446744073709551616 : Nat), .int .u64 ((if x < y + c then 1 else 0 : Nat) : Int)]) w := by
  simp only [sub64Entry, Sem.run_bind, run_three x y c hc, Result.andThen_ok, Sem.run_pure]
  rfl
theorem pairV_den {η : Va} {σ : Sig} {x y : Lin} {a b : Nat} (h1 : x.ev η.int = (a : Int)) (h2 : y.ev η.int = (b : Int)) (h3 : a < 18446744073709551616) (h4 : b < 18446744073709551616) : DenV η σ (pairV x y) (.tuple #[.int .u64 a, .int .u64 b]) := by
  refine ⟨[.int .u64 a, .int .u64 b], rfl, ⟨_, rfl, ?_⟩, ⟨_, rfl, ?_⟩, trivial⟩
  · simp only [Den, h1, true_and]; exact ⟨by simp [kmin], by simp [kmax]; omega⟩
  · simp only [Den, h2, true_and]; exact ⟨by simp [kmin], by simp [kmax]; omega⟩
theorem newPair_sound {p : Pt} {Φ : Ctx} (hs : Sat p Φ) (a b : Nat) : ∃ q, p.le q ∧ Sat q (newPair Φ).2 ∧ (a < 18446744073709551616 → b ≤ 1 → ∀ σ, q.All fun η => DenV η σ (newPair Φ).1 (.tuple #[.int .u64 a, .int .u64 b])) := by
  obtain ⟨q1, hq1, hs1, h1⟩ := fresh_num hs (lo := 0) (hi := 18446744073709551615) (by decide) a
  obtain ⟨q2, hq2, hs2, h2⟩ := fresh_num hs1 (lo := 0) (hi := 1) (by decide) b
  refine ⟨q2, hq1.trans hq2, hs2, fun ha hb σ η hη => ?_⟩
  have e1 := (h1 (by omega) (by omega)).mono hq2 η hη
  have e2 := h2 (by omega) (by omega) η hη
  exact pairV_den (by rw [Lin.ev_at]; exact e1) (by rw [Lin.ev_at]; exact e2) ha (by omega)
theorem den_u64 {p : Pt} {σ : Sig} {e : Lin} {v : Value} (h : p.All fun η => DenV η σ (.sc (.int .u64 e)) v) : ∃ a : Nat, v = .int .u64 a ∧ a < 18446744073709551616 ∧ p.All fun η => e.ev η.int = (a : Int) := by
  obtain ⟨a, rfl, hk, ha⟩ := den_int h
  have h0 : 0 ≤ a := hk.1
  have h1 : a ≤ 18446744073709551615 := hk.2
  have h2 : ((a.toNat : Nat) : Int) = a := Int.toNat_of_nonneg h0
  exact ⟨a.toNat, by rw [h2], by omega, by rw [h2]; exact ha⟩
theorem byte_of {n : Nat} (h : n < 256) (b : UInt8) : (n.toUInt8 == b) = decide (n = b.toNat) := by
  rw [Bool.eq_iff_iff, beq_iff_eq, decide_eq_true_iff]
  constructor
  · rintro rfl
    show n = (UInt8.ofNat n).toNat
    rw [UInt8.toNat_ofNat']; omega
  · intro e
    apply UInt8.toNat_inj.1
    show (UInt8.ofNat n).toNat = _
    rw [UInt8.toNat_ofNat']; omega
theorem countL_eq {c : Nat} (hc : c < 256) : ∀ l : List Nat, countL c l = Lib.countByte (bsOf l).data.toList c.toUInt8
  | [] => rfl
  | a :: l => by
    have ih := countL_eq hc l
    simp only [countL, Lib.countByte, bsOf, List.map_cons] at ih ⊢
    rw [List.count_cons, ← ih]
    have hb := byte_of hc (UInt8.ofNat a)
    rw [UInt8.toNat_ofNat'] at hb
    have hsym : (UInt8.ofNat a == c.toUInt8) = (c.toUInt8 == UInt8.ofNat a) := by rw [Bool.eq_iff_iff, beq_iff_eq, beq_iff_eq]; exact ⟨Eq.symm, Eq.symm⟩
    rw [hsym, hb, beq_dec]
    by_cases h : a % 256 = c
    · simp [h]
    · have : ¬ c = a % 2 ^ 8 := by omega
      simp [h, this]
theorem findL_eq {c : Nat} (hc : c < 256) : ∀ (l : List Nat) (i : Nat), (match findL c i l with | some j => Lib.indexByte (bsOf l).data.toList c.toUInt8 = ((j - i : Nat) : Int) ∧ i ≤ j | none => Lib.indexByte (bsOf l).data.toList c.toUInt8 = -1)
  | [], i => rfl
  | a :: l, i => by
    have ih := findL_eq hc l (i + 1)
    simp only [findL, bsOf, List.map_cons] at ih ⊢
    have hb := byte_of hc (UInt8.ofNat a)
    rw [UInt8.toNat_ofNat'] at hb
    have hsym : (UInt8.ofNat a == c.toUInt8) = (c.toUInt8 == UInt8.ofNat a) := by rw [Bool.eq_iff_iff, beq_iff_eq, beq_iff_eq]; exact ⟨Eq.symm, Eq.symm⟩
    rw [beq_dec]
    by_cases h : a % 256 = c
    · have : c = a % 2 ^ 8 := by omega
      simp only [h, decide_true, cond_true]
      refine ⟨?_, Nat.le_refl _⟩
      unfold Lib.indexByte
      rw [if_pos (by rw [hsym, hb, decide_eq_true_iff]; exact this)]
      simp
    · have hn : ¬ c = a % 2 ^ 8 := by omega
      simp only [h, decide_false, cond_false]
      have hne : ¬ (UInt8.ofNat a == c.toUInt8) = true := by rw [hsym, hb, decide_eq_true_iff]; exact hn
      split at ih
      · rename_i j hj
        obtain ⟨h1, h2⟩ := ih
        refine ⟨?_, by omega⟩
        unfold Lib.indexByte
        rw [if_neg hne, h1, if_neg (by simp)]
        omega
      · rename_i hj
        unfold Lib.indexByte
        rw [if_neg hne, ih]; rfl
theorem countByte_le (l : List UInt8) (c : UInt8) : Lib.countByte l c ≤ l.length := List.count_le_length
theorem indexByte_lt : ∀ (l : List UInt8) (c : UInt8), Lib.indexByte l c < l.length ∨ Lib.indexByte l c = -1
  | [], _ => .inr rfl
  | b :: l, c => by
    unfold Lib.indexByte
    have ih := indexByte_lt l c
    split
    · simp only [List.length_cons]; left; omega
    · split
      · exact .inr rfl
      · rename_i h
        have : Lib.indexByte l c ≠ -1 := by simpa using h
        simp only [List.length_cons]
        left
        rcases ih with ih | ih
        · omega
        · exact absurd ih this
theorem tell_sat {q : Pt} {Φ : Ctx} (hs : Sat q Φ) {e : Lin} (h : q.All fun η => 0 ≤ e.ev η.int) : Sat q (Φ.tell e) := by
  unfold Ctx.tell
  cases hlt : e.lt Φ.n
  · exact hs
  · exact hs.assume rfl fun η hη => (hs.2 η hη).addFact (by simpa using h η hη)
theorem DenVs.cons {p : Pt} {σ : Sig} {a : AV} {l : List AV} {vs : List Value} (h : p.All fun η => DenVs η σ (a :: l) vs) : ∃ v r, vs = v :: r ∧ (p.All fun η => DenV η σ a v) ∧ p.All fun η => DenVs η σ l r := by
  have := h.self
  cases vs with
  | nil => exact this.elim
  | cons v r => exact ⟨v, r, rfl, h.imp fun η h => h.1, h.imp fun η h => h.2⟩
theorem DenVs.nil {p : Pt} {σ : Sig} {vs : List Value} (h : p.All fun η => DenVs η σ [] vs) : vs = [] := by
  have := h.self
  cases vs with
  | nil => rfl
  | cons v r => exact this.elim
theorem DenVs.one {p : Pt} {σ : Sig} {a : AV} {vs : Array Value} (h : p.All fun η => DenVs η σ [a] vs.toList) : ∃ v, vs = #[v] ∧ p.All fun η => DenV η σ a v := by
  obtain ⟨v, r, h1, h2, h3⟩ := DenVs.cons h
  have := DenVs.nil h3
  subst this
  exact ⟨v, by apply Array.ext'; exact h1, h2⟩
theorem DenVs.two {p : Pt} {σ : Sig} {a b : AV} {vs : Array Value} (h : p.All fun η => DenVs η σ [a, b] vs.toList) : ∃ v x, vs = #[v, x] ∧ (p.All fun η => DenV η σ a v) ∧ p.All fun η => DenV η σ b x := by
  obtain ⟨v, r, h1, h2, h3⟩ := DenVs.cons h
  obtain ⟨x, r', rfl, h5, h6⟩ := DenVs.cons h3
  have := DenVs.nil h6
  subst this
  exact ⟨v, x, by apply Array.ext'; exact h1, h2, h5⟩
theorem DenVs.three {p : Pt} {σ : Sig} {a b c : AV} {vs : Array Value} (h : p.All fun η => DenVs η σ [a, b, c] vs.toList) : ∃ v x y, vs = #[v, x, y] ∧ (p.All fun η => DenV η σ a v) ∧ (p.All fun η => DenV η σ b x) ∧ p.All fun η => DenV η σ c y := by
  obtain ⟨v, r, h1, h2, h3⟩ := DenVs.cons h
  obtain ⟨x, r', rfl, h5, h6⟩ := DenVs.cons h3
  obtain ⟨y, r'', rfl, h7, h8⟩ := DenVs.cons h6
  have := DenVs.nil h8
  subst this
  exact ⟨v, x, y, by apply Array.ext'; exact h1, h2, h5, h7⟩
theorem externOp_sound {st : St} {code : Nat} {args : List AV} {us : List Upd} (h : externOp st code args = .ok us) {p : Pt} (hs : Sat p st.ctx) :
    Still p st us fun q val => ∀ σ (vs : Array Value) w, (p.All fun η => DenVs η σ args vs.toList) → ∃ v, (entryOf code vs).run P w = .ok v w ∧ q.All fun η => DenV η σ val v := by
  unfold externOp at h
  split at h
  · rename_i x
    refine Still.one hs h fun σ vs w hv => ?_
    obtain ⟨v, rfl, hd⟩ := DenVs.one hv
    exact ⟨v, rfl, hd⟩
  · rename_i x y c
    obtain ⟨hc, h⟩ := bif_ok h
    simp only [Bool.and_eq_true] at hc
    have c1 := Ctx.ge0_sound hs.says hc.1
    simp only [Lin.ev_addc, Lin.ev_neg] at c1
    cases h
    have main : ∃ q, p.le q ∧ Sat q (addA st.ctx x y c).2 ∧ ∀ σ (vs : Array Value) w, (p.All fun η => DenVs η σ [.sc (.int .u64 x), .sc (.int .u64 y), .sc (.int .u64 c)] vs.toList) → ∃ v, (add64Entry vs).run P w = .ok v w ∧ q.All fun η => DenV η σ (addA st.ctx x y c).1 v := by
      unfold addA
      split
      · rename_i a b d
        refine ⟨p, p.le_refl, hs, fun σ vs w hv => ?_⟩
        obtain ⟨v1, v2, v3, rfl, h1, h2, h3⟩ := DenVs.three hv
        obtain ⟨a', rfl, _, e1⟩ := den_u64 h1
        obtain ⟨b', rfl, _, e2⟩ := den_u64 h2
        obtain ⟨d', rfl, _, e3⟩ := den_u64 h3
        have g1 : a = a' := by have := e1.self; simp [Lin.ev, Lin.evTs] at this; omega
        have g2 : b = b' := by have := e2.self; simp [Lin.ev, Lin.evTs] at this; omega
        have g3 : d = d' := by have := e3.self; simp [Lin.ev, Lin.evTs] at this; omega
        subst g1; subst g2; subst g3
        have hd1 : d ≤ 1 := by simp [Lin.ev, Lin.evTs] at c1; omega
        exact ⟨_, run_add64' a b d hd1 w, fun η _ => pairV_den (Lin.ev_k _ _) (Lin.ev_k _ _) (Nat.mod_lt _ (by omega)) (by omega)⟩
      · obtain ⟨q, hq, hsq, hx⟩ := newPair_sound hs (((x.ev p.η.int).toNat + (y.ev p.η.int).toNat + (c.ev p.η.int).toNat) % 18446744073709551616) (((x.ev p.η.int).toNat + (y.ev p.η.int).toNat + (c.ev p.η.int).toNat) / 18446744073709551616)
        refine ⟨q, hq, hsq, fun σ vs w hv => ?_⟩
        obtain ⟨v1, v2, v3, rfl, h1, h2, h3⟩ := DenVs.three hv
        obtain ⟨a, rfl, ha, e1⟩ := den_u64 h1
        obtain ⟨b, rfl, hb, e2⟩ := den_u64 h2
        obtain ⟨d, rfl, _, e3⟩ := den_u64 h3
        have f1 := e1.self
        have f2 := e2.self
        have f3 := e3.self
        have hd1 : d ≤ 1 := by omega
        rw [f1, f2, f3] at hx
        simp only [Int.toNat_natCast] at hx
        exact ⟨_, run_add64' a b d hd1 w, hx (Nat.mod_lt _ (by omega)) (by omega) σ⟩
    obtain ⟨q, hq, hsq, hx⟩ := main
    exact ⟨_, List.mem_singleton.2 rfl, q, hq, hsq, rfl, rfl, hx⟩
  · rename_i x y c
    obtain ⟨hc, h⟩ := bif_ok h
    simp only [Bool.and_eq_true] at hc
    have c1 := Ctx.ge0_sound hs.says hc.1
    simp only [Lin.ev_addc, Lin.ev_neg] at c1
    cases h
    have main : ∃ q, p.le q ∧ Sat q (subA st.ctx x y c).2 ∧ ∀ σ (vs : Array Value) w, (p.All fun η => DenVs η σ [.sc (.int .u64 x), .sc (.int .u64 y), .sc (.int .u64 c)] vs.toList) → ∃ v, (sub64Entry vs).run P w = .ok v w ∧ q.All fun η => DenV η σ (subA st.ctx x y c).1 v := by
      unfold subA
      split
      · rename_i a b d
        refine ⟨p, p.le_refl, hs, fun σ vs w hv => ?_⟩
        obtain ⟨v1, v2, v3, rfl, h1, h2, h3⟩ := DenVs.three hv
        obtain ⟨a', rfl, ha, e1⟩ := den_u64 h1
        obtain ⟨b', rfl, hb, e2⟩ := den_u64 h2
        obtain ⟨d', rfl, _, e3⟩ := den_u64 h3
        have g1 : a = a' := by have := e1.self; simp [Lin.ev, Lin.evTs] at this; omega
        have g2 : b = b' := by have := e2.self; simp [Lin.ev, Lin.evTs] at this; omega
        have g3 : d = d' := by have := e3.self; simp [Lin.ev, Lin.evTs] at this; omega
        subst g1; subst g2; subst g3
        have hd1 : d ≤ 1 := by simp [Lin.ev, Lin.evTs] at c1; omega
        refine ⟨_, run_sub64' a b d hd1 w, fun η _ => pairV_den (Lin.ev_k _ _) ?_ (Nat.mod_lt _ (by omega)) (by split <;> omega)⟩
        rw [Lin.ev_k]
        cases hlt : Nat.blt a (b + d)
        · have : ¬ a < b + d := fun h => by rw [(blt_iff _ _).2 h] at hlt; cases hlt
          rw [if_neg this]; rfl
        · rw [if_pos ((blt_iff _ _).1 hlt)]; rfl
      · obtain ⟨q, hq, hsq, hx⟩ := newPair_sound hs (((x.ev p.η.int).toNat + 18446744073709551616 - (y.ev p.η.int).toNat - (c.ev p.η.int).toNat) % 18446744073709551616) (if (x.ev p.η.int).toNat < (y.ev p.η.int).toNat + (c.ev p.η.int).toNat then 1 else 0)
        refine ⟨q, hq, hsq, fun σ vs w hv => ?_⟩
        obtain ⟨v1, v2, v3, rfl, h1, h2, h3⟩ := DenVs.three hv
        obtain ⟨a, rfl, ha, e1⟩ := den_u64 h1
        obtain ⟨b, rfl, hb, e2⟩ := den_u64 h2
        obtain ⟨d, rfl, _, e3⟩ := den_u64 h3
        have f1 := e1.self
        have f2 := e2.self
        have f3 := e3.self
        have hd1 : d ≤ 1 := by omega
        rw [f1, f2, f3] at hx
        simp only [Int.toNat_natCast] at hx
        exact ⟨_, run_sub64' a b d hd1 w, hx (Nat.mod_lt _ (by omega)) (by split <;> omega) σ⟩
    obtain ⟨q, hq, hsq, hx⟩ := main
    exact ⟨_, List.mem_singleton.2 rfl, q, hq, hsq, rfl, rfl, hx⟩
  · rename_i s c
    obtain ⟨hc, h⟩ := bif_ok h
    simp only [Bool.and_eq_true] at hc
    have c1 := Ctx.ge0_sound hs.says hc.1
    have c2 := hs.2.imp fun η h => Ctx.ge0_sound h hc.2
    simp only [Lin.ev_addc, Lin.ev_neg] at c1
    refine Still.oneC h ?_
    unfold countA
    split
    · rename_i l c _
      refine ⟨p, p.le_refl, hs, fun σ vs w hv => ?_⟩
      obtain ⟨v1, v2, rfl, h1, h2⟩ := DenVs.two hv
      obtain ⟨a, rfl, ha⟩ := den_str h1
      obtain ⟨c', rfl, hk, e2⟩ := den_int h2
      have g1 : bsOf l = a := ha.self.1
      have g2 : (c : Int) = c' := by have := e2.self; simpa [Lin.ev, Lin.evTs] using this
      subst g1; subst g2
      have hk2 : (c : Int) ≤ 255 := hk.2
      refine ⟨_, by rw [entryOf_3]; exact Lib.run_countString _ _ w, fun η _ => ?_⟩
      rw [Int.toNat_natCast, ← countL_eq (by omega) l]
      refine ⟨by rw [Lin.ev_k], ?_⟩
      rw [Lin.ev_k, countL_eq (show c < 256 by omega) l]
      have h3 := countByte_le (bsOf l).data.toList c.toUInt8
      have h4 := ha.self.2
      have h5 : (bsOf l).data.toList.length = (bsOf l).size := rfl
      have h6 : kmax .i64 = maxStr := rfl
      exact ⟨by have := kmin_le0 .i64; omega, by omega⟩
    · -- how many there are, where there is a string
      have pick : ∃ n : Int, 0 ≤ n ∧ n ≤ maxStr ∧ (p.All fun η => n ≤ (slen s).ev η.int) ∧ ∀ a : ByteArray, (p.All fun η => s.ev η = a ∧ (slen s).ev η.int = (a.size : Int)) → n = Lib.countByte a.data.toList (c.ev p.η.int).toNat.toUInt8 := by
        by_cases hw : ∃ a : ByteArray, p.All fun η => s.ev η = a ∧ (slen s).ev η.int = (a.size : Int)
        · obtain ⟨a, ha⟩ := hw
          have h3 := countByte_le a.data.toList (c.ev p.η.int).toNat.toUInt8
          have h4 := ha.self.2
          have h5 : a.data.toList.length = a.size := rfl
          refine ⟨Lib.countByte a.data.toList (c.ev p.η.int).toNat.toUInt8, by omega, by omega, fun η hη => by have := (ha η hη).2; omega, fun a' ha' => ?_⟩
          rw [show a' = a from ha'.self.1.symm.trans ha.self.1]
        · exact ⟨0, by omega, by decide, c2, fun a ha => absurd ⟨a, ha⟩ hw⟩
      obtain ⟨n, hn0, hn1, hn2, hn3⟩ := pick
      obtain ⟨q, hq, hsq, hx⟩ := fresh_num hs (lo := 0) (hi := maxStr) (by decide) n
      have hx := hx hn0 hn1
      refine ⟨q, hq, tell_sat hsq fun η hη => ?_, fun σ vs w hv => ?_⟩
      · have h1 := hn2.mono hq η hη
        have h2 : η.int st.ctx.n = n := hx η hη
        show 0 ≤ Lin.ev η.int ((slen s).sub (.at_ st.ctx.n))
        rw [Lin.ev_sub, Lin.ev_at, h2]
        omega
      · obtain ⟨v1, v2, rfl, h1, h2⟩ := DenVs.two hv
        obtain ⟨a, rfl, ha⟩ := den_str h1
        obtain ⟨c', rfl, hk, e2⟩ := den_int h2
        have g2 : c.ev p.η.int = c' := e2.self
        have h3 := hn3 a ha
        rw [g2] at h3
        refine ⟨_, by rw [entryOf_3]; exact Lib.run_countString _ _ w, fun η hη => ?_⟩
        have h2 : η.int st.ctx.n = n := hx η hη
        rw [← h3]
        show Den η σ (.int .i64 (.at_ st.ctx.n)) _
        simp only [Den, Lin.ev_at, h2, true_and]
        exact ⟨by have := kmin_le0 .i64; omega, hn1⟩
  · rename_i s c
    obtain ⟨hc, h⟩ := bif_ok h
    simp only [Bool.and_eq_true] at hc
    have c1 := Ctx.ge0_sound hs.says hc.1
    have c2 := hs.2.imp fun η h => Ctx.ge0_sound h hc.2
    simp only [Lin.ev_addc, Lin.ev_neg] at c1
    refine Still.oneC h ?_
    unfold indexByteA
    split
    · rename_i l c _
      have lit : ∀ {σ : Sig} {vs : Array Value} {w : World}, (p.All fun η => DenVs η σ [.sc (.str (.lit l)), .sc (.int .u8 ⟨.ofNat c, []⟩)] vs.toList) → c < 256 ∧ (entryOf 4 vs).run P w = .ok (.int .i64 (Lib.indexByte (bsOf l).data.toList c.toUInt8)) w ∧ ((bsOf l).size : Int) ≤ maxStr := fun {σ vs w} hv => by
        obtain ⟨v1, v2, rfl, h1, h2⟩ := DenVs.two hv
        obtain ⟨a, rfl, ha⟩ := den_str h1
        obtain ⟨c', rfl, hk, e2⟩ := den_int h2
        have g1 : bsOf l = a := ha.self.1
        have g2 : (c : Int) = c' := by have := e2.self; simpa [Lin.ev, Lin.evTs] using this
        subst g1; subst g2
        have hk2 : (c : Int) ≤ 255 := hk.2
        have h4 := ha.self.2
        exact ⟨by omega, by rw [entryOf_4]; exact Lib.run_indexByteString _ _ w, by omega⟩
      split
      · rename_i i hi
        refine ⟨p, p.le_refl, hs, fun σ vs w hv => ?_⟩
        obtain ⟨h0, h1, h2⟩ := lit hv (w := w)
        have h3 := findL_eq h0 l 0
        rw [hi] at h3
        have h4 := indexByte_lt (bsOf l).data.toList c.toUInt8
        have h5 : (bsOf l).data.toList.length = (bsOf l).size := rfl
        refine ⟨_, h1, fun η _ => ?_⟩
        rw [h3.1] at h4 ⊢
        refine ⟨by rw [Lin.ev_k]; simp, ?_⟩
        rw [Lin.ev_k]
        have h6 : kmax .i64 = maxStr := rfl
        exact ⟨by have := kmin_le0 .i64; omega, by omega⟩
      · rename_i hi
        refine ⟨p, p.le_refl, hs, fun σ vs w hv => ?_⟩
        obtain ⟨h0, h1, h2⟩ := lit hv (w := w)
        have h3 := findL_eq h0 l 0
        rw [hi] at h3
        refine ⟨_, h1, fun η _ => ?_⟩
        rw [h3]
        exact ⟨by rw [Lin.ev_k], by rw [Lin.ev_k]; exact ⟨by decide, by decide⟩⟩
    · have pick : ∃ n : Int, -1 ≤ n ∧ n ≤ maxStr ∧ (p.All fun η => n + 1 ≤ (slen s).ev η.int) ∧ ∀ a : ByteArray, (p.All fun η => s.ev η = a ∧ (slen s).ev η.int = (a.size : Int)) → n = Lib.indexByte a.data.toList (c.ev p.η.int).toNat.toUInt8 := by
        by_cases hw : ∃ a : ByteArray, p.All fun η => s.ev η = a ∧ (slen s).ev η.int = (a.size : Int)
        · obtain ⟨a, ha⟩ := hw
          have h3 := indexByte_lt a.data.toList (c.ev p.η.int).toNat.toUInt8
          have h3' := Lib.indexByte_ge a.data.toList (c.ev p.η.int).toNat.toUInt8
          have h4 := ha.self.2
          have h5 : a.data.toList.length = a.size := rfl
          refine ⟨Lib.indexByte a.data.toList (c.ev p.η.int).toNat.toUInt8, by omega, by omega, fun η hη => by have := (ha η hη).2; omega, fun a' ha' => ?_⟩
          rw [show a' = a from ha'.self.1.symm.trans ha.self.1]
        · exact ⟨-1, by omega, by decide, c2.imp fun η h => by omega, fun a ha => absurd ⟨a, ha⟩ hw⟩
      obtain ⟨n, hn0, hn1, hn2, hn3⟩ := pick
      obtain ⟨q, hq, hsq, hx⟩ := fresh_num hs (lo := -1) (hi := maxStr) (by decide) n
      have hx := hx hn0 hn1
      refine ⟨q, hq, tell_sat hsq fun η hη => ?_, fun σ vs w hv => ?_⟩
      · have h1 := hn2.mono hq η hη
        have h2 : η.int st.ctx.n = n := hx η hη
        show 0 ≤ Lin.ev η.int (((slen s).sub (.at_ st.ctx.n)).addc (-1))
        rw [Lin.ev_addc, Lin.ev_sub, Lin.ev_at, h2]
        omega
      · obtain ⟨v1, v2, rfl, h1, h2⟩ := DenVs.two hv
        obtain ⟨a, rfl, ha⟩ := den_str h1
        obtain ⟨c', rfl, hk, e2⟩ := den_int h2
        have g2 : c.ev p.η.int = c' := e2.self
        have h3 := hn3 a ha
        rw [g2] at h3
        refine ⟨_, by rw [entryOf_4]; exact Lib.run_indexByteString _ _ w, fun η hη => ?_⟩
        have h2 : η.int st.ctx.n = n := hx η hη
        rw [← h3]
        show Den η σ (.int .i64 (.at_ st.ctx.n)) _
        simp only [Den, Lin.ev_at, h2, true_and]
        exact ⟨by simp [kmin]; omega, hn1⟩
  · cases h
end
end Go.Hal
namespace Go.Hal
noncomputable section
open Go
variable {P : Program}

theorem lesserV_mem {k : IntKind} : ∀ {l : List (Lin × Ctx)} {e : Lin} {Φ : Ctx}, (e, Φ) ∈ l → (AV.sc (.int k e), Φ) ∈ lesserV k l
  | (e', Φ') :: r, e, Φ, h => by
    rcases List.mem_cons.1 h with h | h
    · cases h; exact List.mem_cons_self
    · exact List.mem_cons_of_mem _ (lesserV_mem h)
theorem lenA_sound {p : Pt} {Φ : Ctx} (hs : Sat p Φ) {d : TypeDesc} {x : AV} {r : SV × Ctx} (h : lenA Φ d x = .ok r) {t tt : TypeId} (ht : P.underlying t = some d) :
    ∃ q, p.le q ∧ Sat q r.2 ∧ ∀ σ a w, (p.All fun η => DenV η σ x a) → ∃ v, (Builtin.len_ #[t] tt #[a]).run P w = .ok v w ∧ q.All fun η => DenV η σ (.sc r.1) v := by
  have num : ∀ (e : Lin) (r : SV × Ctx), (bif Φ.ge0 (e.neg.addc maxStr) && Φ.ge0 e then .ok (mkInt Φ .i64 e) else .err "len: too long") = (.ok r : R (SV × Ctx)) → ∃ q, p.le q ∧ Sat q r.2 ∧ ∀ σ (n : Nat), (p.All fun η => e.ev η.int = (n : Int)) → q.All fun η => DenV η σ (.sc r.1) (goInt n) := fun e r h => by
    obtain ⟨hb, h⟩ := bif_ok h
    cases h
    simp only [Bool.and_eq_true] at hb
    have h1 := Ctx.ge0_sound hs.says hb.1
    simp only [Lin.ev_addc, Lin.ev_neg] at h1
    obtain ⟨q, hq, hsq, hx⟩ := mkInt_sound hs .i64 e
    refine ⟨q, hq, hsq, fun σ n hn => ?_⟩
    have h2 := hn.self
    have hw : IntKind.i64.wrap (n : Int) = n := wrap_nat (by have : kmax .i64 = maxStr := rfl; omega)
    have := hx σ n hn
    rw [hw] at this
    exact this.imp fun η h => DenV.of h
  unfold lenA at h
  split at h
  · rename_i s
    obtain ⟨q, hq, hsq, hx⟩ := num _ r h
    refine ⟨q, hq, hsq, fun σ a w ha => ?_⟩
    obtain ⟨a', rfl, ha'⟩ := den_str ha
    exact ⟨goInt a'.size, by simp [Builtin.len_, run_underlying ht], hx σ a'.size (ha'.imp fun η h => h.2)⟩
  · rename_i _ n _
    obtain ⟨hb, h⟩ := bif_ok h
    cases h
    refine ⟨p, p.le_refl, hs, fun σ a w ha => ⟨goInt n, by simp [Builtin.len_, run_underlying ht], den_i64 (fun η _ => Lin.ev_k _ _) ?_⟩⟩
    have := (ble_iff _ _).1 hb
    have : kmax .i64 = 9223372036854775807 := rfl
    omega
  · cases h
    refine ⟨p, p.le_refl, hs, fun σ a w ha => ?_⟩
    have : a = .slice none 0 0 := ha.self
    subst this
    exact ⟨goInt 0, by simp [Builtin.len_, run_underlying ht], fun η _ => ⟨rfl, in0 _⟩⟩
  · rename_i b off n es
    obtain ⟨q, hq, hsq, hx⟩ := num _ r h
    refine ⟨q, hq, hsq, fun σ a w ha => ?_⟩
    rcases den_slice (ha.imp fun η h => DenV.un rfl h) with ⟨rfl, _, hl⟩ | ⟨c, N, o, l, cap, rfl, _, hl, _⟩
    · exact ⟨goInt 0, by simp [Builtin.len_, run_underlying ht], hx σ 0 hl⟩
    · exact ⟨goInt l, by simp [Builtin.len_, run_underlying ht], hx σ l hl⟩
  · rename_i n
    obtain ⟨q, hq, hsq, hx⟩ := num _ r h
    refine ⟨q, hq, hsq, fun σ a w ha => ?_⟩
    obtain ⟨aa, l, cap, rfl, _⟩ := ha.self
    refine ⟨goInt l, by simp [Builtin.len_, run_underlying ht], hx σ l fun η hη => ?_⟩
    obtain ⟨aa', l', cap', h1, h2⟩ := ha η hη
    simp only [Value.slice.injEq] at h1
    rw [h2, h1.2.1]
  · cases h
theorem RelH.look {p : Pt} {σ : Sig} {h : Tr ABlk} {nb : Nat} {w w' : World} (r : RelH p σ h nb w) (hw : ∀ c, Own h σ c → w'.heap[c]? = w.heap[c]?) : RelH p σ h nb w' where
  full := r.full
  rel b := fun η hη => by
    by_cases hal : Alive h b
    · exact BlkD.world (r.rel b η hη) fun c n hc => hw c ⟨b, n, hal, hc⟩
    · have : blk h b = .dead := Classical.not_not.1 hal
      rw [this]; cases σ b <;> trivial
  inj := r.inj
  glob := r.glob
theorem freeze_heap (w : World) (c n d : Nat) (h : d ≠ c) : (w.freeze ⟨c, 0, none⟩ n).heap[d]? = w.heap[d]? := by
  unfold World.freeze
  split
  · rfl
  · simp only [Array.getElem?_modify]
    rw [if_neg (Ne.symm h)]
theorem freeze_shp (w : World) (c n : Nat) (d : Nat) (vs : Array Value) (u : TypeId) (fr : Nat × Nat) (h : w.heap[d]? = some (.cells vs u fr)) : ∃ vs' fr', (w.freeze ⟨c, 0, none⟩ n).heap[d]? = some (.cells vs' u fr') ∧ vs'.size = vs.size := by
  by_cases e : d = c
  · subst e
    unfold World.freeze
    split
    · exact ⟨vs, fr, h, rfl⟩
    · simp only [Array.getElem?_modify, if_true, h, Option.map_some]
      exact ⟨vs, _, rfl, rfl⟩
  · exact ⟨vs, fr, by rw [freeze_heap w c n d e, h], rfl⟩
theorem freeze_size (w : World) (a : Addr) (n : Nat) : (w.freeze a n).heap.size = w.heap.size := by
  unfold World.freeze
  split
  · rfl
  · simp
def U8Ok (P : Program) (u8 : TypeId) : Prop := u8 ≠ 0 ∧ P.cellsOf u8 = 1
theorem contOf_within {st : St} {b : Nat} {off n : Lin} {c : Cont} (hc : contOf st b off n = .ok c) {p : Pt} (hs : Sat p st.ctx) {σ : Sig} {w : World} (hR : RelH p σ st.heap st.nb w) {d N : Nat} (hσ : σ b = .at_ d N)
    (ho : off.ev p.η.int = 0) {m : Nat} (hm : n.ev p.η.int = (m : Int)) : m ≤ N := by
  have hB := hR.rel b
  rw [hσ] at hB
  unfold contOf at hc
  split at hc
  · rename_i t' cs hbb
    rw [hbb] at hB
    obtain ⟨vs, more, _, hn, hD⟩ := cells_fix hB
    have hlv := hD.self.length
    rw [clen_eq] at hlv
    unfold contCells at hc
    split at hc
    · rename_i o k
      split at hc
      · rename_i l hl
        have hmm : k = m := by simp [Lin.ev, Lin.evTs] at hm; omega
        have h0 : o = 0 := by simp [Lin.ev, Lin.evTs] at ho; omega
        subst h0; subst hmm
        rcases cpart_sound hl hD.self with ⟨h5, _⟩ | ⟨h5, _⟩
        · rw [← hn]; simp; omega
        · omega
      · cases hc
    · obtain ⟨hb3, hc⟩ := bif_ok hc
      simp only [Bool.and_eq_true] at hb3
      have h5 := Ctx.ge0_sound hs.says hb3.2
      simp only [Lin.ev_addc, Lin.ev_neg, Lin.ev_add, ho, hm, clen_eq] at h5
      rw [← hn]; simp; omega
  · rename_i t' a' k ct hbb
    obtain ⟨hb3, hc⟩ := bif_ok hc
    simp only [Bool.and_eq_true] at hb3
    have h5 := Ctx.ge0_sound hs.says hb3.2
    simp only [Lin.ev_sub, ho, hm] at h5
    have h6 : k.ev p.η.int ≤ N := (blkLen_le (m := k) (by rw [hbb]; rfl) hB).self
    omega
  · rename_i t' k hbb
    obtain ⟨hb3, hc⟩ := bif_ok hc
    simp only [Bool.and_eq_true] at hb3
    have h5 := Ctx.ge0_sound hs.says hb3.2
    simp only [Lin.ev_sub, ho, hm] at h5
    have h6 : k.ev p.η.int ≤ N := (blkLen_le (m := k) (by rw [hbb]; rfl) hB).self
    omega
  · cases hc
theorem unsafeString_sound {st : St} {b : Nat} {n : Lin} {u8 t ti tt : TypeId} (hu : U8Ok P u8) (ht : P.underlying t = some (.pointer u8)) {us : List Upd} {p : Pt} (hs : Sat p st.ctx)
    (h1 : st.ctx.ge0 (n.addc (-1)) = true) (h2 : st.ctx.ge0 (n.neg.addc maxStr) = true) (hb : blkType (blk st.heap b) = some u8)
    (h : ((contOf st b (.k 0) n).bind fun c => (bytesOf st.ctx c n).bind fun p => putBlk st p.2 b .dead (.sc p.1)) = .ok us) :
    ∃ u ∈ us, ∃ q, p.le q ∧ Sat q u.ctx ∧ ∀ σ w a m, (p.All fun η => DenV η σ (.sc (.ptr b ⟨.ofNat 0, []⟩)) a) → (p.All fun η => DenV η σ (.sc (.int .i64 n)) m) → RelH p σ st.heap st.nb w →
      ∃ v w', (Builtin.unsafeString_ #[t, ti] tt #[a, m]).run P w = .ok v w' ∧ Goes q st.nb σ st.heap w u v w' := by
  obtain ⟨c, hc, h⟩ := R.bind_ok h
  obtain ⟨r, hr, h⟩ := R.bind_ok h
  cases h
  obtain ⟨q, hq, hsq, hx⟩ := bytesOf_sound hs hr (contVals p.η st b (.k 0) n)
  refine ⟨_, List.mem_singleton.2 rfl, q, hq, hsq, fun σ w a m ha hm hR => ?_⟩
  obtain ⟨d, N, hσ, rfl⟩ := ptr0 ha
  obtain ⟨m', rfl, _, hm'⟩ := den_int hm
  have g1 := Ctx.ge0_sound hs.says h1
  have g2 := Ctx.ge0_sound hs.says h2
  have e1 : n.ev p.η.int = m' := hm'.self
  simp only [Lin.ev_addc, Lin.ev_neg, e1] at g1 g2
  have e0 : m' = (m'.toNat : Int) := by omega
  have hal : Alive st.heap b := fun h0 => by rw [h0] at hb; cases hb
  have hmN : p.All fun η => n.ev η.int = ((m'.toNat : Nat) : Int) := fun η hη => by rw [← e0]; exact hm' η hη
  -- the row is long enough
  have hlen : m'.toNat ≤ N := contOf_within hc hs hR hσ (Lin.ev_k _ _) (hmN.self)
  obtain ⟨tot, u, fr, hh, htl, _, htu, hC, hF⟩ := contOf_sound hc hs hR hσ (o := 0) (fun η _ => by simp) hmN (by omega)
  have hl : ((tot.drop 0).take m'.toNat).length = m'.toNat := by simp; omega
  obtain ⟨hby, hD⟩ := hx σ _ hC hF (hmN.imp fun η h => by rw [hl]; exact h)
  have hcb := cells_bytes hh hby
  have hu' : u = u8 := ((htu _ hb).resolve_left hu.1).symm
  subst hu'
  have hsh : w.shape? d = some (u, N) := by simp [World.shape?, hh, htl]
  have hbl : (bsV ((tot.drop 0).take m'.toNat)).data.toList.length = m'.toNat := by
    have := bsV_size ((tot.drop 0).take m'.toNat)
    rw [hl] at this; exact this
  have hrun := Lib.run_unsafeString_row (P := P) w t ti tt u ht hu.2 d N hsh (bsV ((tot.drop 0).take m'.toNat)).data.toList (fun h0 => by rw [h0] at hbl; simp at hbl; omega) (by omega) (by
    have : maxStr = 9223372036854775807 := rfl
    omega) hcb
  rw [hbl, ← e0] at hrun
  refine ⟨_, _, hrun, σ, ?_, hD.imp fun η h => DenV.of h, ?_⟩
  · exact ⟨Nat.le_refl _, fun _ _ => rfl, by rw [freeze_size]; exact Nat.le_refl _, fun c' _ hn => freeze_heap w d _ c' fun e => hn (by subst e; exact ⟨b, N, hal, hσ⟩), fun c' _ h => own_kill h, fun c' vs u' fr' h => freeze_shp w d _ c' vs u' fr' h,
      fun c' vs u' fr' h ho => ⟨vs, by rw [freeze_heap w d _ c' fun e => (hR.mono hq).killed hal hσ (by subst e; exact ho)]; exact h⟩, by unfold World.freeze; split <;> exact ⟨rfl, rfl, rfl⟩⟩
  · exact ((hR.mono hq).kill b).look fun c' ho => freeze_heap w d _ c' fun e => (hR.mono hq).killed hal hσ (by subst e; exact ho)
theorem builtinOp_sound {ty : Nat → Option TI} (hT : TyOk P ty) {u8 : TypeId} (hu : U8Ok P u8) {st : St} {b : Builtin} {ts : List TypeId} {args : List AV} {us : List Upd} (h : builtinOp st ty u8 b ts args = .ok us) {p : Pt} (hs : Sat p st.ctx) (h8 : 8 ≤ st.nb) (tt : TypeId) (cons : Array Bool) :
    ∃ u ∈ us, ∃ q, p.le q ∧ Sat q u.ctx ∧ ∀ σ w (vs : Array Value), (p.All fun η => DenVs η σ args vs.toList) → RelH p σ st.heap st.nb w →
      ∃ v w', (builtin b ts.toArray tt cons vs).run P w = .ok (.value v) w' ∧ Goes q st.nb σ st.heap w u v w' := by
  have val : ∀ {m : Sem Value} {w w' : World} {v : Value}, m.run P w = .ok v w' → (do pure (Next.value (← m)) : Sem Next).run P w = .ok (.value v) w' := fun h => by simp [h]
  unfold builtinOp at h
  split at h
  · rename_i t x
    split at h
    · rename_i ti hti
      obtain ⟨r, hr, h⟩ := R.bind_ok h
      cases h
      obtain ⟨q, hq, hsq, hx⟩ := lenA_sound (P := P) hs hr (hT.desc _ _ hti) (tt := tt)
      refine ⟨_, List.mem_singleton.2 rfl, q, hq, hsq, fun σ w vs hv hR => ?_⟩
      obtain ⟨a, rfl, ha⟩ := DenVs.one hv
      obtain ⟨v, h1, h2⟩ := hx σ a w ha
      exact ⟨v, w, val h1, Goes.still rfl rfl h2 (hR.mono hq)⟩
    · cases h
  · rename_i t t2 s x
    split at h
    · rename_i e _ _ t2i hti ht2i
      obtain ⟨hsq2, h⟩ := bif_ok h
      split at h
      · rename_i ei hei
        obtain ⟨u, hm, q, hq, hsq, hx⟩ := appendOp_sound (tt := tt) hT (hT.desc _ _ hti) hei (hT.desc _ _ ht2i) hsq2 h hs h8
        refine ⟨u, hm, q, hq, hsq, fun σ w vs hv hR => ?_⟩
        obtain ⟨a, b, rfl, ha, hb⟩ := DenVs.two hv
        obtain ⟨v, w', h1, h2⟩ := hx σ w a b ha hb hR
        exact ⟨v, w', val h1, h2⟩
      · cases h
    · cases h
  · rename_i t t2 d s
    split at h
    · rename_i e _ _ hti
      split at h
      · rename_i ei hei
        obtain ⟨u, hm, q, hq, hsq, hx⟩ := copyOp_sound (t2 := t2) (tt := tt) hT (hT.desc _ _ hti) hei h hs
        refine ⟨u, hm, q, hq, hsq, fun σ w vs hv hR => ?_⟩
        obtain ⟨a, b, rfl, ha, hb⟩ := DenVs.two hv
        obtain ⟨v, w', h1, h2⟩ := hx σ w a b ha hb hR
        exact ⟨v, w', val h1, h2⟩
      · cases h
    · cases h
  · rename_i k a j b
    obtain ⟨hk, h⟩ := bif_ok h
    obtain ⟨l, hl, h⟩ := R.bind_ok h
    cases h
    have := keq_eq hk
    subst this
    obtain ⟨n, Ψ, hm, hsp, hx⟩ := lesser_sound hs hl
    refine ⟨_, updsOf_mem (lesserV_mem hm), p, p.le_refl, hsp, fun σ w vs hv hR => ?_⟩
    obtain ⟨v1, v2, rfl, h1, h2⟩ := DenVs.two hv
    obtain ⟨a', rfl, ka, ha⟩ := den_int h1
    obtain ⟨b', rfl, kb, hb⟩ := den_int h2
    have hmin := hx a' b' ha hb
    refine ⟨.int k (min a' b'), w, ?_, Goes.still rfl rfl (fun η hη => ?_) hR⟩
    · refine val ?_
      have : (if b' < a' then b' else a') = min a' b' := by split <;> omega
      simp [Builtin.min_, Builtin.min2, this]
    · have : n.ev η.int = min a' b' := hmin η hη
      simp only [DenV, Den, this, true_and]
      exact ⟨by have := ka.1; have := kb.1; omega, by have := ka.2; have := kb.2; omega⟩
  · rename_i k a j b
    obtain ⟨hk, h⟩ := bif_ok h
    obtain ⟨l, hl, h⟩ := R.bind_ok h
    cases h
    have := keq_eq hk
    subst this
    obtain ⟨n, Ψ, hm, hsp, hx⟩ := greater_sound hs hl
    refine ⟨_, updsOf_mem (lesserV_mem hm), p, p.le_refl, hsp, fun σ w vs hv hR => ?_⟩
    obtain ⟨v1, v2, rfl, h1, h2⟩ := DenVs.two hv
    obtain ⟨a', rfl, ka, ha⟩ := den_int h1
    obtain ⟨b', rfl, kb, hb⟩ := den_int h2
    have hmax := hx a' b' ha hb
    refine ⟨.int k (max a' b'), w, ?_, Goes.still rfl rfl (fun η hη => ?_) hR⟩
    · refine val ?_
      have : (if b' > a' then b' else a') = max a' b' := by split <;> omega
      simp [Builtin.max_, Builtin.max2, this]
    · have : n.ev η.int = max a' b' := hmax η hη
      simp only [DenV, Den, this, true_and]
      exact ⟨by have := ka.1; have := kb.1; omega, by have := ka.2; have := kb.2; omega⟩
  · rename_i b off len es
    obtain ⟨hl, h⟩ := bif_ok h
    cases h
    have g := Ctx.ge0_sound hs.says hl
    simp only [Lin.ev_addc] at g
    refine ⟨_, List.mem_singleton.2 rfl, p, p.le_refl, hs, fun σ w vs hv hR => ?_⟩
    obtain ⟨a, rfl, ha⟩ := DenVs.one hv
    rcases den_slice (ha.imp fun η h => DenV.un rfl h) with ⟨rfl, _, hl0⟩ | ⟨c, N, o, l, cap, rfl, hσ, hl0, hlc, hoff⟩
    · have := hl0.self; omega
    · have hl' := hl0.self
      have hc0 : cap ≠ 0 := by omega
      obtain ⟨ho, _⟩ := hoff.resolve_left hc0
      refine ⟨.pointer (some ⟨c, o, none⟩), w, val (Lib.run_unsafeSliceData_row w _ _ _ l cap hc0), Goes.still rfl rfl (fun η hη => ⟨c, N, o, hσ, ho η hη, rfl⟩) hR⟩
  · cases h
    refine ⟨_, List.mem_singleton.2 rfl, p, p.le_refl, hs, fun σ w vs hv hR => ?_⟩
    obtain ⟨a, rfl, ha⟩ := DenVs.one hv
    have : a = .slice none 0 0 := ha.self
    subst this
    exact ⟨.pointer none, w, val (Lib.run_unsafeSliceData_nil w _ _ 0 0), Goes.still rfl rfl (fun η _ => rfl) hR⟩
  · rename_i t1 t2 n
    obtain ⟨hz, h⟩ := bif_ok h
    cases h
    have g := Ctx.eq0_sound hs.says hz
    refine ⟨_, List.mem_singleton.2 rfl, p, p.le_refl, hs, fun σ w vs hv hR => ?_⟩
    obtain ⟨v1, v2, rfl, h1, h2⟩ := DenVs.two hv
    have : v1 = .pointer none := h1.self
    subst this
    obtain ⟨a', rfl, _, ha⟩ := den_int h2
    have : n.ev p.η.int = a' := ha.self
    have : a' = 0 := by omega
    subst this
    exact ⟨.string .empty, w, val (Lib.run_unsafeString_none w t1 t2 tt none), Goes.still rfl rfl (fun η _ => ⟨rfl, slen_lit _ _⟩) hR⟩
  · rename_i t t2 b n
    split at h
    · rename_i e _ _ hti
      obtain ⟨hb, h'⟩ := bif_ok h
      clear h
      simp only [Bool.and_eq_true] at hb
      have he := (beq_iff _ _).1 hb.1.1.1
      subst he
      have hbt : blkType (blk st.heap b) = some e := by
        have := hb.2
        split at this
        · rename_i u hu'; rw [hu', (beq_iff _ _).1 this]
        · cases this
      obtain ⟨u, hm, q, hq, hsq, hx⟩ := unsafeString_sound (ti := t2) (tt := tt) hu (hT.desc _ _ hti) hs hb.1.1.2 hb.1.2 hbt h'
      refine ⟨u, hm, q, hq, hsq, fun σ w vs hv hR => ?_⟩
      obtain ⟨v1, v2, rfl, h1, h2⟩ := DenVs.two hv
      obtain ⟨v, w', h3, h4⟩ := hx σ w v1 v2 h1 h2 hR
      exact ⟨v, w', val h3, h4⟩
    · cases h
  · cases h
end
end Go.Hal
namespace Go.Hal
noncomputable section
open Go
variable {P : Program}

/-! The environment. -/
structure EnvOk (P : Program) (env : Env) : Prop where
  ty : TyOk P env.tys
  u8 : U8Ok P env.u8
  fns : ∀ f fn, env.fns f = some fn → P.funcs[f]? = some fn ∧ (fn.name == "runtime.NumGoroutine") = false
  ext : ∀ f code, env.ext f = some code → ∀ args w, (callFunc f args).run P w = ((entryOf code args).run P w).andThen fun v w' => .ok (.value v) w'
/-- what calls come to -/
def CallOk (P : Program) (callF : CallF) : Prop := ∀ f args (S : St) outs, callF f args S = .ok outs → 8 ≤ S.nb → ∀ p, Sat p S.ctx → (∃ σ w, ∃ vs : Array Value, (p.All fun η => DenVs η σ args vs.toList) ∧ RelH p σ S.heap S.nb w) →
  ∃ o ∈ outs, ∃ q, p.le q ∧ Sat q o.2.1 ∧ ∀ σ w (vs : Array Value), (p.All fun η => DenVs η σ args vs.toList) → RelH p σ S.heap S.nb w →
    (callFunc f vs).run P w = .ok (.enter f vs) w ∧ Calls P f vs w fun e w' => ∃ v, e = .returned v ∧ Goes q S.nb σ S.heap w ⟨o.2.1, o.1, o.2.2.1, o.2.2.2⟩ v w'
/-- what an operation comes to -/
def OpTo (P : Program) (o : Oper) (a : Act) (w : World) (R : Value → World → Prop) : Prop :=
  match (execOp a.eval o).run P w with
  | .ok (.value v) w' => R v w'
  | .ok .skip w' => R undef w'
  | .ok (.enter f args) w' => Calls P f args w' fun e w'' => ∃ v, e = .returned v ∧ R v w''
  | _ => False
theorem OpTo.value {o : Oper} {a : Act} {w w' : World} {v : Value} {R : Value → World → Prop} (h : (execOp a.eval o).run P w = .ok (.value v) w') (hr : R v w') : OpTo P o a w R := by
  unfold OpTo; rw [h]; exact hr
theorem OpTo.skip {o : Oper} {a : Act} {w w' : World} {R : Value → World → Prop} (h : (execOp a.eval o).run P w = .ok .skip w') (hr : R undef w') : OpTo P o a w R := by
  unfold OpTo; rw [h]; exact hr
theorem OpTo.mono {o : Oper} {a : Act} {w : World} {R R' : Value → World → Prop} (h : OpTo P o a w R) (hr : ∀ v w', R v w' → R' v w') : OpTo P o a w R' := by
  unfold OpTo at *
  split at h
  · exact hr _ _ h
  · exact hr _ _ h
  · exact Calls.mono h fun e w' ⟨v, he, hv⟩ => ⟨v, he, hr _ _ hv⟩
  · exact h.elim
theorem OpTo.wp {o : Oper} {a : Act} {w : World} {R : Value → World → Prop} (h : OpTo P o a w R) {K : Act → World → Prop} {Q : Exit → Act → World → Prop} (hk : ∀ v w', R v w' → K (a.put o.dst v) w') : o.wp P a w K Q := by
  unfold OpTo at h
  unfold Oper.wp
  split at h
  · rename_i v w' hr; rw [hr]; exact hk _ _ h
  · rename_i w' hr; rw [hr]; exact hk _ _ h
  · rename_i f args w' hr
    rw [hr]
    refine Calls.mono h fun e w'' he => ?_
    obtain ⟨v, rfl, hv⟩ := he
    exact hk _ _ hv
  · exact h.elim

theorem OpTo.some {o : Oper} {a : Act} {w : World} {R : Value → World → Prop} (h : OpTo P o a w R) : ∃ v w', R v w' := by
  unfold OpTo at h
  split at h
  · exact ⟨_, _, h⟩
  · exact ⟨_, _, h⟩
  · obtain ⟨e, w', _, ⟨v, _, hv⟩, _⟩ := h []
    exact ⟨v, w', hv⟩
  · exact h.elim

/-! Operands. -/
def TmpsD (p : Pt) (σ : Sig) (T : Tr AV) (a : Act) : Prop := ∀ t, p.All fun η => DenV η σ (getT T t) (a.tmps.getD t undef)
theorem alive_of {h : Tr ABlk} {g : Nat} (ha : Mt.alive h g = true) : Alive h g := fun h0 => by
  unfold Mt.alive at ha
  unfold blk at h0
  cases hg : h.get g with
  | none => rw [hg] at ha; cases ha
  | some x => rw [hg] at ha h0; subst h0; cases ha
theorem evalA_sound {p : Pt} {σ : Sig} {st : St} {w : World} {a : Act} (hT : TmpsD p σ st.tmps a) (hR : RelH p σ st.heap st.nb w) (x : Operand) : p.All fun η => DenV η σ (evalA st x) (a.eval x) := by
  cases x with
  | tmp t => exact hT t
  | const v => exact fun η _ => ofValue_sound η σ v
  | global g =>
    simp only [evalA]
    cases hg : (Nat.blt g 8 && Mt.alive st.heap g)
    · exact fun _ _ => trivial
    · simp only [Bool.and_eq_true, blt_iff] at hg
      obtain ⟨n, hn⟩ := hR.glob g hg.1 (alive_of hg.2)
      exact fun η _ => ⟨g, n, 0, hn, by simp, rfl⟩
  | func f => exact fun η _ => ⟨[], rfl, trivial⟩
theorem evalL_sound {p : Pt} {σ : Sig} {st : St} {w : World} {a : Act} (hT : TmpsD p σ st.tmps a) (hR : RelH p σ st.heap st.nb w) : ∀ l : List Operand, p.All fun η => DenVs η σ (evalL st l) (l.map a.eval)
  | [] => fun _ _ => trivial
  | x :: l => fun η hη => ⟨evalA_sound hT hR x η hη, evalL_sound hT hR l η hη⟩
theorem evalP_sound {p : Pt} {σ : Sig} {st : St} {w : World} {a : Act} (hT : TmpsD p σ st.tmps a) (hR : RelH p σ st.heap st.nb w) : ∀ l : List (Nat × Operand), p.All fun η => PartsD η σ (evalP st l) (l.map fun (i, x) => (i, a.eval x))
  | [] => fun _ _ => trivial
  | (_, x) :: l => fun η hη => ⟨⟨rfl, evalA_sound hT hR x η hη⟩, evalP_sound hT hR l η hη⟩
theorem evalO_sound {p : Pt} {σ : Sig} {st : St} {w : World} {a : Act} (hT : TmpsD p σ st.tmps a) (hR : RelH p σ st.heap st.nb w) (x : Option Operand) : p.All fun η => OptD η σ (evalO st x) (x.map a.eval) := by
  cases x with
  | none => exact fun _ _ => trivial
  | some x => exact evalA_sound hT hR x
theorem DenVs.append {η : Va} {σ : Sig} : ∀ {l r : List AV} {vs ws : List Value}, DenVs η σ l vs → DenVs η σ r ws → DenVs η σ (l ++ r) (vs ++ ws)
  | [], _, [], _, _, h => h
  | _ :: _, _, _ :: _, _, h, h' => ⟨h.1, DenVs.append h.2 h'⟩
theorem ptrsOf_den {η : Va} {σ : Sig} : ∀ {l : List Nat} {vs : List Value}, DenCaps σ l vs → DenVs η σ (ptrsOf l) vs
  | [], [], _ => trivial
  | b :: l, v :: vs, h => by
    obtain ⟨⟨c, n, hb, hv⟩, h⟩ := h
    exact ⟨⟨c, n, 0, hb, by simp, hv⟩, ptrsOf_den h⟩
theorem capsOf_sound {p : Pt} {σ : Sig} : ∀ {l : List AV} {cs : List Nat} {vs : List Value}, capsOf l = .ok cs → (p.All fun η => DenVs η σ l vs) → DenCaps σ cs vs
  | [], cs, vs, h, hd => by
    cases h
    rw [DenVs.nil hd]
    trivial
  | a :: l, cs, vs, h, hd => by
    unfold capsOf at h
    split at h
    · rename_i he; cases he
    · rename_i b r he
      cases he
      obtain ⟨cs', hcs, h⟩ := R.bind_ok h
      cases h
      obtain ⟨v, r', rfl, h1, h2⟩ := DenVs.cons hd
      obtain ⟨c, n, hσ, rfl⟩ := ptr0 h1
      exact ⟨⟨c, n, hσ, rfl⟩, capsOf_sound hcs h2⟩
    · cases h
theorem pickWays_mem {st : St} {a b : AV} : ∀ {l : List (Bool × Ctx)} {v : Bool} {Φ : Ctx}, (v, Φ) ∈ l → (⟨Φ, bif v then a else b, st.heap, st.nb⟩ : Upd) ∈ pickWays st a b l
  | (v', Φ') :: r, v, Φ, h => by
    rcases List.mem_cons.1 h with h | h
    · cases h; exact List.mem_cons_self
    · exact List.mem_cons_of_mem _ (pickWays_mem h)
theorem updsOuts_mem : ∀ {l : Outs} {o : AV × Ctx × Tr ABlk × Nat}, o ∈ l → (⟨o.2.1, o.1, o.2.2.1, o.2.2.2⟩ : Upd) ∈ updsOuts l
  | (v, Φ, h, nb) :: r, o, hm => by
    rcases List.mem_cons.1 hm with rfl | hm
    · exact List.mem_cons_self
    · exact List.mem_cons_of_mem _ (updsOuts_mem hm)
theorem isConst_side {x y : Operand} (h : (isConst x || isConst y) = true) : conSide x y := by
  simp only [Bool.or_eq_true] at h
  rcases h with h | h
  · cases x <;> simp only [isConst] at h <;> first | (cases h; done) | exact .inl ⟨_, rfl⟩
  · cases y <;> simp only [isConst] at h <;> first | (cases h; done) | exact .inr ⟨_, rfl⟩
theorem DenT.get {η : Va} {σ : Sig} : ∀ {cs : List (Bool × List SV)} {vs : List Value} {i : Nat}, DenT η σ cs vs →
    match cs[i]? with
    | some (true, l) => ∃ v, vs[i]? = some v ∧ DenV η σ (.agg l) v
    | some (false, [s]) => ∃ v, vs[i]? = some v ∧ DenV η σ (.sc s) v
    | _ => True
  | [], [], i, _ => by simp
  | (true, l) :: cs, v :: vs, 0, h => by
    obtain ⟨⟨xs, rfl, hd⟩, _⟩ := h
    exact ⟨_, rfl, xs, rfl, hd⟩
  | (false, l) :: cs, v :: vs, 0, h => by
    obtain ⟨⟨s, rfl, hd⟩, _⟩ := h
    exact ⟨_, rfl, DenV.of hd⟩
  | (true, l) :: cs, v :: vs, i + 1, h => by simpa using DenT.get (i := i) h.2
  | (false, l) :: cs, v :: vs, i + 1, h => by simpa using DenT.get (i := i) h.2
theorem tup_fix {p : Pt} {σ : Sig} {cs : List (Bool × List SV)} {a : Value} (h : p.All fun η => DenV η σ (.tup cs) a) : ∃ vs, a = .tuple ⟨vs⟩ ∧ p.All fun η => DenT η σ cs vs := by
  obtain ⟨vs, rfl, _⟩ := h.self
  refine ⟨vs, rfl, fun η hη => ?_⟩
  obtain ⟨vs', h1, h2⟩ := h η hη
  simp only [Value.tuple.injEq, Array.mk.injEq] at h1
  rw [h1]; exact h2
theorem call_run {a : Act} {o : Oper} {f : Operand} {args : Array Operand} {ts : Array TypeId} (ho : o.op = .call ⟨.value f, args, ts⟩) {g : FuncId} {vs : List Value} (hf : a.eval f = .func (.func g) #[] ⟨vs⟩) (w : World) :
    (execOp a.eval o).run P w = (callFunc g (args.map a.eval ++ ⟨vs⟩)).run P w := by
  simp only [execOp, ho, resolve, Sem.run_bind, hf, Deferred.ofValue, Sem.run_pure, Result.andThen_ok, invoke]
  simp

theorem val_run {m : Sem Value} {w w' : World} {v : Value} (h : m.run P w = .ok v w') : (do pure (Next.value (← m)) : Sem Next).run P w = .ok (.value v) w' := by simp [h]
theorem unit_run {m : Sem Unit} {w w' : World} (h : m.run P w = .ok () w') : (do m; pure Next.skip : Sem Next).run P w = .ok .skip w' := by simp [h]
/-- the operation's soundness, at its kind -/
def ExecOk (P : Program) (o : Oper) (st : St) (us : List Upd) (p : Pt) : Prop :=
  ∃ u ∈ us, ∃ q, p.le q ∧ Sat q u.ctx ∧ ∀ σ w a, TmpsD p σ st.tmps a → RelH p σ st.heap st.nb w → OpTo P o a w fun v w' => Goes q st.nb σ st.heap w u v w'
theorem ExecOk.one {o : Oper} {st : St} {v : AV} {us : List Upd} {p : Pt} (hs : Sat p st.ctx) (h : one st v = .ok us) (hk : ∀ σ w a, TmpsD p σ st.tmps a → RelH p σ st.heap st.nb w → ∃ x, (execOp a.eval o).run P w = .ok (.value x) w ∧ p.All fun η => DenV η σ v x) : ExecOk P o st us p := by
  cases h
  refine ⟨_, List.mem_singleton.2 rfl, p, p.le_refl, hs, fun σ w a hT hR => ?_⟩
  obtain ⟨x, h1, h2⟩ := hk σ w a hT hR
  exact OpTo.value h1 (Goes.still rfl rfl h2 hR)
theorem ExecOk.still {o : Oper} {st : St} {us : List Upd} {p : Pt} (h : ∃ u ∈ us, ∃ q, p.le q ∧ Sat q u.ctx ∧ u.heap = st.heap ∧ u.nb = st.nb ∧ ∀ σ w a, TmpsD p σ st.tmps a → RelH p σ st.heap st.nb w → ∃ x, (execOp a.eval o).run P w = .ok (.value x) w ∧ q.All fun η => DenV η σ u.val x) : ExecOk P o st us p := by
  obtain ⟨u, hu, q, hq, hsq, h1, h2, hx⟩ := h
  refine ⟨u, hu, q, hq, hsq, fun σ w a hT hR => ?_⟩
  obtain ⟨x, h3, h4⟩ := hx σ w a hT hR
  exact OpTo.value h3 (Goes.still h1 h2 h4 (hR.mono hq))
theorem ExecOk.goes {o : Oper} {st : St} {us : List Upd} {p : Pt} (h : ∃ u ∈ us, ∃ q, p.le q ∧ Sat q u.ctx ∧ ∀ σ w a, TmpsD p σ st.tmps a → RelH p σ st.heap st.nb w → ∃ x w', (execOp a.eval o).run P w = .ok (.value x) w' ∧ Goes q st.nb σ st.heap w u x w') : ExecOk P o st us p := by
  obtain ⟨u, hu, q, hq, hsq, hx⟩ := h
  refine ⟨u, hu, q, hq, hsq, fun σ w a hT hR => ?_⟩
  obtain ⟨x, w', h3, h4⟩ := hx σ w a hT hR
  exact OpTo.value h3 h4
theorem execA_sound {env : Env} (hE : EnvOk P env) {callF : CallF} (hC : CallOk P callF) {st : St} {o : Oper} {us : List Upd} (h : execA env callF st o.op = .ok us) {p : Pt} (hs : Sat p st.ctx) (h8 : 8 ≤ st.nb) (hex : ∃ σ w a, TmpsD p σ st.tmps a ∧ RelH p σ st.heap st.nb w) : ExecOk P o st us p := by
  have hTy := hE.ty
  unfold execA at h
  split at h
  · rename_i x ho
    exact ExecOk.one hs h fun σ w a hT hR => ⟨a.eval x, by simp [execOp, ho], evalA_sound hT hR x⟩
  · rename_i x ho
    exact ExecOk.one hs h fun σ w a hT hR => ⟨a.eval x, by simp [execOp, ho], evalA_sound hT hR x⟩
  · rename_i c x y ho
    split at h
    · rename_i cb hc
      obtain ⟨l, hl, h⟩ := R.bind_ok h
      cases h
      obtain ⟨v, Ψ, hm, hsp, hv⟩ := split_sound hs hl
      refine ⟨_, pickWays_mem hm, p, p.le_refl, hsp, fun σ w a hT hR => ?_⟩
      have h0 := evalA_sound hT hR c
      rw [hc] at h0
      obtain ⟨b, hb, hbv⟩ := den_bool h0
      have hvb : b = v := hbv.self.symm.trans hv.self
      subst hvb
      refine OpTo.value (v := if b then a.eval x else a.eval y) (w' := w) (by simp [execOp, ho, hb, asBool]) (Goes.still rfl rfl ?_ hR)
      cases b
      · exact evalA_sound hT hR y
      · exact evalA_sound hT hR x
    · cases h
  · rename_i t ho
    split at h
    · rename_i ti hti
      obtain ⟨z, hz, h⟩ := R.bind_ok h
      cases h
      refine ⟨_, List.mem_singleton.2 rfl, p, p.le_refl, hs, fun σ w a hT hR => ?_⟩
      obtain ⟨v, w', h1, h2⟩ := alloc_sound (P := P) hTy hti hz h8 hR
      exact OpTo.value (by simp only [execOp, ho]; exact val_run h1) h2
    · cases h
  · rename_i t x ho
    obtain ⟨z, hz, h⟩ := R.bind_ok h
    cases h
    refine ⟨_, List.mem_singleton.2 rfl, p, p.le_refl, hs, fun σ w a hT hR => ?_⟩
    obtain ⟨v, w', h1, h2⟩ := box_sound (P := P) (t := t) hz h8 hR (evalA_sound hT hR x)
    exact OpTo.value (by simp only [execOp, ho]; exact val_run h1) h2
  · rename_i t ps ho
    obtain ⟨u, hu, q, hq, hsq, e1, e2, hx⟩ := buildOp_sound hTy h hs
    refine ExecOk.still ⟨u, hu, q, hq, hsq, e1, e2, fun σ w a hT hR => ?_⟩
    obtain ⟨v, h1, h2⟩ := hx σ (ps.map fun (i, x) => (i, a.eval x)) w (by rw [Array.toList_map]; exact evalP_sound hT hR ps.toList)
    exact ⟨v, by simp only [execOp, ho]; exact val_run h1, h2⟩
  · rename_i t n ps ho
    obtain ⟨u, hu, q, hq, hsq, hx⟩ := buildSliceOp_sound hTy h hs h8
    refine ExecOk.goes ⟨u, hu, q, hq, hsq, fun σ w a hT hR => ?_⟩
    obtain ⟨v, w', h1, h2⟩ := hx σ w (ps.map fun (i, x) => (i, a.eval x)) (by rw [Array.toList_map]; exact evalP_sound hT hR ps.toList) hR
    exact ⟨v, w', by simp only [execOp, ho]; exact val_run h1, h2⟩
  · rename_i t x ho
    split at h
    · rename_i ti hti
      obtain ⟨l, hl, h⟩ := R.bind_ok h
      cases h
      obtain ⟨u, hu, q, hq, hsq, hx⟩ := loadOp_sound (P := P) hTy hti hl hs
      refine ExecOk.still ⟨_, updsOf_mem hu, q, hq, hsq, rfl, rfl, fun σ w a hT hR => ?_⟩
      obtain ⟨v, h1, h2⟩ := hx σ w (a.eval x) (evalA_sound hT hR x) hR
      exact ⟨v, by simp only [execOp, ho]; exact val_run h1, h2⟩
    · cases h
  · rename_i t x y ho
    split at h
    · rename_i ti hti
      obtain ⟨u, hu, q, hq, hsq, hx⟩ := storeOp_sound (P := P) hTy hti h hs
      refine ⟨u, hu, q, hq, hsq, fun σ w a hT hR => ?_⟩
      obtain ⟨w', h1, h2⟩ := hx σ w (a.eval x) (a.eval y) (evalA_sound hT hR x) (evalA_sound hT hR y) hR
      exact OpTo.skip (by simp only [execOp, ho]; exact unit_run h1) h2
    · cases h
  · rename_i x ho
    split at h
    · rename_i b off hx
      refine ExecOk.one hs h fun σ w a hT hR => ?_
      have h0 := evalA_sound hT hR x
      rw [hx] at h0
      obtain ⟨c, n, oo, _, he, _⟩ := ptr_fix h0
      exact ⟨a.eval x, by simp [execOp, ho, he], h0⟩
    · rename_i f c hx
      refine ExecOk.one hs h fun σ w a hT hR => ?_
      have h0 := evalA_sound hT hR x
      rw [hx] at h0
      obtain ⟨vs, he, _⟩ := h0.self
      exact ⟨a.eval x, by simp [execOp, ho, he], h0⟩
    · cases h
  · rename_i op t x y ty ho
    obtain ⟨u, hu, q, hq, hsq, e1, e2, hx⟩ := binOpA_sound (P := P) hTy h hs
    refine ExecOk.still ⟨u, hu, q, hq, hsq, e1, e2, fun σ w a hT hR => ?_⟩
    obtain ⟨v, h1, h2⟩ := hx σ x y (a.eval x) (a.eval y) w isConst_side (evalA_sound hT hR x) (evalA_sound hT hR y)
    exact ⟨v, by simp only [execOp, ho]; exact val_run h1, h2⟩
  · rename_i op t x ho
    obtain ⟨u, hu, q, hq, hsq, e1, e2, hx⟩ := unOpA_sound (P := P) h hs
    refine ExecOk.still ⟨u, hu, q, hq, hsq, e1, e2, fun σ w a hT hR => ?_⟩
    obtain ⟨v, h1, h2⟩ := hx σ (a.eval x) w (evalA_sound hT hR x)
    exact ⟨v, by simp only [execOp, ho]; exact val_run h1, h2⟩
  · rename_i s d x ho
    obtain ⟨u, hu, q, hq, hsq, hx⟩ := convertOp_sound (P := P) hTy h hs h8
    refine ExecOk.goes ⟨u, hu, q, hq, hsq, fun σ w a hT hR => ?_⟩
    obtain ⟨v, w', h1, h2⟩ := hx σ w (a.eval x) (evalA_sound hT hR x) hR
    exact ⟨v, w', by simp only [execOp, ho]; exact val_run h1, h2⟩
  · rename_i t x ho
    split at h
    · rename_i ti hti
      have hd := hTy.desc _ _ hti
      obtain ⟨s, hs', h⟩ := R.bind_ok h
      refine ExecOk.one hs h fun σ w a hT hR => ?_
      have h0 := evalA_sound hT hR x
      have hrun : ∀ (hn : ∀ ms, ti.desc ≠ .interface ms), (Instr.makeInterface t (a.eval x)).run P w = .ok (.iface t (a.eval x)) w := fun hn => by
        cases hdd : ti.desc <;> rw [hdd] at hd hn <;> first | exact absurd rfl (hn _) | simp [Instr.makeInterface, run_underlying hd]
      unfold ifaceA at hs'
      split at hs'
      · cases hs'
      · rename_i k e hx hn
        cases hs'
        rw [hx] at h0
        obtain ⟨i, hi, hk, hi'⟩ := den_int h0
        refine ⟨_, by simp only [execOp, ho]; exact val_run (hrun fun ms hm => hn ms hm), fun η hη => ?_⟩
        have : e.ev η.int = i := hi' η hη
        rw [hi]
        simp only [DenV, Den, this, true_and]
        exact hk
      · rename_i hn _
        cases hs'
        exact ⟨_, by simp only [execOp, ho]; exact val_run (hrun fun ms hm => hn ms hm), fun η _ => ⟨_, _, rfl⟩⟩
    · cases h
  · rename_i f cs ho
    obtain ⟨l, hl, h⟩ := R.bind_ok h
    refine ExecOk.one hs h fun σ w a hT hR => ?_
    have h0 := capsOf_sound hl (evalL_sound hT hR cs.toList)
    refine ⟨.func (.func f) #[] (cs.map a.eval), by simp [execOp, ho, Instr.makeFunc], fun η _ => ⟨cs.toList.map a.eval, ?_, h0⟩⟩
    congr 1
    apply Array.ext'
    simp
  · rename_i t r ho
    obtain ⟨hr, u, hu, q, hq, hsq, hx⟩ := makeMapOp_sound (P := P) hTy h hs h8
    have hr' : r = none := by
      cases r with
      | none => rfl
      | some x => cases hr
    subst hr'
    refine ExecOk.goes ⟨u, hu, q, hq, hsq, fun σ w a hT hR => ?_⟩
    obtain ⟨v, w', h1, h2⟩ := hx σ w hR
    exact ⟨v, w', by simp only [execOp, ho]; exact val_run h1, h2⟩
  · rename_i t l c ho
    obtain ⟨u, hu, q, hq, hsq, hx⟩ := makeSliceOp_sound (P := P) hTy h hs h8
    refine ExecOk.goes ⟨u, hu, q, hq, hsq, fun σ w a hT hR => ?_⟩
    obtain ⟨v, w', h1, h2⟩ := hx σ w (a.eval l) (a.eval c) (evalA_sound hT hR l) (evalA_sound hT hR c) hR
    exact ⟨v, w', by simp only [execOp, ho]; exact val_run h1, h2⟩
  · rename_i t x l hh m ho
    obtain ⟨u, hu, q, hq, hsq, e1, e2, hx⟩ := sliceOp_sound (P := P) hTy h hs
    refine ExecOk.still ⟨u, hu, q, hq, hsq, e1, e2, fun σ w a hT hR => ?_⟩
    obtain ⟨v, h1, h2⟩ := hx σ w (a.eval x) (l.map a.eval) (hh.map a.eval) (m.map a.eval) (evalA_sound hT hR x) (evalO_sound hT hR l) (evalO_sound hT hR hh) (evalO_sound hT hR m) hR
    exact ⟨v, by simp only [execOp, ho]; exact val_run h1, h2⟩
  · rename_i t x i ho
    obtain ⟨u, hu, q, hq, hsq, e1, e2, hx⟩ := fieldAddrOp_sound (P := P) hTy h hs
    refine ExecOk.still ⟨u, hu, q, hq, hsq, e1, e2, fun σ w a hT hR => ?_⟩
    obtain ⟨v, h1, h2⟩ := hx σ w hR (a.eval x) (evalA_sound hT hR x)
    exact ⟨v, by simp only [execOp, ho]; exact val_run h1, h2⟩
  · rename_i t x i ho
    obtain ⟨u, hu, q, hq, hsq, e1, e2, hx⟩ := fieldOp_sound (P := P) hTy h hs
    refine ExecOk.still ⟨u, hu, q, hq, hsq, e1, e2, fun σ w a hT hR => ?_⟩
    obtain ⟨v, h1, h2⟩ := hx σ w hR (a.eval x) (evalA_sound hT hR x)
    exact ⟨v, by simp only [execOp, ho]; exact val_run h1, h2⟩
  · rename_i t x i ho
    obtain ⟨u, hu, q, hq, hsq, e1, e2, hx⟩ := indexAddrOp_sound (P := P) hTy h hs
    refine ExecOk.still ⟨u, hu, q, hq, hsq, e1, e2, fun σ w a hT hR => ?_⟩
    obtain ⟨v, h1, h2⟩ := hx σ w hR (a.eval x) (a.eval i) (evalA_sound hT hR x) (evalA_sound hT hR i)
    exact ⟨v, by simp only [execOp, ho]; exact val_run h1, h2⟩
  · rename_i t x i ho
    obtain ⟨u, hu, q, hq, hsq, e1, e2, hx⟩ := indexOp_sound (P := P) hTy h hs
    refine ExecOk.still ⟨u, hu, q, hq, hsq, e1, e2, fun σ w a hT hR => ?_⟩
    obtain ⟨v, h1, h2⟩ := hx σ w hR (a.eval x) (a.eval i) (evalA_sound hT hR x) (evalA_sound hT hR i)
    exact ⟨v, by simp only [execOp, ho]; exact val_run h1, h2⟩
  · rename_i t m k ok ho
    obtain ⟨u, hu, q, hq, hsq, e1, e2, hx⟩ := lookupOp_sound (P := P) hTy h hs
    refine ExecOk.still ⟨u, hu, q, hq, hsq, e1, e2, fun σ w a hT hR => ?_⟩
    obtain ⟨v, h1, h2⟩ := hx σ w (a.eval m) (a.eval k) (evalA_sound hT hR m) (evalA_sound hT hR k) hR
    exact ⟨v, by simp only [execOp, ho]; exact val_run h1, h2⟩
  · rename_i t m k v ho
    obtain ⟨u, hu, q, hq, hsq, hx⟩ := mapUpdateOp_sound (P := P) hTy h hs
    refine ⟨u, hu, q, hq, hsq, fun σ w a hT hR => ?_⟩
    obtain ⟨w', h1, h2⟩ := hx σ w (a.eval m) (a.eval k) (a.eval v) (evalA_sound hT hR m) (evalA_sound hT hR k) (evalA_sound hT hR v) hR
    exact OpTo.skip (by simp only [execOp, ho]; exact unit_run h1) h2
  · rename_i t m k v ho
    obtain ⟨u, hu, q, hq, hsq, hx⟩ := mapUpdateOp_sound (P := P) hTy h hs
    refine ⟨u, hu, q, hq, hsq, fun σ w a hT hR => ?_⟩
    obtain ⟨w', h1, h2⟩ := hx σ w (a.eval m) (a.eval k) (a.eval v) (evalA_sound hT hR m) (evalA_sound hT hR k) (evalA_sound hT hR v) hR
    exact OpTo.skip (by simp only [execOp, ho]; exact unit_run h1) h2
  · rename_i t x ho
    obtain ⟨u, hu, q, hq, hsq, hx⟩ := rangeOp_sound (P := P) hTy h hs h8
    refine ExecOk.goes ⟨u, hu, q, hq, hsq, fun σ w a hT hR => ?_⟩
    obtain ⟨v, w', h1, h2⟩ := hx σ w (a.eval x) (evalA_sound hT hR x) hR
    exact ⟨v, w', by simp only [execOp, ho]; exact val_run h1, h2⟩
  · rename_i x s ho
    obtain ⟨u, hu, q, hq, hsq, hx⟩ := nextOp_sound (P := P) h hs o.type
    refine ExecOk.goes ⟨u, hu, q, hq, hsq, fun σ w a hT hR => ?_⟩
    obtain ⟨v, w', h1, h2⟩ := hx σ w (a.eval x) (evalA_sound hT hR x) hR
    exact ⟨v, w', by simp only [execOp, ho]; exact val_run h1, h2⟩
  · rename_i x i ho
    split at h
    · rename_i vs hx
      have main : ∀ σ w a, TmpsD p σ st.tmps a → RelH p σ st.heap st.nb w → ∃ xs, a.eval x = .tuple ⟨xs⟩ ∧ p.All fun η => DenT η σ vs xs := fun σ w a hT hR => by
        have h0 := evalA_sound hT hR x
        rw [hx] at h0
        exact tup_fix h0
      split at h
      · rename_i cs hv
        refine ExecOk.one hs h fun σ w a hT hR => ?_
        obtain ⟨xs, he, hd⟩ := main σ w a hT hR
        have h1 := DenT.get (i := i) hd.self
        rw [hv] at h1
        obtain ⟨v, hv1, _⟩ := h1
        refine ⟨v, by simp [execOp, ho, he, Instr.extract, hv1], fun η hη => ?_⟩
        have h2 := DenT.get (i := i) (hd η hη)
        rw [hv] at h2
        obtain ⟨v', hv2, h3⟩ := h2
        rw [hv1] at hv2; cases hv2
        exact h3
      · rename_i s hv
        refine ExecOk.one hs h fun σ w a hT hR => ?_
        obtain ⟨xs, he, hd⟩ := main σ w a hT hR
        have h1 := DenT.get (i := i) hd.self
        rw [hv] at h1
        obtain ⟨v, hv1, _⟩ := h1
        refine ⟨v, by simp [execOp, ho, he, Instr.extract, hv1], fun η hη => ?_⟩
        have h2 := DenT.get (i := i) (hd η hη)
        rw [hv] at h2
        obtain ⟨v', hv2, h3⟩ := h2
        rw [hv1] at hv2; cases hv2
        exact h3
      · cases h
    · cases h
  · rename_i f args ts ho
    split at h
    · rename_i g caps hf
      have main : ∀ σ w a, TmpsD p σ st.tmps a → RelH p σ st.heap st.nb w → ∃ vs : Array Value, (execOp a.eval o).run P w = (callFunc g vs).run P w ∧ p.All fun η => DenVs η σ (evalL st args.toList ++ ptrsOf caps) vs.toList := fun σ w a hT hR => by
        have h0 := evalA_sound hT hR f
        rw [hf] at h0
        obtain ⟨vs, he, hc⟩ := h0.self
        refine ⟨args.map a.eval ++ ⟨vs⟩, call_run ho he w, fun η hη => ?_⟩
        rw [Array.toList_append, Array.toList_map]
        exact DenVs.append (evalL_sound hT hR args.toList η hη) (ptrsOf_den hc)
      unfold callOp at h
      split at h
      · rename_i code hcode
        obtain ⟨u, hu, q, hq, hsq, e1, e2, hx⟩ := externOp_sound (P := P) h hs
        refine ExecOk.still ⟨u, hu, q, hq, hsq, e1, e2, fun σ w a hT hR => ?_⟩
        obtain ⟨vs, h1, h2⟩ := main σ w a hT hR
        obtain ⟨v, h3, h4⟩ := hx σ vs w h2
        exact ⟨v, by rw [h1, hE.ext g code hcode, h3]; rfl, h4⟩
      · obtain ⟨l, hl, h⟩ := R.bind_ok h
        cases h
        obtain ⟨oo, hoo, q, hq, hsq, hx⟩ := hC g _ st l hl h8 p hs (by
          obtain ⟨σ, w, a, hT, hR⟩ := hex
          obtain ⟨vs, _, h2⟩ := main σ w a hT hR
          exact ⟨σ, w, vs, h2, hR⟩)
        refine ⟨_, updsOuts_mem hoo, q, hq, hsq, fun σ w a hT hR => ?_⟩
        obtain ⟨vs, h1, h2⟩ := main σ w a hT hR
        obtain ⟨h3, h4⟩ := hx σ w vs h2 hR
        unfold OpTo
        rw [h1, h3]
        exact h4
    · cases h
  · rename_i b args ts ho
    obtain ⟨u, hu, q, hq, hsq, hx⟩ := builtinOp_sound (P := P) hTy hE.u8 h hs h8 o.type (args.map fun | .const _ => true | _ => false)
    refine ExecOk.goes ⟨u, hu, q, hq, hsq, fun σ w a hT hR => ?_⟩
    obtain ⟨v, w', h1, h2⟩ := hx σ w (args.map a.eval) (by rw [Array.toList_map]; exact evalL_sound hT hR args.toList) hR
    refine ⟨v, w', ?_, h2⟩
    have : ts = ts.toList.toArray := by simp
    rw [← this] at h1
    simp only [execOp, ho, resolve, Sem.run_bind, Sem.run_pure, Result.andThen_ok, invoke]
    exact h1
  · cases h
end
end Go.Hal
namespace Go.Hal
noncomputable section
open Go
variable {P : Program}

/-- a state stands for an act and a world -/
structure Rel (p : Pt) (σ : Sig) (st : St) (a : Act) (w : World) : Prop where
  tm : TmpsD p σ st.tmps a
  sz : a.tmps.size = st.nt
  hp : RelH p σ st.heap st.nb w
  df : a.defers = []
theorem getT_set (T : Tr AV) (v : AV) (d t : Nat) : getT (T.set v d) t = if t = d then v else getT T t := by
  unfold getT
  rw [Tr.get_set]
  by_cases h : t = d
  · simp [h]
  · simp [h]
theorem put_getD {a : Act} {d : Nat} {v : Value} (hd : d < a.tmps.size) (t : Nat) : (a.put (some d) v).tmps.getD t undef = if t = d then v else a.tmps.getD t undef := by
  simp only [Act.put, Array.getD_eq_getD_getElem?, Array.getElem?_setIfInBounds]
  by_cases h : t = d
  · subst h; simp [hd]
  · simp [h, Ne.symm h]
theorem TmpsD.move {p q : Pt} (hpq : p.le q) {σ σ' : Sig} (hσ : σ.ext σ') {T : Tr AV} {a : Act} (h : TmpsD p σ T a) : TmpsD q σ' T a := fun t η hη => (h t).mono hpq η hη |>.ext hσ
theorem putDst_sound {st : St} {d : Option Nat} {v : AV} {T : Tr AV} (h : putDst st d v = .ok T) {q : Pt} {σ : Sig} {a : Act} (hsz : a.tmps.size = st.nt) (hT : TmpsD q σ st.tmps a) {x : Value} (hx : q.All fun η => DenV η σ v x) : TmpsD q σ T (a.put d x) := by
  unfold putDst at h
  split at h
  · rename_i d
    obtain ⟨hd, h⟩ := bif_ok h
    cases h
    have hd' : d < a.tmps.size := by rw [hsz]; exact (blt_iff _ _).1 hd
    intro t η hη
    rw [getT_set, put_getD hd']
    split
    · exact hx η hη
    · exact hT t η hη
  · cases h; exact hT
theorem put_size (a : Act) (d : Option Nat) (x : Value) : (a.put d x).tmps.size = a.tmps.size := by
  cases d <;> simp [Act.put]
theorem put_defers (a : Act) (d : Option Nat) (x : Value) : (a.put d x).defers = a.defers := by
  cases d <;> rfl
theorem Rel.mono {p q : Pt} {σ : Sig} {st : St} {a : Act} {w : World} (h : Rel p σ st a w) (hpq : p.le q) : Rel q σ st a w := ⟨fun t => (h.tm t).mono hpq, h.sz, h.hp.mono hpq, h.df⟩
theorem wayIs_mem {want : Bool} {st : St} : ∀ {l : List (Bool × Ctx)} {v : Bool} {Φ : Ctx}, (v, Φ) ∈ l → (v == want, st.atCtx Φ) ∈ wayIs want st l
  | (v', Φ') :: r, v, Φ, h => by
    rcases List.mem_cons.1 h with h | h
    · cases h; exact List.mem_cons_self
    · exact List.mem_cons_of_mem _ (wayIs_mem h)
theorem dstOf_eq (ops : Array Oper) (j : Nat) : dstOf ops j = (ops[j]?).bind (·.dst) := by
  unfold dstOf
  rw [Array.getElem?_toList]
  cases ops[j]? <;> rfl
theorem yielded_eq {ops : Array Oper} {j d : Nat} (hd : dstOf ops j = some d) (a : Act) : yielded ops a.tmps j = match a.tmps.getD d undef with | .bool b => some b | _ => none := by
  unfold yielded
  rw [← dstOf_eq, hd, Option.bind_some]
  rw [Array.getD_eq_getD_getElem?]
  cases a.tmps[d]? with
  | none => rfl
  | some v => cases v <;> rfl
theorem wantedA_sound {ops : Array Oper} {o : Oper} {st : St} {ws : List (Bool × St)} (h : wantedA ops o st = .ok ws) {p : Pt} (hs : Sat p st.ctx) :
    ∃ b Φ, (b, st.atCtx Φ) ∈ ws ∧ Sat p Φ ∧ ∀ σ a, TmpsD p σ st.tmps a → Region.wanted o (yielded ops a.tmps) = b := by
  unfold wantedA at h
  split at h
  · rename_i hg
    cases h
    exact ⟨true, st.ctx, by simp [St.atCtx], hs, fun σ a _ => by simp [Region.wanted, hg]⟩
  · rename_i j want hg
    split at h
    · cases h
    · rename_i d hd
      split at h
      · rename_i hv
        cases h
        refine ⟨false, st.ctx, by simp [St.atCtx], hs, fun σ a hT => ?_⟩
        have h0 := (hT d).self
        rw [hv] at h0
        obtain ⟨vs, h1, h2⟩ := h0
        simp only [Region.wanted, hg, yielded_eq hd, h1]
        rfl
      · rename_i c hv
        obtain ⟨l, hl, h⟩ := R.bind_ok h
        cases h
        obtain ⟨v, Ψ, hm, hsp, hvv⟩ := split_sound hs hl
        refine ⟨v == want, Ψ, wayIs_mem hm, hsp, fun σ a hT => ?_⟩
        have h0 := hT d
        rw [hv] at h0
        obtain ⟨b, h1, h2⟩ := den_bool h0
        have hbv : b = v := h2.self.symm.trans hvv.self
        simp only [Region.wanted, hg, yielded_eq hd, h1, hbv]
        cases v <;> cases want <;> rfl
      · cases h
theorem flatL_mem {α β : Type} {f : α → R (List β)} : ∀ {l : List α} {r : List β} {x : α}, R.flatL f l = .ok r → x ∈ l → ∃ s, f x = .ok s ∧ ∀ y ∈ s, y ∈ r
  | a :: l, r, x, h, hx => by
    simp only [R.flatL] at h
    obtain ⟨b, hb, h⟩ := R.bind_ok h
    obtain ⟨c, hc, h⟩ := R.bind_ok h
    cases h
    rcases List.mem_cons.1 hx with rfl | hx
    · exact ⟨b, hb, fun y hy => List.mem_append_left _ hy⟩
    · obtain ⟨s, h1, h2⟩ := flatL_mem hc hx
      exact ⟨s, h1, fun y hy => List.mem_append_right _ (h2 y hy)⟩
theorem sayAt_ok {α : Type} {s : String} {x : R α} {a : α} (h : sayAt s x = .ok a) : x = .ok a := by
  cases x <;> simp only [sayAt] at h <;> first | (cases h; done) | exact h
/-- from a state to another -/
def Leads (p : Pt) (st : St) (q : Pt) (st' : St) (F : (Exit → Act → World → Prop) → Act → World → Prop) : Prop :=
  p.le q ∧ Sat q st'.ctx ∧ st'.nt = st.nt ∧ 8 ≤ st'.nb ∧ (∃ σ w a, Rel q σ st' a w) ∧
    ∀ σ w a, Rel p σ st a w → ∀ Q : Exit → Act → World → Prop, (∀ σ' w' a', Step st.nb σ st.heap w st'.nb σ' st'.heap w' → Rel q σ' st' a' w' → Q .normal a' w') → F Q a w
theorem Rel.after {p q : Pt} {σ σ' : Sig} {st : St} {a : Act} {w w' : World} (hr : Rel p σ st a w) (hpq : p.le q) {u : Upd} {v : Value} {d : Option Nat} {T : Tr AV} (hT : putDst st d u.val = .ok T)
    (hstep : Step st.nb σ st.heap w u.nb σ' u.heap w') (hd : q.All fun η => DenV η σ' u.val v) (hR : RelH q σ' u.heap u.nb w') : Rel q σ' ⟨u.ctx, T, u.heap, u.nb, st.nt⟩ (a.put d v) w' :=
  ⟨putDst_sound hT hr.sz (hr.tm.move hpq (hstep.sig hr.hp.full)) hd, (put_size _ _ _).trans hr.sz, hR, (put_defers _ _ _).trans hr.df⟩
theorem runOps_sound {env : Env} (hE : EnvOk P env) {callF : CallF} (hC : CallOk P callF) {ops : Array Oper} : ∀ (l : List Oper) (k : Nat), (∀ i, i < l.length → ops[k + i]? = l[i]?) → ∀ {st : St} {outs : List St}, runOps env callF ops l st = .ok outs →
    ∀ {p : Pt}, Sat p st.ctx → 8 ≤ st.nb → (∃ σ w a, Rel p σ st a w) → ∃ st' ∈ outs, ∃ q, Leads p st q st' fun Q a w => wpOps P ops Q (List.range' k l.length) a w
  | [], k, _, st, outs, h, p, hs, h8, hex => by
    cases h
    exact ⟨st, List.mem_singleton.2 rfl, p, p.le_refl, hs, rfl, h8, hex, fun σ w a hr Q hQ => hQ σ w a (Step.refl _ _ _ _) hr⟩
  | o :: l, k, hops, st, outs, h, p, hs, h8, hex => by
    simp only [runOps, forceN_eq] at h
    obtain ⟨ws, hws, h⟩ := R.bind_ok h
    obtain ⟨b, Φ, hm, hsΦ, hw⟩ := wantedA_sound hws hs
    obtain ⟨s, hs', hsub⟩ := flatL_mem h hm
    have hk : ops[k]? = some o := by have := hops 0 (by simp); simpa using this
    have hrest : ∀ i, i < l.length → ops[k + 1 + i]? = l[i]? := fun i hi => by
      have := hops (i + 1) (by simp; omega)
      rw [show k + 1 + i = k + (i + 1) by omega, this]; simp
    have hlen : List.range' k (o :: l).length = k :: List.range' (k + 1) l.length := by simp [List.range'_succ]
    cases b
    · simp only [cond_false] at hs'
      obtain ⟨T, hT, hs'⟩ := R.bind_ok hs'
      have step : ∀ {σ w a}, Rel p σ st a w → Rel p σ ⟨Φ, T, st.heap, st.nb, st.nt⟩ (a.put o.dst undef) w := fun {σ w a} hr =>
        ⟨putDst_sound (st := st.atCtx Φ) hT hr.sz hr.tm fun η _ => undef_den η σ, (put_size _ _ _).trans hr.sz, hr.hp, (put_defers _ _ _).trans hr.df⟩
      obtain ⟨st', hm', q, hq, hsq, hnt, hnb, hex', hx⟩ := runOps_sound hE hC l (k + 1) hrest hs' (p := p) hsΦ h8 (by
        obtain ⟨σ, w, a, hr⟩ := hex
        exact ⟨σ, w, _, step hr⟩)
      refine ⟨st', hsub _ hm', q, hq, hsq, hnt, hnb, hex', fun σ w a hr Q hQ => ?_⟩
      rw [hlen]
      simp only [wpOps, hk, hw σ a hr.tm, Bool.false_eq_true, if_false]
      exact hx σ w (a.put o.dst undef) (step hr) Q hQ
    · simp only [cond_true] at hs'
      obtain ⟨us, hus, hs'⟩ := R.bind_ok hs'
      obtain ⟨u, hu, q1, hq1, hsq1, hx1⟩ := execA_sound hE hC (sayAt_ok hus) (p := p) hsΦ h8 (by
        obtain ⟨σ, w, a, hr⟩ := hex
        exact ⟨σ, w, a, hr.tm, hr.hp⟩)
      obtain ⟨s2, hs2, hsub2⟩ := flatL_mem hs' hu
      obtain ⟨T, hT, hs2⟩ := R.bind_ok hs2
      have hnext : ∃ σ w a, Rel q1 σ ⟨u.ctx, T, u.heap, u.nb, st.nt⟩ a w ∧ st.nb ≤ u.nb := by
        obtain ⟨σ, w, a, hr⟩ := hex
        obtain ⟨v, w', σ', h1, h2, h3⟩ := (hx1 σ w a hr.tm hr.hp).some
        exact ⟨σ', w', _, Rel.after (st := st) hr hq1 (u := u) hT h1 h2 h3, h1.le⟩
      obtain ⟨σ0, w0, a0, hr0, hnb0⟩ := hnext
      obtain ⟨st', hm', q, hq, hsq, hnt, hnb, hex', hx⟩ := runOps_sound hE hC l (k + 1) hrest hs2 (p := q1) hsq1 (Nat.le_trans h8 hnb0) ⟨σ0, w0, a0, hr0⟩
      refine ⟨st', hsub _ (hsub2 _ hm'), q, hq1.trans hq, hsq, hnt, hnb, hex', fun σ w a hr Q hQ => ?_⟩
      rw [hlen]
      simp only [wpOps, hk, hw σ a hr.tm, if_true]
      refine .inl (OpTo.wp (hx1 σ w a hr.tm hr.hp) fun v w' hg => ?_)
      obtain ⟨σ', h1, h2, h3⟩ := hg
      refine hx σ' w' (a.put o.dst v) (Rel.after (st := st) hr hq1 (u := u) hT h1 h2 h3) Q fun σ'' w'' a'' hst hrel => hQ σ'' w'' a'' (h1.trans hst) hrel
theorem region_sound {env : Env} (hE : EnvOk P env) {callF : CallF} (hC : CallOk P callF) {id : Nat} {ops : Array Oper} {st : St} {outs : List St} (h : runOps env callF ops ops.toList st = .ok outs) {p : Pt} (hs : Sat p st.ctx) (h8 : 8 ≤ st.nb) (hex : ∃ σ w a, Rel p σ st a w) :
    ∃ st' ∈ outs, ∃ q, Leads p st q st' fun Q a w => (Code.region id ops false).wp P Q a w := by
  obtain ⟨st', hm, q, h1, h2, h3, h4, h5, hx⟩ := runOps_sound hE hC (ops := ops) ops.toList 0 (fun i hi => by simp) h hs h8 hex
  refine ⟨st', hm, q, h1, h2, h3, h4, h5, fun σ w a hr Q hQ => wp_region ?_⟩
  have := hx σ w a hr Q hQ
  rw [Array.length_toList, ← List.range_eq_range'] at this
  exact this
end
end Go.Hal
namespace Go.Hal
noncomputable section
open Go

def TBd (η ζ : Va) (a : Nat) : TB → Prop
  | .lin e => ζ.int a = e.ev η.int
  | .bool b => ζ.int a = bif b.ev η then 1 else 0
  | .str s => ζ.str a = s.ev η
  | .cells cs => ζ.row a = cs.map (cellVal η)
  | .ren b => ζ.int a = η.int b ∧ ζ.str a = η.str b ∧ ζ.row a = η.row b ∧ ζ.map a = η.map b
def TBok (η : Va) : TB → Prop
  | .str s => (slen s).ev η.int = ((s.ev η).size : Int)
  | .cells cs => ∀ σ, DenL η σ cs (cs.map (cellVal η))
  | _ => True
/-- a template's valuation fits what its atoms are bound to -/
structure Fits (m : Mt) (η ζ : Va) : Prop where
  base : Va.agr m.n0 η ζ
  th : ∀ a tb, m.th.get a = some tb → TBd η ζ a tb
/-- a place's image: 0 is nil's -/
def imgS (σ : Sig) : Nat → Sg
  | 0 => .nil
  | j + 1 => σ j
/-- the blocks' places fit -/
structure FitsB (m : Mt) (σ τ : Sig) : Prop where
  base : ∀ b, b < m.b0 → τ b = σ b
  be : ∀ t k, m.be.get t = some k → τ t = imgS σ k
/-- what is bound is the template's own -/
structure Mt.Wf (m : Mt) : Prop where
  th : ∀ a tb, m.th.get a = some tb → m.n0 ≤ a ∧ a < m.n1
  be : ∀ t k, m.be.get t = some k → m.b0 ≤ t ∧ t < m.b1
def Mt.MOk (m : Mt) (η : Va) : Prop := ∀ a tb, m.th.get a = some tb → TBok η tb
/-- more is bound -/
structure Mt.Le (m m' : Mt) : Prop where
  n0 : m'.n0 = m.n0
  n1 : m'.n1 = m.n1
  b0 : m'.b0 = m.b0
  b1 : m'.b1 = m.b1
  th : ∀ a tb, m.th.get a = some tb → m'.th.get a = some tb
  be : ∀ t k, m.be.get t = some k → m'.be.get t = some k
theorem Mt.Le.refl (m : Mt) : m.Le m := ⟨rfl, rfl, rfl, rfl, fun _ _ h => h, fun _ _ h => h⟩
theorem Mt.Le.trans {a b c : Mt} (h : a.Le b) (h' : b.Le c) : a.Le c :=
  ⟨h'.n0.trans h.n0, h'.n1.trans h.n1, h'.b0.trans h.b0, h'.b1.trans h.b1, fun x tb hx => h'.th x tb (h.th x tb hx), fun x k hx => h'.be x k (h.be x k hx)⟩
theorem Fits.of_le {m m' : Mt} (h : m.Le m') {η ζ : Va} (hf : Fits m' η ζ) : Fits m η ζ := ⟨h.n0 ▸ hf.base, fun a tb ha => hf.th a tb (h.th a tb ha)⟩
theorem FitsB.of_le {m m' : Mt} (h : m.Le m') {σ τ : Sig} (hf : FitsB m' σ τ) : FitsB m σ τ := ⟨fun b hb => hf.base b (by rw [h.b0]; exact hb), fun t k ht => hf.be t k (h.be t k ht)⟩
theorem Mt.free_spec {m : Mt} {a : Nat} (h : m.free a = true) : m.n0 ≤ a ∧ a < m.n1 ∧ m.th.get a = none := by
  simp only [Mt.free, Bool.and_eq_true, ble_iff, blt_iff] at h
  refine ⟨h.1.1, h.1.2, ?_⟩
  cases hg : m.th.get a with
  | none => rfl
  | some x => rw [hg] at h; cases h.2
theorem Mt.bind_le {m : Mt} {a : Nat} {x : TB} (h : m.th.get a = none) : m.Le (m.bind a x) :=
  ⟨rfl, rfl, rfl, rfl, fun b tb hb => by
    simp only [Mt.bind, Tr.get_set]
    split
    · rename_i e; subst e; rw [h] at hb; cases hb
    · exact hb, fun _ _ h => h⟩
theorem Mt.bind_wf {m : Mt} (hw : m.Wf) {a : Nat} {x : TB} (h0 : m.n0 ≤ a) (h1 : a < m.n1) : (m.bind a x).Wf :=
  ⟨fun b tb hb => by
    simp only [Mt.bind, Tr.get_set] at hb
    split at hb
    · rename_i e; subst e; exact ⟨h0, h1⟩
    · exact hw.th b tb hb, hw.be⟩
theorem Mt.bind_ok {m : Mt} {η : Va} (hw : m.MOk η) {a : Nat} {x : TB} (hx : TBok η x) : (m.bind a x).MOk η := fun b tb hb => by
  simp only [Mt.bind, Tr.get_set] at hb
  split at hb
  · cases hb; exact hx
  · exact hw b tb hb
theorem Mt.bind_self {m : Mt} {a : Nat} {x : TB} : (m.bind a x).th.get a = some x := by simp [Mt.bind]
theorem Mt.bindB_le {m : Mt} {t b : Nat} (h : m.be.get t = none) : m.Le (m.bindB t b) :=
  ⟨rfl, rfl, rfl, rfl, fun _ _ h => h, fun s k hs => by
    simp only [Mt.bindB, Tr.get_set]
    split
    · rename_i e; subst e; rw [h] at hs; cases hs
    · exact hs⟩
/-- the step of a match: more is bound, all is well -/
structure MStep (m m' : Mt) : Prop where
  le : m.Le m'
  wf : m.Wf → m'.Wf
theorem MStep.refl (m : Mt) : MStep m m := ⟨.refl m, id⟩
theorem MStep.trans {a b c : Mt} (h : MStep a b) (h' : MStep b c) : MStep a c := ⟨h.le.trans h'.le, fun w => h'.wf (h.wf w)⟩
theorem MStep.bind {m : Mt} {a : Nat} {x : TB} (h : m.free a = true) : MStep m (m.bind a x) := by
  obtain ⟨h0, h1, h2⟩ := Mt.free_spec h
  exact ⟨Mt.bind_le h2, fun w => Mt.bind_wf w h0 h1⟩

/-! Numbers. -/
theorem evTs_single (v : Nat → Int) (a : Nat) (x : Int) : Lin.ev v ⟨0, [(a, x)]⟩ = x * v a := by simp [Lin.ev, Lin.evTs]
theorem subTs_sound {m : Mt} {η ζ : Va} (hf : Fits m η ζ) : ∀ {ts : List (Nat × Int)} {f : Lin}, m.subTs ts = .ok f → f.ev η.int = Lin.evTs ζ.int ts
  | [], f, h => by cases h; simp [Lin.evTs]
  | (a, x) :: r, f, h => by
    simp only [Mt.subTs] at h
    obtain ⟨e, he, h⟩ := R.bind_ok h
    have ih := subTs_sound hf he
    cases hb : Nat.blt a m.n0
    · rw [hb] at h
      simp only [cond_false] at h
      split at h
      · rename_i g hg
        cases h
        have := hf.th a _ hg
        simp only [TBd] at this
        simp only [Lin.ev_add, Lin.ev_smul, Lin.evTs, ih, this]
      · rename_i b hg
        cases h
        have := (hf.th a _ hg).1
        simp only [Lin.ev_add, evTs_single, Lin.evTs, ih, this]
      · cases h
    · rw [hb] at h
      simp only [cond_true] at h
      cases h
      have := (hf.base a ((blt_iff _ _).1 hb)).1
      simp only [Lin.ev_add, evTs_single, Lin.evTs, ih, this]
theorem subLin_sound {m : Mt} {η ζ : Va} (hf : Fits m η ζ) {e f : Lin} (h : m.subLin e = .ok f) : f.ev η.int = e.ev ζ.int := by
  unfold Mt.subLin at h
  split at h
  · rename_i ht
    cases h
    rw [Lin.ev_nil ht, Lin.ev_nil ht]
  · obtain ⟨g, hg, h⟩ := R.bind_ok h
    cases h
    rw [Lin.ev_addc, subTs_sound hf hg, Lin.ev]; omega
theorem ownAtom_spec {m : Mt} : ∀ {ts rest : List (Nat × Int)} {a : Nat} {x : Int}, m.ownAtom ts = some (rest, a, x) → m.free a = true ∧ (x = 1 ∨ x = -1) ∧ ∀ v, Lin.evTs v ts = Lin.evTs v rest + x * v a
  | (b, y) :: r, rest, a, x, h => by
    simp only [Mt.ownAtom] at h
    cases hfr : m.free b
    · rw [hfr] at h
      simp only [cond_false] at h
      split at h
      · rename_i l c z hc
        cases h
        obtain ⟨h1, h2, h3⟩ := ownAtom_spec hc
        exact ⟨h1, h2, fun v => by simp only [Lin.evTs, h3 v]; omega⟩
      · cases h
    · rw [hfr] at h
      simp only [cond_true] at h
      cases hx : (ieq y 1 || ieq y (-1))
      · rw [hx] at h; cases h
      · rw [hx] at h
        cases h
        simp only [Bool.or_eq_true, ieq_iff] at hx
        exact ⟨hfr, hx, fun v => by simp only [Lin.evTs]; omega⟩
theorem mLin_sound {Φ : Ctx} {m m' : Mt} {t e : Lin} (h : Mt.mLin Φ m t e = .ok m') : MStep m m' ∧ (∀ η, m.MOk η → m'.MOk η) ∧ ∀ η ζ, Φ.Says η.int → Fits m' η ζ → t.ev ζ.int = e.ev η.int := by
  unfold Mt.mLin at h
  split at h
  · rename_i rest a x hown
    obtain ⟨hfr, hx, hev⟩ := ownAtom_spec hown
    obtain ⟨f, hsub, h⟩ := R.bind_ok h
    cases h
    have hst := MStep.bind (x := .lin ((e.sub (f.addc t.c)).smul x)) hfr
    refine ⟨hst, fun η hm => Mt.bind_ok hm trivial, fun η ζ _ hfit => ?_⟩
    have h1 := subTs_sound (hfit.of_le hst.le) hsub
    have h2 := hfit.th a _ Mt.bind_self
    simp only [TBd, Lin.ev_smul, Lin.ev_sub, Lin.ev_addc] at h2
    have h3 := hev ζ.int
    rw [Lin.ev, h3, ← h1, h2]
    rcases hx with rfl | rfl <;> omega
  · obtain ⟨f, hsub, h⟩ := R.bind_ok h
    obtain ⟨hc, h⟩ := bif_ok h
    cases h
    refine ⟨.refl _, fun _ h => h, fun η ζ hs hfit => ?_⟩
    rw [← subLin_sound hfit hsub]
    simp only [Bool.or_eq_true] at hc
    rcases hc with hc | hc
    · rw [Lin.beq_eq hc]
    · have := Ctx.eq0_sound hs hc
      simp only [Lin.ev_sub] at this
      omega
theorem mBlk_sound {m m' : Mt} {t b : Nat} (h : m.mBlk t b = .ok m') : MStep m m' ∧ m'.th = m.th ∧ ∀ σ τ, FitsB m' σ τ → τ t = imgS σ b := by
  unfold Mt.mBlk at h
  cases hlt : Nat.blt t m.b0
  · rw [hlt] at h
    simp only [cond_false] at h
    have hge : m.b0 ≤ t := Nat.le_of_not_lt fun hh => by rw [(blt_iff _ _).2 hh] at hlt; cases hlt
    split at h
    · rename_i c hc
      obtain ⟨hb, h⟩ := bif_ok h
      cases h
      have := (beq_iff _ _).1 hb
      subst this
      exact ⟨.refl _, rfl, fun σ τ hf => hf.be t c hc⟩
    · rename_i hc
      obtain ⟨hb, h⟩ := bif_ok h
      cases h
      refine ⟨⟨Mt.bindB_le hc, fun w => ⟨w.th, fun s k hs => ?_⟩⟩, rfl, fun σ τ hf => hf.be t b (by simp [Mt.bindB])⟩
      simp only [Mt.bindB, Tr.get_set] at hs
      split at hs
      · rename_i e; subst e; exact ⟨hge, (blt_iff _ _).1 hb⟩
      · exact w.be s k hs
  · rw [hlt] at h
    simp only [cond_true] at h
    obtain ⟨hb, h⟩ := bif_ok h
    cases h
    have := (beq_iff _ _).1 hb
    subst this
    exact ⟨.refl _, rfl, fun σ τ hf => hf.base t ((blt_iff _ _).1 hlt)⟩

/-! Bools, strings. -/
theorem ownBool_ev {t : ABool} {a : Nat} (h : Mt.ownBool t = some a) (ζ : Va) : t.ev ζ = decide (1 ≤ ζ.int a) := by
  unfold Mt.ownBool at h
  split at h
  · cases h
    have h1 : (Int.negSucc 0 : Int) = -1 := rfl
    have h2 : (Int.ofNat 1 : Int) = 1 := rfl
    simp only [ABool.ev, Lin.ev, Lin.evTs, h1, h2]
    rw [Bool.eq_iff_iff, decide_eq_true_iff, decide_eq_true_iff]
    omega
  · cases h
theorem rBoolL_sound {m : Mt} {η ζ : Va} (hf : Fits m η ζ) {t u : ABool} (h : m.rBoolL t = .ok u) : u.ev η = t.ev ζ := by
  cases t <;> simp only [Mt.rBoolL] at h
  · cases h; rfl
  all_goals
    obtain ⟨e, he, h⟩ := R.bind_ok h
    cases h
    rw [mkB_ev]
    simp only [ABool.ev, subLin_sound hf he]
theorem rBool_sound {m : Mt} {η ζ : Va} (hf : Fits m η ζ) {t u : ABool} (h : m.rBool t = .ok u) : u.ev η = t.ev ζ := by
  unfold Mt.rBool at h
  split at h
  · rename_i a ha
    split at h
    · rename_i b hb
      cases h
      cases hlt : Nat.blt a m.n0
      · rw [hlt] at hb
        have := hf.th a _ hb
        simp only [TBd] at this
        rw [ownBool_ev ha, this]
        cases u.ev η <;> rfl
      · rw [hlt] at hb; cases hb
    · exact rBoolL_sound hf h
  · exact rBoolL_sound hf h
theorem beqB_eq' {a b : ABool} (h : beqB a b = true) (η : Va) : a.ev η = b.ev η := by
  cases a <;> cases b <;> simp only [beqB] at h <;> first | (cases h; done) | skip
  · have : _ = _ := beq_iff_eq.1 h
    rw [this]
  all_goals rw [Lin.beq_eq h]
theorem mBool_sound {Φ : Ctx} {m m' : Mt} {t b : ABool} (h : Mt.mBool Φ m t b = .ok m') : MStep m m' ∧ (∀ η, m.MOk η → m'.MOk η) ∧ ∀ η ζ, Φ.Says η.int → Fits m' η ζ → t.ev ζ = b.ev η := by
  have rest : ∀ {m' : Mt}, Mt.mBoolR Φ m t b = .ok m' → MStep m m' ∧ (∀ η, m.MOk η → m'.MOk η) ∧ ∀ η ζ, Φ.Says η.int → Fits m' η ζ → t.ev ζ = b.ev η := fun {m'} h => by
    unfold Mt.mBoolR at h
    obtain ⟨u, hu, h⟩ := R.bind_ok h
    cases hb : beqB u b
    · rw [hb] at h
      simp only [cond_false] at h
      split at h
      · rename_i v w hv hw
        obtain ⟨hvw, h⟩ := bif_ok h
        cases h
        refine ⟨.refl _, fun _ h => h, fun η ζ hs hf => ?_⟩
        rw [← rBool_sound hf hu, decide_sound hs hv, decide_sound hs hw]
        exact beq_iff_eq.1 hvw
      · cases h
    · rw [hb] at h
      simp only [cond_true] at h
      cases h
      refine ⟨.refl _, fun _ h => h, fun η ζ hs hf => ?_⟩
      rw [← rBool_sound hf hu, beqB_eq' hb]
  unfold Mt.mBool at h
  split at h
  · rename_i a ha
    cases hfr : m.free a
    · rw [hfr] at h; exact rest h
    · rw [hfr] at h
      simp only [cond_true] at h
      cases h
      refine ⟨MStep.bind hfr, fun η hm => Mt.bind_ok hm trivial, fun η ζ _ hf => ?_⟩
      have := hf.th a _ Mt.bind_self
      simp only [TBd] at this
      rw [ownBool_ev ha, this]
      cases b.ev η <;> rfl
  · exact rest h
theorem mStr_sound {Φ : Ctx} {m m' : Mt} {t s : AStr} (h : Mt.mStr Φ m t s = .ok m') : MStep m m' ∧ ∀ η, (slen s).ev η.int = ((s.ev η).size : Int) → (m.MOk η → m'.MOk η) ∧ ∀ ζ, Φ.Says η.int → Fits m' η ζ → t.ev ζ = s.ev η ∧ (slen t).ev ζ.int = (slen s).ev η.int := by
  unfold Mt.mStr at h
  split at h
  · rename_i a n
    cases hfr : m.free a
    · rw [hfr] at h
      simp only [cond_false] at h
      cases hlt : Nat.blt a m.n0
      · rw [hlt] at h
        simp only [cond_false] at h
        split at h
        · rename_i b bn c cn hg
          obtain ⟨hb, h⟩ := bif_ok h
          obtain ⟨h1, h2, h3⟩ := mLin_sound h
          refine ⟨h1, fun η _ => ⟨h2 η, fun ζ hs hf => ⟨?_, h3 η ζ hs hf⟩⟩⟩
          have := (hf.of_le h1.le).th a _ hg
          simp only [TBd, AStr.ev] at this
          simp only [AStr.ev]
          rw [this, (beq_iff _ _).1 hb]
        · rename_i l k hg
          obtain ⟨hb, h⟩ := bif_ok h
          obtain ⟨h1, h2, h3⟩ := mLin_sound h
          refine ⟨h1, fun η _ => ⟨h2 η, fun ζ hs hf => ⟨?_, h3 η ζ hs hf⟩⟩⟩
          have := (hf.of_le h1.le).th a _ hg
          simp only [TBd, AStr.ev] at this
          simp only [AStr.ev]
          rw [this, leq_iff.1 hb]
        · cases h
      · rw [hlt] at h
        simp only [cond_true] at h
        obtain ⟨hb, h⟩ := bif_ok h
        obtain ⟨h1, h2, h3⟩ := mLin_sound h
        refine ⟨h1, fun η _ => ⟨h2 η, fun ζ hs hf => ⟨?_, h3 η ζ hs hf⟩⟩⟩
        have := (hf.of_le h1.le).base a ((blt_iff _ _).1 hlt)
        unfold Mt.sameAtom at hb
        split at hb
        · have e := (beq_iff _ _).1 hb
          subst e
          exact this.2.1.symm
        · cases hb
    · rw [hfr] at h
      simp only [cond_true] at h
      obtain ⟨h1, h2, h3⟩ := mLin_sound h
      have hst := MStep.bind (x := .str s) hfr
      refine ⟨hst.trans h1, fun η hsl => ⟨fun hm => h2 η (Mt.bind_ok hm hsl), fun ζ hs hf => ⟨?_, h3 η ζ hs hf⟩⟩⟩
      exact (hf.of_le h1.le).th a _ Mt.bind_self
  · rename_i l
    split at h
    · rename_i k
      obtain ⟨hb, h⟩ := bif_ok h
      cases h
      have he := leq_iff.1 hb
      refine ⟨.refl _, fun η _ => ⟨id, fun ζ _ _ => ⟨he, ?_⟩⟩⟩
      have : (bsOf l).size = (bsOf k).size := by rw [he]
      rw [bsOf_size, bsOf_size] at this
      simp only [slen, Lin.ev_k, llen_eq, this]
    · cases h

/-! Values. -/
theorem mCaps_sound {m' : Mt} : ∀ {l r : List Nat} {m : Mt}, m.mCaps l r = .ok m' → MStep m m' ∧ m'.th = m.th ∧ ∀ σ τ, FitsB m' σ τ → ∀ vs, DenCaps σ r vs → DenCaps τ l vs
  | [], [], m, h => by cases h; exact ⟨.refl _, rfl, fun _ _ _ vs h => by cases vs <;> exact h⟩
  | a :: l, b :: r, m, h => by
    simp only [Mt.mCaps] at h
    obtain ⟨m1, h1, h⟩ := R.bind_ok h
    obtain ⟨s1, t1, e1⟩ := mBlk_sound h1
    obtain ⟨s2, t2, e2⟩ := mCaps_sound h
    refine ⟨s1.trans s2, t2.trans t1, fun σ τ hf vs hd => ?_⟩
    cases vs with
    | nil => exact hd.elim
    | cons v vs =>
      obtain ⟨⟨c, n, hb, hv⟩, hd⟩ := hd
      exact ⟨⟨c, n, by rw [e1 σ τ (hf.of_le s2.le)]; exact hb, hv⟩, e2 σ τ hf vs hd⟩
/-- what a match of a value says -/
def MSound (Φ : Ctx) (m m' : Mt) (D : Va → Sig → Prop) (E : Va → Sig → Prop) : Prop :=
  MStep m m' ∧ ∀ η σ, D η σ → (m.MOk η → m'.MOk η) ∧ ∀ ζ τ, Φ.Says η.int → Fits m' η ζ → FitsB m' σ τ → E ζ τ
theorem inK_of {k : IntKind} {x y : Int} (h : inK k y) (e : x = y) : inK k x := e ▸ h
theorem mSV_sound {Φ : Ctx} {m m' : Mt} {t s : SV} (h : Mt.mSV Φ m t s = .ok m') (v : Value) : MSound Φ m m' (fun η σ => Den η σ s v) (fun ζ τ => Den ζ τ t v) := by
  have num : ∀ {a b : Lin} {m m' : Mt}, Mt.mLin Φ m a b = .ok m' → MStep m m' ∧ (∀ η, m.MOk η → m'.MOk η) ∧ ∀ η ζ, Φ.Says η.int → Fits m' η ζ → a.ev ζ.int = b.ev η.int := fun h => mLin_sound h
  unfold Mt.mSV at h
  split at h
  · cases h
    exact ⟨.refl _, fun η σ hd => ⟨id, fun ζ τ _ _ _ => hd.one⟩⟩
  · rename_i j a k b
    have hbif := bif_ok h
    clear h
    obtain ⟨hk, h⟩ := hbif
    have := keq_eq hk
    subst this
    obtain ⟨h1, h2, h3⟩ := num h
    exact ⟨h1, fun η σ hd => ⟨h2 η, fun ζ τ hs hf _ => by
      simp only [Den] at hd ⊢
      rw [h3 η ζ hs hf]; exact hd⟩⟩
  · rename_i a b
    obtain ⟨h1, h2, h3⟩ := mBool_sound h
    exact ⟨h1, fun η σ hd => ⟨h2 η, fun ζ τ hs hf _ => by
      simp only [Den] at hd ⊢
      rw [h3 η ζ hs hf]; exact hd⟩⟩
  · rename_i a b
    obtain ⟨h1, h2⟩ := mStr_sound h
    refine ⟨h1, fun η σ hd => ?_⟩
    obtain ⟨h3, h4⟩ := h2 η hd.2
    refine ⟨h3, fun ζ τ hs hf _ => ?_⟩
    obtain ⟨h5, h6⟩ := h4 ζ hs hf
    simp only [Den] at hd ⊢
    rw [h6, h5]; exact hd
  · rename_i a i b j
    obtain ⟨m1, hm1, h⟩ := R.bind_ok h
    obtain ⟨s1, t1, e1⟩ := mBlk_sound hm1
    obtain ⟨h1, h2, h3⟩ := num h
    refine ⟨s1.trans h1, fun η σ hd => ⟨fun hm => h2 η (fun a tb ha => hm a tb (t1 ▸ ha)), fun ζ τ hs hf hb => ?_⟩⟩
    obtain ⟨c, n, o, hσ, ho, hv⟩ := hd
    exact ⟨c, n, o, by rw [e1 σ τ (hb.of_le h1.le)]; exact hσ, by rw [h3 η ζ hs hf]; exact ho, hv⟩
  · rename_i a i l es
    obtain ⟨m1, hm1, h⟩ := R.bind_ok h
    obtain ⟨m2, hm2, h⟩ := R.bind_ok h
    obtain ⟨s1, t1, e1⟩ := mBlk_sound hm1
    obtain ⟨s2, g2, f2⟩ := num hm2
    obtain ⟨s3, g3, f3⟩ := num h
    refine ⟨s1.trans (s2.trans s3), fun η σ hd => ⟨fun hm => g3 η (g2 η (fun a tb ha => hm a tb (t1 ▸ ha))), fun ζ τ hs hf hb => ?_⟩⟩
    refine .inl ⟨e1 σ τ (hb.of_le (s2.le.trans s3.le)), ?_, hd⟩
    rw [f2 η ζ hs (hf.of_le s3.le)]; simp
  · rename_i a i l es b j k et
    have hbif := bif_ok h
    clear h
    obtain ⟨he, h⟩ := hbif
    have := (beq_iff _ _).1 he
    subst this
    obtain ⟨m1, hm1, h⟩ := R.bind_ok h
    obtain ⟨m2, hm2, h⟩ := R.bind_ok h
    obtain ⟨s1, t1, e1⟩ := mBlk_sound hm1
    obtain ⟨s2, g2, f2⟩ := num hm2
    obtain ⟨s3, g3, f3⟩ := num h
    refine ⟨s1.trans (s2.trans s3), fun η σ hd => ⟨fun hm => g3 η (g2 η (fun a tb ha => hm a tb (t1 ▸ ha))), fun ζ τ hs hf hb => ?_⟩⟩
    have hτ := e1 σ τ (hb.of_le (s2.le.trans s3.le))
    have hi := f2 η ζ hs (hf.of_le s3.le)
    have hl := f3 η ζ hs hf
    rcases hd with ⟨h1, h2, h3⟩ | ⟨c, n, o, ln, cap, h1, h2, h3, h4, h5⟩
    · exact .inl ⟨by rw [hτ]; exact h1, by rw [hl]; exact h2, h3⟩
    · exact .inr ⟨c, n, o, ln, cap, by rw [hτ]; exact h1, by rw [hl]; exact h2, h3, by rw [hi]; exact h4, h5⟩
  · rename_i n b o k et
    obtain ⟨h1, h2, h3⟩ := num h
    refine ⟨h1, fun η σ hd => ⟨h2 η, fun ζ τ hs hf _ => ?_⟩⟩
    have hl := h3 η ζ hs hf
    rcases hd with ⟨_, e2, rfl⟩ | ⟨c, nn, oo, ln, cap, _, e2, _, _, rfl⟩
    · exact ⟨none, 0, 0, rfl, by rw [hl]; simpa using e2⟩
    · exact ⟨_, ln, cap, rfl, by rw [hl]; exact e2⟩
  · rename_i n k
    obtain ⟨h1, h2, h3⟩ := num h
    refine ⟨h1, fun η σ hd => ⟨h2 η, fun ζ τ hs hf _ => ?_⟩⟩
    obtain ⟨a, l, cap, hv, hl⟩ := hd
    exact ⟨a, l, cap, hv, by rw [h3 η ζ hs hf]; exact hl⟩
  · rename_i n
    obtain ⟨h1, h2, h3⟩ := num h
    refine ⟨h1, fun η σ hd => ⟨h2 η, fun ζ τ hs hf _ => ⟨none, 0, 0, hd, by rw [h3 η ζ hs hf]; simp⟩⟩⟩
  · rename_i a b
    obtain ⟨s1, t1, e1⟩ := mBlk_sound h
    refine ⟨s1, fun η σ hd => ⟨fun hm a tb ha => hm a tb (t1 ▸ ha), fun ζ τ _ _ hb => ?_⟩⟩
    obtain ⟨c, n, hσ, hv⟩ := hd
    exact ⟨c, n, by rw [e1 σ τ hb]; exact hσ, hv⟩
  · rename_i f c g d
    have hbif := bif_ok h
    clear h
    obtain ⟨hf', h⟩ := hbif
    have := (beq_iff _ _).1 hf'
    subst this
    obtain ⟨s1, t1, e1⟩ := mCaps_sound (m := m) (m' := m') h
    refine ⟨s1, fun η σ hd => ⟨fun hm a tb ha => hm a tb (t1 ▸ ha), fun ζ τ _ _ hb => ?_⟩⟩
    obtain ⟨vs, hv, hc⟩ := hd
    exact ⟨vs, hv, e1 σ τ hb vs hc⟩
  · rename_i s j a t k b
    have hbif := bif_ok h
    clear h
    obtain ⟨hk, h⟩ := hbif
    simp only [Bool.and_eq_true, beq_iff] at hk
    obtain ⟨hst, hk⟩ := hk
    have := keq_eq hk
    subst this; subst hst
    obtain ⟨h1, h2, h3⟩ := num h
    exact ⟨h1, fun η σ hd => ⟨h2 η, fun ζ τ hs hf _ => by
      simp only [Den] at hd ⊢
      rw [h3 η ζ hs hf]; exact hd⟩⟩
  all_goals first
    | (cases h; exact ⟨.refl _, fun η σ hd => ⟨id, fun ζ τ _ _ _ => hd⟩⟩)
    | (cases h; exact ⟨.refl _, fun η σ hd => ⟨id, fun ζ τ _ _ _ => ⟨_, _, hd.1⟩⟩⟩)
    | cases h
theorem MSound.trans {Φ : Ctx} {m m1 m' : Mt} {D D' E E' : Va → Sig → Prop} (h : MSound Φ m m1 D E) (h' : MSound Φ m1 m' D' E') : MSound Φ m m' (fun η σ => D η σ ∧ D' η σ) (fun ζ τ => E ζ τ ∧ E' ζ τ) :=
  ⟨h.1.trans h'.1, fun η σ hd => by
    obtain ⟨a1, a2⟩ := h.2 η σ hd.1
    obtain ⟨b1, b2⟩ := h'.2 η σ hd.2
    exact ⟨fun hm => b1 (a1 hm), fun ζ τ hs hf hb => ⟨a2 ζ τ hs (hf.of_le h'.1.le) (hb.of_le h'.1.le), b2 ζ τ hs hf hb⟩⟩⟩
theorem MSound.imp {Φ : Ctx} {m m' : Mt} {D D' E E' : Va → Sig → Prop} (h : MSound Φ m m' D E) (hd : ∀ η σ, D' η σ → D η σ) (he : ∀ ζ τ, E ζ τ → E' ζ τ) : MSound Φ m m' D' E' :=
  ⟨h.1, fun η σ h' => by
    obtain ⟨a1, a2⟩ := h.2 η σ (hd η σ h')
    exact ⟨a1, fun ζ τ hs hf hb => he ζ τ (a2 ζ τ hs hf hb)⟩⟩
theorem MSound.none {Φ : Ctx} {m : Mt} {D : Va → Sig → Prop} : MSound Φ m m D (fun _ _ => True) := ⟨.refl _, fun _ _ _ => ⟨id, fun _ _ _ _ _ => trivial⟩⟩
theorem mSVs_sound {Φ : Ctx} : ∀ {l r : List SV} {m m' : Mt}, Mt.mSVs Φ m l r = .ok m' → ∀ vs, MSound Φ m m' (fun η σ => DenL η σ r vs) (fun ζ τ => DenL ζ τ l vs)
  | [], [], m, m', h, vs => by cases h; exact ⟨.refl _, fun η σ hd => ⟨id, fun _ _ _ _ _ => by cases vs <;> first | trivial | exact hd.elim⟩⟩
  | t :: l, s :: r, m, m', h, vs => by
    simp only [Mt.mSVs] at h
    obtain ⟨m1, h1, h⟩ := R.bind_ok h
    cases vs with
    | nil =>
      have a := mSV_sound h1 default
      have b := mSVs_sound h []
      exact ⟨a.1.trans b.1, fun η σ hd => hd.elim⟩
    | cons v vs => exact ((mSV_sound h1 v).trans (mSVs_sound h vs)).imp (fun _ _ h => h) (fun _ _ h => h)
theorem mTup_sound {Φ : Ctx} : ∀ {l r : List (Bool × List SV)} {m m' : Mt}, Mt.mTup Φ m l r = .ok m' → ∀ vs, MSound Φ m m' (fun η σ => DenT η σ r vs) (fun ζ τ => DenT ζ τ l vs)
  | [], [], m, m', h, vs => by cases h; exact ⟨.refl _, fun η σ hd => ⟨id, fun _ _ _ _ _ => by cases vs <;> first | trivial | exact hd.elim⟩⟩
  | (a, t) :: l, (b, s) :: r, m, m', h, vs => by
    simp only [Mt.mTup] at h
    have hbif := bif_ok h
    clear h
    obtain ⟨hab, h⟩ := hbif
    have hab := beq_iff_eq.1 hab
    subst hab
    obtain ⟨m1, h1, h⟩ := R.bind_ok h
    cases vs with
    | nil =>
      have x := mSVs_sound h1 []
      have y := mTup_sound h []
      exact ⟨x.1.trans y.1, fun η σ hd => by cases a <;> exact hd.elim⟩
    | cons v vs =>
      have y := mTup_sound h vs
      cases a with
      | true =>
        -- a row
        cases v with
        | agg cs =>
          exact ((mSVs_sound h1 cs.toList).trans y).imp (fun η σ hd => ⟨by obtain ⟨⟨xs, hx, hd⟩, _⟩ := hd; cases hx; exact hd, hd.2⟩) (fun ζ τ he => ⟨⟨cs.toList, rfl, he.1⟩, he.2⟩)
        | _ => exact ⟨(mSVs_sound h1 []).1.trans y.1, fun η σ hd => by obtain ⟨⟨xs, hx, _⟩, _⟩ := hd; cases hx⟩
      | false =>
        refine ((mSVs_sound h1 [v]).trans y).imp (fun η σ hd => ⟨?_, hd.2⟩) (fun ζ τ he => ⟨?_, he.2⟩)
        · obtain ⟨⟨s', rfl, hd⟩, _⟩ := hd
          exact ⟨hd, trivial⟩
        · obtain ⟨he, _⟩ := he
          cases t with
          | nil => exact he.elim
          | cons t0 tr =>
            cases tr with
            | nil => exact ⟨t0, rfl, he.1⟩
            | cons _ _ => exact he.2.elim
theorem mAV_sound {Φ : Ctx} {m m' : Mt} {t s : AV} (h : Mt.mAV Φ m t s = .ok m') (v : Value) : MSound Φ m m' (fun η σ => DenV η σ s v) (fun ζ τ => DenV ζ τ t v) := by
  unfold Mt.mAV at h
  split at h
  · cases h; exact MSound.none.imp (fun _ _ h => h) (fun _ _ _ => trivial)
  · rename_i t s hn
    have ht : t.isAny = false := by cases t <;> first | rfl | exact (hn rfl).elim
    have hs' : s.isAny = false ∨ s.isAny = true := by cases s.isAny <;> simp
    rcases hs' with hs' | hs'
    · exact (mSV_sound h v).imp (fun _ _ hd => DenV.un hs' hd) (fun _ _ he => DenV.of he)
    · exfalso
      cases s <;> first | (cases hs'; done) | skip
      cases t <;> simp [Mt.mSV] at h
      cases ht
  · rename_i t s
    cases v with
    | agg cs => exact (mSVs_sound h cs.toList).imp (fun η σ hd => by obtain ⟨xs, hx, hd⟩ := hd; cases hx; exact hd) (fun ζ τ he => ⟨cs.toList, rfl, he⟩)
    | _ => exact ⟨(mSVs_sound h []).1, fun η σ hd => by obtain ⟨xs, hx, _⟩ := hd; cases hx⟩
  · rename_i t s
    cases v with
    | tuple cs => exact (mTup_sound h cs.toList).imp (fun η σ hd => by obtain ⟨xs, hx, hd⟩ := hd; cases hx; exact hd) (fun ζ τ he => ⟨cs.toList, rfl, he⟩)
    | _ => exact ⟨(mTup_sound h []).1, fun η σ hd => by obtain ⟨xs, hx, _⟩ := hd; cases hx⟩
  · cases h
theorem mAVs_sound {Φ : Ctx} : ∀ {l r : List AV} {m m' : Mt}, Mt.mAVs Φ m l r = .ok m' → ∀ vs, MSound Φ m m' (fun η σ => DenVs η σ r vs) (fun ζ τ => DenVs ζ τ l vs)
  | [], [], m, m', h, vs => by cases h; exact ⟨.refl _, fun η σ hd => ⟨id, fun _ _ _ _ _ => by cases vs <;> first | trivial | exact hd.elim⟩⟩
  | t :: l, s :: r, m, m', h, vs => by
    simp only [Mt.mAVs] at h
    obtain ⟨m1, h1, h⟩ := R.bind_ok h
    cases vs with
    | nil =>
      have a := mAV_sound h1 default
      have b := mAVs_sound h []
      exact ⟨a.1.trans b.1, fun η σ hd => hd.elim⟩
    | cons v vs => exact ((mAV_sound h1 v).trans (mAVs_sound h vs)).imp (fun _ _ h => h) (fun _ _ h => h)
end
end Go.Hal
namespace Go.Hal
noncomputable section
open Go
variable {P : Program}

theorem mEs_sound {Φ : Ctx} : ∀ {l r : List (List Nat × List SV)} {m m' : Mt}, Mt.mEs Φ m l r = .ok m' → ∀ xs, MSound Φ m m' (fun η σ => DenE η σ r xs) (fun ζ τ => DenE ζ τ l xs)
  | [], [], m, m', h, xs => by cases h; exact ⟨.refl _, fun η σ hd => ⟨id, fun _ _ _ _ _ => by cases xs <;> first | trivial | exact hd.elim⟩⟩
  | (a, t) :: l, (b, s) :: r, m, m', h, xs => by
    simp only [Mt.mEs] at h
    obtain ⟨hab, h⟩ := bif_ok h
    obtain ⟨m1, h1, h⟩ := R.bind_ok h
    cases xs with
    | nil => exact ⟨(mSVs_sound h1 []).1.trans (mEs_sound h []).1, fun η σ hd => hd.elim⟩
    | cons e xs =>
      refine ⟨(mSVs_sound h1 []).1.trans (mEs_sound h xs).1, fun η σ hd => ?_⟩
      obtain ⟨⟨hk, vs, hv, hd⟩, hds⟩ := hd
      obtain ⟨a1, a2⟩ := (mSVs_sound h1 vs).2 η σ hd
      obtain ⟨b1, b2⟩ := (mEs_sound h xs).2 η σ hds
      refine ⟨fun hm => b1 (a1 hm), fun ζ τ hs hf hb => ⟨⟨by rw [hk, leq_iff.1 hab], vs, hv, a2 ζ τ hs (hf.of_le (mEs_sound h xs).1.le) (hb.of_le (mEs_sound h xs).1.le)⟩, b2 ζ τ hs hf hb⟩⟩
/-- contents: what the own atom stands for -/
def rowTB (η : Va) : TB → List Value
  | .cells cs => cs.map (cellVal η)
  | .ren b => η.row b
  | _ => []
theorem mRow_sound {m m' : Mt} {a : Nat} {x : TB} (h : m.mRow a x = .ok m') : MStep m m' ∧ (∀ η, TBok η x → m.MOk η → m'.MOk η) ∧ ∀ η ζ, Fits m' η ζ → (∀ b, x = .ren b → ζ.row a = η.row b ∧ ζ.map a = η.map b) ∧ (∀ cs, x = .cells cs → ζ.row a = cs.map (cellVal η)) := by
  unfold Mt.mRow at h
  cases hfr : m.free a
  · rw [hfr] at h
    simp only [cond_false] at h
    cases hlt : Nat.blt a m.n0
    · rw [hlt] at h
      simp only [cond_false] at h
      split at h
      · rename_i c b hg
        obtain ⟨hb, h⟩ := bif_ok h
        cases h
        refine ⟨.refl _, fun _ _ h => h, fun η ζ hf => ⟨fun b' he => ?_, fun cs he => by cases he⟩⟩
        cases he
        have := hf.th a _ hg
        rw [(beq_iff _ _).1 hb] at this
        exact ⟨this.2.2.1, this.2.2.2⟩
      · cases h
    · rw [hlt] at h
      simp only [cond_true] at h
      split at h
      · rename_i b
        obtain ⟨hb, h⟩ := bif_ok h
        cases h
        refine ⟨.refl _, fun _ _ h => h, fun η ζ hf => ⟨fun b' he => ?_, fun cs he => by cases he⟩⟩
        cases he
        have := hf.base a ((blt_iff _ _).1 hlt)
        rw [← (beq_iff _ _).1 hb]
        exact ⟨this.2.2.1.symm, this.2.2.2.symm⟩
      · cases h
  · rw [hfr] at h
    simp only [cond_true] at h
    cases h
    refine ⟨MStep.bind hfr, fun η hx hm => Mt.bind_ok hm hx, fun η ζ hf => ?_⟩
    have := hf.th a _ Mt.bind_self
    refine ⟨fun b he => ?_, fun cs he => ?_⟩
    · subst he; exact ⟨this.2.2.1, this.2.2.2⟩
    · subst he; exact this
theorem allFit_den {Φ : Ctx} {ct : CT} {η : Va} {σ : Sig} : ∀ {l : List SV} {vs : List Value}, allFit Φ ct l = true → DenL η σ l vs → ∀ σ', DenL η σ' l (l.map (cellVal η))
  | [], [], _, _, _ => trivial
  | s :: l, v :: vs, hf, hd, σ' => by
    simp only [allFit, Bool.and_eq_true] at hf
    refine ⟨?_, allFit_den hf.2 hd.2 σ'⟩
    have hv := fitsCt_val hf.1 hd.1
    rw [← hv]
    have h1 := hf.1
    have h2 := hd.1
    cases s <;> simp only [fitsCt] at h1 <;> first | (cases h1; done) | exact h2
/-- the contents of cells and buffers -/
def trKind : ABlk → Bool
  | .cells _ _ | .blob _ _ _ _ | .opq _ _ => true
  | _ => false
theorem trKind_ty {x : ABlk} (h : trKind x = true) : ∃ t, blkType x = some t := by
  cases x <;> simp only [trKind] at h <;> first | (cases h; done) | exact ⟨_, rfl⟩
theorem mContent_tr {Φ : Ctx} {m m' : Mt} {t x : ABlk} (h : Mt.mContent Φ m t x = .ok m') (hk : trKind t = true) : trKind x = true ∧ (∃ i j, blkType t = some i ∧ blkType x = some j ∧ (i = j ∨ i = 0)) ∧ MStep m m' ∧ ∀ η σ vs, TrD η σ x vs → (Φ.Says η.int → m.MOk η → m'.MOk η) ∧ ∀ ζ τ, Φ.Says η.int → Fits m' η ζ → FitsB m' σ τ → TrD ζ τ t vs := by
  have same : ∀ {i j : TypeId}, Mt.sameType i j = true → i = j ∨ i = 0 := fun h => by
    simp only [Mt.sameType, Bool.or_eq_true, beq_iff] at h; exact h
  unfold Mt.mContent at h
  split at h
  · rename_i i a j b
    obtain ⟨hs, h⟩ := bif_ok h
    exact ⟨rfl, ⟨i, j, rfl, rfl, same hs⟩, (mSVs_sound h []).1, fun η σ vs hd => by
      obtain ⟨h1, h2⟩ := (mSVs_sound h vs).2 η σ hd
      exact ⟨fun _ => h1, h2⟩⟩
  · rename_i i a n ct j b k cu
    obtain ⟨hs, h⟩ := bif_ok h
    simp only [Bool.and_eq_true] at hs
    obtain ⟨m1, h1, h⟩ := R.bind_ok h
    obtain ⟨s1, g1, e1⟩ := mRow_sound h1
    obtain ⟨s2, g2, e2⟩ := mLin_sound h
    refine ⟨rfl, ⟨i, j, rfl, rfl, same hs.1⟩, s1.trans s2, fun η σ vs hd => ⟨fun _ hm => g2 η (g1 η trivial hm), fun ζ τ hΦ hf hb => ?_⟩⟩
    have := ceq_eq hs.2
    subst this
    refine ⟨?_, ?_, hd.2.2⟩
    · rw [((e1 η ζ (hf.of_le s2.le)).1 b rfl).1]; exact hd.1
    · rw [e2 η ζ hΦ hf]; exact hd.2.1
  · rename_i i a n ct j cs
    obtain ⟨hs, h⟩ := bif_ok h
    simp only [Bool.and_eq_true] at hs
    obtain ⟨m1, h1, h⟩ := R.bind_ok h
    obtain ⟨s1, g1, e1⟩ := mRow_sound h1
    obtain ⟨s2, g2, e2⟩ := mLin_sound h
    refine ⟨rfl, ⟨i, j, rfl, rfl, same hs.1⟩, s1.trans s2, fun η σ vs hd => ⟨fun _ hm => g2 η (g1 η (fun σ' => allFit_den hs.2 hd σ') hm), fun ζ τ hΦ hf hb => ?_⟩⟩
    refine ⟨?_, ?_, allFit_has hΦ hs.2 hd⟩
    · rw [(e1 η ζ (hf.of_le s2.le)).2 cs rfl]; exact (allFit_val hs.2 hd).symm
    · rw [e2 η ζ hΦ hf, Lin.ev_k, DenL.length hd]
  · rename_i i n j k
    obtain ⟨hs, h⟩ := bif_ok h
    obtain ⟨s2, g2, e2⟩ := mLin_sound h
    exact ⟨rfl, ⟨i, j, rfl, rfl, same hs⟩, s2, fun η σ vs hd => ⟨fun _ => g2 η, fun ζ τ hΦ hf hb => ⟨by rw [e2 η ζ hΦ hf]; exact hd.1, hd.2⟩⟩⟩
  · rename_i i n j cs
    obtain ⟨hs, h⟩ := bif_ok h
    obtain ⟨s2, g2, e2⟩ := mLin_sound h
    exact ⟨rfl, ⟨i, j, rfl, rfl, same hs⟩, s2, fun η σ vs hd => ⟨fun _ => g2 η, fun ζ τ hΦ hf hb => ⟨by rw [e2 η ζ hΦ hf, Lin.ev_k, DenL.length hd], DenL.one hd⟩⟩⟩
  · rename_i i n j a k ct
    obtain ⟨hs, h⟩ := bif_ok h
    obtain ⟨s2, g2, e2⟩ := mLin_sound h
    exact ⟨rfl, ⟨i, j, rfl, rfl, same hs⟩, s2, fun η σ vs hd => ⟨fun _ => g2 η, fun ζ τ hΦ hf hb => ⟨by rw [e2 η ζ hΦ hf]; exact hd.2.1, fun v hv => (hd.2.2 v hv).one⟩⟩⟩
  all_goals first | (cases hk; done) | (cases h; done) | skip
theorem BlkD.tr {η : Va} {σ : Sig} {w : World} {x : ABlk} (hk : trKind x = true) {l : Sg} (h : BlkD η σ w x l) : (l = .nil ∧ TrD η σ x []) ∨ ∃ t c n vs more, blkType x = some t ∧ l = .at_ c n ∧ CellsAt w c t (vs ++ more) ∧ (vs ++ more).length = n ∧ TrD η σ x vs := by
  cases l with
  | no => cases x <;> first | (cases hk; done) | exact h.elim
  | nil =>
    obtain ⟨t, ht⟩ := trKind_ty hk
    exact .inl ⟨rfl, h.nil_tr ht⟩
  | at_ c n =>
    right
    cases x <;> simp only [trKind] at hk <;> first | (cases hk; done) | skip
    · obtain ⟨vs, more, h1, h2, h3⟩ := h; exact ⟨_, c, n, vs, more, rfl, rfl, h1, h2, h3⟩
    · obtain ⟨vs, more, h1, h2, h3, h4, h5⟩ := h; exact ⟨_, c, n, vs, more, rfl, rfl, h1, h2, h3, h4, h5⟩
    · obtain ⟨vs, more, h1, h2, h3, h4⟩ := h; exact ⟨_, c, n, vs, more, rfl, rfl, h1, h2, h3, h4⟩
theorem CellsAt.retype {w : World} {c : Nat} {i j : TypeId} {vs : List Value} (h : CellsAt w c j vs) (hij : i = j ∨ i = 0) : CellsAt w c i vs := by
  obtain ⟨u, fr, h1, h2, h3⟩ := h
  exact ⟨u, fr, h1, by rcases hij with rfl | h0 <;> first | exact h2 | exact .inl h0, h3⟩
theorem mContent_sound {Φ : Ctx} {m m' : Mt} {t x : ABlk} (h : Mt.mContent Φ m t x = .ok m') : x ≠ .dead ∧ MStep m m' ∧ ∀ η σ (w : World) l, BlkD η σ w x l → (Φ.Says η.int → m.MOk η → m'.MOk η) ∧ ∀ ζ τ, Φ.Says η.int → Fits m' η ζ → FitsB m' σ τ → BlkD ζ τ w t l := by
  cases hk : trKind t
  · unfold Mt.mContent at h
    split at h <;> first | (cases hk; done) | (cases h; done) | skip
    · rename_i s pp s' pp'
      obtain ⟨m1, h1, h⟩ := R.bind_ok h
      obtain ⟨s1, e1⟩ := mStr_sound h1
      obtain ⟨s2, g2, e2⟩ := mLin_sound h
      refine ⟨by simp, s1.trans s2, fun η σ w l hd => ?_⟩
      cases l with
      | at_ c n =>
        obtain ⟨i, hc, hp, hl⟩ := hd
        obtain ⟨g1, e1⟩ := e1 η hl
        refine ⟨fun _ hm => g2 η (g1 hm), fun ζ τ hΦ hf hb => ?_⟩
        obtain ⟨a1, a2⟩ := e1 ζ hΦ (hf.of_le s2.le)
        exact ⟨i, by rw [a1]; exact hc, by rw [e2 η ζ hΦ hf]; exact hp, by rw [a2, a1]; exact hl⟩
      | _ => exact hd.elim
    · rename_i a b
      refine ⟨by simp, (mEs_sound h []).1, fun η σ w l hd => ?_⟩
      cases l with
      | at_ c n =>
        obtain ⟨ents, cl, hc, hE⟩ := hd
        obtain ⟨h1, h2⟩ := (mEs_sound h ents).2 η σ hE
        exact ⟨fun _ => h1, fun ζ τ hΦ hf hb => ⟨ents, cl, hc, h2 ζ τ hΦ hf hb⟩⟩
      | _ => exact hd.elim
    · rename_i a b
      obtain ⟨s1, g1, e1⟩ := mRow_sound h
      refine ⟨by simp, s1, fun η σ w l hd => ?_⟩
      cases l with
      | at_ c n =>
        obtain ⟨ents, cl, hc, hm, hE⟩ := hd
        exact ⟨fun _ => g1 η trivial, fun ζ τ hΦ hf hb => ⟨ents, cl, hc, by rw [((e1 η ζ hf).1 b rfl).2]; exact hm, hE⟩⟩
      | _ => exact hd.elim
  · obtain ⟨hx, ⟨i, j, hi, hj, hij⟩, hst, hs⟩ := mContent_tr h hk
    refine ⟨(fun e => by rw [e] at hx; cases hx), hst, fun η σ w l hd => ?_⟩
    rcases BlkD.tr hx hd with ⟨rfl, ht⟩ | ⟨t', c, n, vs, more, ht', rfl, hc, hn, ht⟩
    · obtain ⟨h1, h2⟩ := hs η σ [] ht
      exact ⟨h1, fun ζ τ hΦ hf hb => (h2 ζ τ hΦ hf hb).nil w⟩
    · obtain ⟨h1, h2⟩ := hs η σ vs ht
      rw [hj] at ht'
      cases ht'
      exact ⟨h1, fun ζ τ hΦ hf hb => (h2 ζ τ hΦ hf hb).at hi (hc.retype hij) hn⟩
theorem mNil_sound {Φ : Ctx} {m m' : Mt} {t : ABlk} (h : Mt.mNil Φ m t = .ok m') : MStep m m' ∧ ∀ η, (m.MOk η → m'.MOk η) ∧ ∀ ζ τ (w : World), Φ.Says η.int → Fits m' η ζ → BlkD ζ τ w t .nil := by
  unfold Mt.mNil at h
  split at h
  · rename_i ty a n ct
    obtain ⟨m1, h1, h⟩ := R.bind_ok h
    obtain ⟨s1, g1, e1⟩ := mRow_sound h1
    obtain ⟨s2, g2, e2⟩ := mLin_sound h
    refine ⟨s1.trans s2, fun η => ⟨fun hm => g2 η (g1 η (fun _ => trivial) hm), fun ζ τ w hΦ hf => ⟨?_, ?_⟩⟩⟩
    · rw [(e1 η ζ (hf.of_le s2.le)).2 [] rfl]; rfl
    · rw [e2 η ζ hΦ hf]; simp
  · rename_i ty n
    obtain ⟨s2, g2, e2⟩ := mLin_sound h
    refine ⟨s2, fun η => ⟨g2 η, fun ζ τ w hΦ hf => ?_⟩⟩
    show n.ev ζ.int = 0
    rw [e2 η ζ hΦ hf]; simp
  · cases h
    exact ⟨.refl _, fun η => ⟨id, fun ζ τ w _ _ => trivial⟩⟩
  · cases h
theorem alive_false {h : Tr ABlk} {i : Nat} (ha : Mt.alive h i = false) : blk h i = .dead := by
  unfold Mt.alive at ha
  unfold blk
  cases hg : h.get i with
  | none => rfl
  | some x => rw [hg] at ha; cases x <;> first | rfl | cases ha
/-- where a block lies, by its image -/
theorem img_le {m m' : Mt} (h : m.Le m') {i k : Nat} (hi : m.img i = some k) : m'.img i = some k := by
  unfold Mt.img at *
  rw [h.b0]
  cases hlt : Nat.blt i m.b0
  · rw [hlt] at hi; exact h.be i k hi
  · rw [hlt] at hi; exact hi
theorem img_fit {m : Mt} {σ τ : Sig} (hf : FitsB m σ τ) {i k : Nat} (hi : m.img i = some k) : τ i = imgS σ k := by
  unfold Mt.img at hi
  cases hlt : Nat.blt i m.b0
  · rw [hlt] at hi; exact hf.be i k hi
  · rw [hlt] at hi
    simp only [cond_true, Option.some.injEq] at hi
    subst hi
    exact hf.base i ((blt_iff _ _).1 hlt)
theorem mHeap_sound {Φ : Ctx} {th h : Tr ABlk} : ∀ {n i : Nat} {m m' : Mt}, Mt.mHeap Φ th h n i m = .ok m' → MStep m m' ∧ ∀ η σ (w : World), (∀ b, BlkD η σ w (blk h b) (σ b)) → Φ.Says η.int →
    (m.MOk η → m'.MOk η) ∧ ∀ k, i ≤ k → k < i + n → Mt.alive th k = true → ∃ j, m'.img k = some j ∧ (∀ j', j = j' + 1 → Alive h j') ∧ ∀ ζ τ, Fits m' η ζ → FitsB m' σ τ → BlkD ζ τ w (blk th k) (τ k)
  | 0, i, m, m', h0 => by cases h0; exact ⟨.refl _, fun η σ w _ _ => ⟨id, fun k h1 h2 => by omega⟩⟩
  | n + 1, i, m, m', h0 => by
    simp only [Mt.mHeap] at h0
    cases hal : Mt.alive th i
    · rw [hal] at h0
      simp only [cond_false] at h0
      obtain ⟨s1, e1⟩ := mHeap_sound h0
      refine ⟨s1, fun η σ w hB hΦ => ?_⟩
      obtain ⟨g1, e1⟩ := e1 η σ w hB hΦ
      refine ⟨g1, fun k hk1 hk2 ha => ?_⟩
      by_cases hki : k = i
      · subst hki; rw [hal] at ha; cases ha
      · exact e1 k (by omega) (by omega) ha
    · rw [hal] at h0
      simp only [cond_true] at h0
      split at h0
      · cases h0
      · rename_i himg
        split at h0
        · cases h0
        · rename_i m1 hm1
          obtain ⟨s0, e0⟩ := mNil_sound hm1
          obtain ⟨s1, e1⟩ := mHeap_sound h0
          refine ⟨s0.trans s1, fun η σ w hB hΦ => ?_⟩
          obtain ⟨g1, e1⟩ := e1 η σ w hB hΦ
          obtain ⟨g0, e0⟩ := e0 η
          refine ⟨fun hm => g1 (g0 hm), fun k hk1 hk2 ha => ?_⟩
          by_cases hki : k = i
          · subst hki
            have hi' := img_le (s0.le.trans s1.le) himg
            refine ⟨0, hi', fun j' hj => by omega, fun ζ τ hf hb => ?_⟩
            rw [img_fit hb hi']
            exact e0 ζ τ w hΦ (hf.of_le s1.le)
          · exact e1 k (by omega) (by omega) ha
      · rename_i j himg
        split at h0
        · cases h0
        · rename_i m1 hm1
          obtain ⟨hnd, s0, e0⟩ := mContent_sound hm1
          obtain ⟨s1, e1⟩ := mHeap_sound h0
          refine ⟨s0.trans s1, fun η σ w hB hΦ => ?_⟩
          obtain ⟨g1, e1⟩ := e1 η σ w hB hΦ
          obtain ⟨g0, e0⟩ := e0 η σ w _ (hB j)
          refine ⟨fun hm => g1 (g0 hΦ hm), fun k hk1 hk2 ha => ?_⟩
          by_cases hki : k = i
          · subst hki
            have hi' := img_le (s0.le.trans s1.le) himg
            refine ⟨j + 1, hi', (fun j' hj => by
              have : j' = j := by omega
              subst this; exact hnd), fun ζ τ hf hb => ?_⟩
            rw [img_fit hb hi']
            exact e0 ζ τ hΦ (hf.of_le s1.le) (hb.of_le s1.le)
          · exact e1 k (by omega) (by omega) ha
theorem memN_iff {a : Nat} : ∀ {l : List Nat}, Mt.memN a l = true ↔ a ∈ l
  | [] => by simp [Mt.memN]
  | b :: r => by simp only [Mt.memN, Bool.or_eq_true, memN_iff, List.mem_cons, beq_iff]
theorem apart_sound {m : Mt} {th : Tr ABlk} : ∀ {n i : Nat} {seen : List Nat}, m.apart th n i seen = true → (∀ k, i ≤ k → k < i + n → Mt.alive th k = true → ∀ j, m.img k = some (j + 1) → (j + 1) ∉ seen) ∧
    ∀ k k', i ≤ k → k < i + n → i ≤ k' → k' < i + n → Mt.alive th k = true → Mt.alive th k' = true → ∀ j, m.img k = some (j + 1) → m.img k' = some (j + 1) → k = k'
  | 0, i, seen, _ => ⟨fun k h1 h2 => by omega, fun k k' h1 h2 => by omega⟩
  | n + 1, i, seen, h => by
    simp only [Mt.apart] at h
    cases hal : Mt.alive th i
    · rw [hal] at h
      simp only [cond_false] at h
      obtain ⟨h1, h2⟩ := apart_sound h
      refine ⟨fun k a b ha j hj => ?_, fun k k' a b a' b' ha ha' j hj hj' => ?_⟩
      · by_cases hk : k = i
        · subst hk; rw [hal] at ha; cases ha
        · exact h1 k (by omega) (by omega) ha j hj
      · by_cases hk : k = i
        · subst hk; rw [hal] at ha; cases ha
        · by_cases hk' : k' = i
          · subst hk'; rw [hal] at ha'; cases ha'
          · exact h2 k k' (by omega) (by omega) (by omega) (by omega) ha ha' j hj hj'
    · rw [hal] at h
      simp only [cond_true] at h
      split at h
      · cases h
      · rename_i himg
        obtain ⟨h1, h2⟩ := apart_sound h
        refine ⟨fun k a b ha j hj => ?_, fun k k' a b a' b' ha ha' j hj hj' => ?_⟩
        · by_cases hk : k = i
          · subst hk; rw [himg] at hj; cases hj
          · exact h1 k (by omega) (by omega) ha j hj
        · by_cases hk : k = i
          · subst hk; rw [himg] at hj; cases hj
          · by_cases hk' : k' = i
            · subst hk'; rw [himg] at hj'; cases hj'
            · exact h2 k k' (by omega) (by omega) (by omega) (by omega) ha ha' j hj hj'
      · rename_i j0 hne himg
        simp only [Bool.and_eq_true, Bool.not_eq_true'] at h
        obtain ⟨hns, h⟩ := h
        obtain ⟨h1, h2⟩ := apart_sound h
        have hns' : j0 ∉ seen := fun hm => by rw [memN_iff.2 hm] at hns; cases hns
        refine ⟨fun k a b ha j hj => ?_, fun k k' a b a' b' ha ha' j hj hj' => ?_⟩
        · by_cases hk : k = i
          · subst hk; rw [himg] at hj; cases hj; exact hns'
          · exact fun hm => h1 k (by omega) (by omega) ha j hj (List.mem_cons_of_mem _ hm)
        · by_cases hk : k = i
          · by_cases hk' : k' = i
            · omega
            · subst hk
              rw [himg] at hj; cases hj
              exact absurd List.mem_cons_self (h1 k' (by omega) (by omega) ha' j hj')
          · by_cases hk' : k' = i
            · subst hk'
              rw [himg] at hj'; cases hj'
              exact absurd List.mem_cons_self (h1 k (by omega) (by omega) ha j hj)
            · exact h2 k k' (by omega) (by omega) (by omega) (by omega) ha ha' j hj hj'
theorem boundsOk_sound {Φ : Ctx} {m : Mt} : ∀ {l : List (Nat × Int × Int)}, Mt.boundsOk Φ m l = .ok () → ∀ η ζ, Φ.Says η.int → Fits m η ζ → ∀ a lo hi, (a, lo, hi) ∈ l → lo ≤ ζ.int a ∧ ζ.int a ≤ hi
  | [], _, η, ζ, _, _, a, lo, hi, hm => by cases hm
  | (b, lo', hi') :: r, h, η, ζ, hΦ, hf, a, lo, hi, hm => by
    simp only [Mt.boundsOk] at h
    obtain ⟨_, h⟩ := bif_ok h
    split at h
    · rename_i e he
      obtain ⟨hc, h⟩ := bif_ok h
      simp only [Bool.and_eq_true] at hc
      rcases List.mem_cons.1 hm with hm | hm
      · simp only [Prod.mk.injEq] at hm
        obtain ⟨rfl, rfl, rfl⟩ := hm
        have h1 := Ctx.ge0_sound hΦ hc.1
        have h2 := Ctx.ge0_sound hΦ hc.2
        simp only [Lin.ev_addc, Lin.ev_neg] at h1 h2
        have h3 := hf.th a _ he
        simp only [TBd] at h3
        omega
      · exact boundsOk_sound h η ζ hΦ hf a lo hi hm
    · rename_i e he
      obtain ⟨hc, h⟩ := bif_ok h
      simp only [Bool.and_eq_true, ile_iff] at hc
      rcases List.mem_cons.1 hm with hm | hm
      · simp only [Prod.mk.injEq] at hm
        obtain ⟨rfl, rfl, rfl⟩ := hm
        have h3 := hf.th a _ he
        simp only [TBd] at h3
        rw [h3]
        cases e.ev η <;> simp <;> omega
      · exact boundsOk_sound h η ζ hΦ hf a lo hi hm
    · cases h
theorem factsOk_sound {Φ : Ctx} {m : Mt} : ∀ {l : List (Bool × Lin)}, Mt.factsOk Φ m l = .ok () → ∀ η ζ, Φ.Says η.int → Fits m η ζ → ∀ g e, (g, e) ∈ l → if g = true then 0 ≤ e.ev ζ.int else e.ev ζ.int ≠ 0
  | [], _, η, ζ, _, _, g, e, hm => by cases hm
  | (g', e') :: r, h, η, ζ, hΦ, hf, g, e, hm => by
    simp only [Mt.factsOk] at h
    obtain ⟨f, hsub, h⟩ := R.bind_ok h
    obtain ⟨hc, h⟩ := bif_ok h
    rcases List.mem_cons.1 hm with hm | hm
    · simp only [Prod.mk.injEq] at hm
      obtain ⟨rfl, rfl⟩ := hm
      have := subLin_sound hf hsub
      cases g
      · simp only [cond_false] at hc
        have h1 := Ctx.ne0_sound hΦ hc
        simp only [Bool.false_eq_true, if_false]
        rw [← this]; exact h1
      · simp only [cond_true] at hc
        have h1 := Ctx.ge0_sound hΦ hc
        simp only [if_true]
        rw [← this]; exact h1
    · exact factsOk_sound h η ζ hΦ hf g e hm

/-! The template's point. -/
/-- the valuation that the bindings give -/
def Mt.va (m : Mt) (η : Va) : Va where
  int a := if a < m.n0 then η.int a else match m.th.get a with
    | some (.lin e) => e.ev η.int
    | some (.bool b) => bif b.ev η then 1 else 0
    | some (.ren b) => η.int b
    | _ => 0
  str a := if a < m.n0 then η.str a else match m.th.get a with
    | some (.str s) => s.ev η
    | some (.ren b) => η.str b
    | _ => default
  row a := if a < m.n0 then η.row a else match m.th.get a with
    | some (.cells cs) => cs.map (cellVal η)
    | some (.ren b) => η.row b
    | _ => []
  map a := if a < m.n0 then η.map a else match m.th.get a with
    | some (.ren b) => η.map b
    | _ => default
theorem Mt.va_fits {m : Mt} (hw : m.Wf) (η : Va) : Fits m η (m.va η) where
  base a ha := by simp [Mt.va, ha]
  th a tb ha := by
    have hge := (hw.th a tb ha).1
    have hlt : ¬ a < m.n0 := by omega
    cases tb <;> simp [TBd, Mt.va, hlt, ha]
theorem Fits.congr {m : Mt} (hw : m.Wf) {η ζ ζ' : Va} (hn : m.n0 ≤ m.n1) (h : Fits m η ζ) (ha : Va.agr m.n1 ζ ζ') : Fits m η ζ' where
  base a hlt := by
    have h1 := h.base a hlt
    have h2 := ha a (by omega)
    exact ⟨h1.1.trans h2.1, h1.2.1.trans h2.2.1, h1.2.2.1.trans h2.2.2.1, h1.2.2.2.trans h2.2.2.2⟩
  th a tb hg := by
    have h1 := h.th a tb hg
    have h2 := ha a (hw.th a tb hg).2
    cases tb <;> simp only [TBd] at h1 ⊢
    · rw [← h2.1]; exact h1
    · rw [← h2.1]; exact h1
    · rw [← h2.2.1]; exact h1
    · rw [← h2.2.2.1]; exact h1
    · rw [← h2.1, ← h2.2.1, ← h2.2.2.1, ← h2.2.2.2]; exact h1
/-- where the template's blocks lie -/
def Mt.sg (m : Mt) (σ : Sig) : Sig := fun t => match m.img t with | some k => imgS σ k | none => .no
theorem Mt.sg_fits {m : Mt} (hw : m.Wf) (σ : Sig) : FitsB m σ (m.sg σ) where
  base b hb := by
    have : m.img b = some (b + 1) := by unfold Mt.img; rw [(blt_iff _ _).2 hb]; rfl
    simp [Mt.sg, this, imgS]
  be t k ht := by
    have hge := (hw.be t k ht).1
    have hlt : Nat.blt t m.b0 = false := by
      cases h : Nat.blt t m.b0
      · rfl
      · have := (blt_iff _ _).1 h; omega
    have : m.img t = some k := by unfold Mt.img; rw [hlt]; exact ht
    simp [Mt.sg, this]
end
end Go.Hal
namespace Go.Hal
noncomputable section
open Go
variable {P : Program}

theorem Tr.keysLt_sound {α : Type} : ∀ {t : Tr α} {m a n : Nat}, t.keysLt m a n = true → ∀ {j : Nat} {x : α}, t.get j = some x → m * j + a < n
  | .nil, m, a, n, _, j, x, hx => by simp at hx
  | .node v l r, m, a, n, h, j, x, hx => by
    simp only [Tr.keysLt, Bool.and_eq_true] at h
    rw [Tr.get_node] at hx
    split at hx
    · rename_i hj
      subst hj
      rw [hx] at h
      have := (blt_iff _ _).1 h.1.1
      simpa using this
    · split at hx
      · have := Tr.keysLt_sound h.1.2 hx
        have hj : j = 2 * (j / 2) + 1 := by omega
        have e : m * j = (m + m) * (j / 2) + m := by
          rw [show m + m = m * 2 by omega, Nat.mul_assoc]
          conv => lhs; rw [hj]
          rw [Nat.mul_add]; simp
        omega
      · have := Tr.keysLt_sound h.2 hx
        have hj : j = 2 * ((j - 1) / 2) + 2 := by omega
        have e : m * j = (m + m) * ((j - 1) / 2) + (m + m) := by
          rw [show m + m = m * 2 by omega, Nat.mul_assoc]
          conv => lhs; rw [hj]
          rw [Nat.mul_add]
        omega
theorem below_alive {h : Tr ABlk} {nb : Nat} (hb : h.keysLt 1 0 nb = true) {b : Nat} (ha : Alive h b) : b < nb := by
  unfold Alive blk at ha
  cases hg : h.get b with
  | none => rw [hg] at ha; exact absurd rfl ha
  | some x => have := Tr.keysLt_sound hb hg; omega
theorem alive_to {h : Tr ABlk} {i : Nat} (ha : Alive h i) : Mt.alive h i = true := by
  cases hm : Mt.alive h i
  · exact absurd (alive_false hm) ha
  · rfl
theorem setBnds_get : ∀ {l : List (Nat × Int × Int)} {t : Tr (Int × Int)} {a : Nat} {lo hi : Int}, (setBnds l t).get a = some (lo, hi) → (a, lo, hi) ∈ l ∨ t.get a = some (lo, hi)
  | [], t, a, lo, hi, h => .inr h
  | (b, l, u) :: r, t, a, lo, hi, h => by
    simp only [setBnds] at h
    rcases setBnds_get h with h1 | h1
    · exact .inl (List.mem_cons_of_mem _ h1)
    · rw [Tr.get_set] at h1
      split at h1
      · rename_i e
        simp only [Option.some.injEq, Prod.mk.injEq] at h1
        obtain ⟨rfl, rfl⟩ := h1
        rw [e]
        exact .inl List.mem_cons_self
      · exact .inr h1
/-- a finished match -/
structure Matched (Φ : Ctx) (h : Tr ABlk) (m : Mt) (th : Tr ABlk) : Prop where
  wf : m.Wf
  n : m.n0 ≤ m.n1
  b8 : 8 ≤ m.b0
  b : m.b0 ≤ m.b1
  below : th.keysLt 1 0 m.b1 = true
  heap : ∃ m0, Mt.mHeap Φ th h m.b1 0 m0 = .ok m
  apart : m.apart th m.b1 0 [] = true
/-- the template's point -/
def Mt.pt (m : Mt) (p : Pt) : Pt := ⟨m.n1, m.va p.η⟩
theorem Matched.fits {Φ : Ctx} {h th : Tr ABlk} {m : Mt} (M : Matched Φ h m th) (p : Pt) : (m.pt p).All fun ζ => Fits m p.η ζ := fun _ hζ => (Mt.va_fits M.wf p.η).congr M.wf M.n hζ
theorem Matched.blk {Φ : Ctx} {h th : Tr ABlk} {m : Mt} (M : Matched Φ h m th) {p : Pt} (hs : Sat p Φ) {σ : Sig} {nb : Nat} {w : World} (hR : RelH p σ h nb w) {k : Nat} (ha : Alive th k) :
    ∃ j, m.img k = some j ∧ (∀ j', j = j' + 1 → Alive h j') ∧ ∀ ζ, Fits m p.η ζ → BlkD ζ (m.sg σ) w (Hal.blk th k) (m.sg σ k) := by
  obtain ⟨m0, hm⟩ := M.heap
  obtain ⟨_, e⟩ := mHeap_sound hm
  obtain ⟨_, e⟩ := e p.η σ w (fun b => (hR.rel b).self) hs.says
  obtain ⟨j, h1, h2, h3⟩ := e k (Nat.zero_le _) (by have := below_alive M.below ha; omega) (alive_to ha)
  exact ⟨j, h1, h2, fun ζ hf => h3 ζ _ hf (Mt.sg_fits M.wf σ)⟩
theorem Matched.at {Φ : Ctx} {h th : Tr ABlk} {m : Mt} (M : Matched Φ h m th) {p : Pt} (hs : Sat p Φ) {σ : Sig} {nb : Nat} {w : World} (hR : RelH p σ h nb w) {k : Nat} (ha : Alive th k) {c n : Nat} (hk : m.sg σ k = .at_ c n) :
    ∃ j, m.img k = some (j + 1) ∧ Alive h j ∧ σ j = .at_ c n := by
  obtain ⟨j, h1, h2, _⟩ := M.blk hs hR ha
  simp only [Mt.sg, h1] at hk
  cases j with
  | zero => cases hk
  | succ j => exact ⟨j, h1, h2 j rfl, hk⟩
theorem Matched.rel {Φ : Ctx} {h th : Tr ABlk} {m : Mt} (M : Matched Φ h m th) {p : Pt} (hs : Sat p Φ) {σ : Sig} {nb : Nat} {w : World} (hR : RelH p σ h nb w) : RelH (m.pt p) (m.sg σ) th m.b1 w where
  full b hb := by
    unfold Mt.sg Mt.img
    have hlt : Nat.blt b m.b0 = false := by
      cases h : Nat.blt b m.b0
      · rfl
      · have := (blt_iff _ _).1 h; have := M.b; omega
    rw [hlt]
    cases hg : m.be.get b with
    | none => simp
    | some k => have := (M.wf.be b k hg).2; omega
  rel b := fun ζ hζ => by
    by_cases ha : Alive th b
    · obtain ⟨_, _, _, h3⟩ := M.blk hs hR ha
      exact h3 ζ (M.fits p ζ hζ)
    · have : Hal.blk th b = .dead := Classical.not_not.1 ha
      rw [this]; cases m.sg σ b <;> trivial
  inj b b' c n n' ha ha' hb hb' := by
    obtain ⟨j, h1, h2, h3⟩ := M.at hs hR ha hb
    obtain ⟨j', h1', h2', h3'⟩ := M.at hs hR ha' hb'
    have := hR.inj j j' c n n' h2 h2' h3 h3'
    subst this
    have l1 := below_alive M.below ha
    have l2 := below_alive M.below ha'
    exact (apart_sound M.apart).2 b b' (Nat.zero_le _) (by omega) (Nat.zero_le _) (by omega) (alive_to ha) (alive_to ha') j h1 h1'
  glob g hg ha := by
    obtain ⟨j, h1, h2, _⟩ := M.blk hs hR ha
    have h0 : m.img g = some (g + 1) := by
      unfold Mt.img
      rw [(blt_iff g m.b0).2 (by have := M.b8; omega)]; rfl
    rw [h0] at h1
    cases h1
    obtain ⟨n, hn⟩ := hR.glob g hg (h2 g rfl)
    exact ⟨n, by simp [Mt.sg, h0, imgS, hn]⟩
theorem Matched.own {Φ : Ctx} {h th : Tr ABlk} {m : Mt} (M : Matched Φ h m th) {p : Pt} (hs : Sat p Φ) {σ : Sig} {nb : Nat} {w : World} (hR : RelH p σ h nb w) {c : Nat} (ho : Own th (m.sg σ) c) : Own h σ c := by
  obtain ⟨b, n, ha, hb⟩ := ho
  obtain ⟨j, _, h2, h3⟩ := M.at hs hR ha hb
  exact ⟨j, n, h2, h3⟩
theorem Mt.wf0 (n0 n1 b0 b1 : Nat) : (⟨n0, n1, b0, b1, .nil, .nil⟩ : Mt).Wf := ⟨fun a tb h => by simp at h, fun t k h => by simp at h⟩
theorem Mt.ok0 (n0 n1 b0 b1 : Nat) (η : Va) : (⟨n0, n1, b0, b1, .nil, .nil⟩ : Mt).MOk η := fun a tb h => by simp at h
/-- the contract's own context holds at the template's point -/
theorem contract_sat {c : Contract} {Φ : Ctx} {h : Tr ABlk} {m : Mt} (M : Matched Φ h m c.heap) (hn : m.n1 = c.n) {p : Pt} (hs : Sat p Φ) (hb : Mt.boundsOk Φ m c.bnds = .ok ()) (hf : Mt.factsOk Φ m c.facts = .ok ()) : Sat (m.pt p) c.ctx := by
  refine ⟨hn, fun ζ hζ => ?_⟩
  have hfit := M.fits p ζ hζ
  refine ⟨fun a lo hi hg => ?_, fun g e hm => ?_, fun x m' q hm => by cases hm⟩
  · rcases setBnds_get hg with hm | hm
    · exact boundsOk_sound hb p.η ζ hs.says hfit a lo hi hm
    · simp at hm
  · exact factsOk_sound hf p.η ζ hs.says hfit g e hm
end
end Go.Hal
