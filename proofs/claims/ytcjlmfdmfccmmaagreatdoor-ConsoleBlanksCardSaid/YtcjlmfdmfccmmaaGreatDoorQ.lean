/- Run and awake; scripts in parts. -/
import Derived.Test.YtcjlmfdmfccmmaaGreatDoorR
import Derived.Test.YtcjlmfdmfccmmaaGreatDoorP
import Derived.Deep.LoopGhost
import Derived.Lib.IndexBytes
namespace Go.Proofs
open Go Go.Hal Go.RowKit Go.Lib Go.Shelf
set_option maxHeartbeats 4000000
set_option maxRecDepth 1000000

/-! Plain laws. -/
def nl : ByteArray := ⟨#[10]⟩
def linesOf (s : ByteArray) : List ByteArray := Lib.splitB nl 0 (Lib.countB s nl) s
noncomputable def ansL (v4 v5 : Value) (l : ByteArray) : List UInt8 :=
  match Lib.goFieldsP blankR l with
  | [] => []
  | x :: r => if x.get! 0 = 35 then [] else (tellsOut v4 v5 (x :: r)).data.toList ++ [10]
noncomputable def runOut (v4 v5 : Value) (ls : List ByteArray) : List UInt8 := ls.flatMap (ansL v4 v5)
theorem extract_size_le (s : ByteArray) (a b : Nat) : (s.extract a b).size ≤ s.size := by
  rw [ByteArray.size_extract]; omega
theorem splitB_sizes (sep : ByteArray) (save : Nat) : ∀ (k : Nat) (s : ByteArray), ∀ x ∈ Lib.splitB sep save k s, x.size ≤ s.size
  | 0, s, x, h => by simp only [Lib.splitB, List.mem_singleton] at h; rw [h]; exact Nat.le_refl _
  | k + 1, s, x, h => by
    unfold Lib.splitB at h
    split at h
    · simp only [List.mem_singleton] at h; rw [h]; exact Nat.le_refl _
    · rcases List.mem_cons.1 h with rfl | h
      · exact extract_size_le _ _ _
      · exact Nat.le_trans (splitB_sizes sep save k _ x h) (extract_size_le _ _ _)
/-- spans are not empty, lie within, and are few -/
theorem spans_ok (p : Nat → Bool) (s : ByteArray) : ∀ (f pos : Nat) (st : Option Nat) (acc : List (Nat × Nat)), (∀ x ∈ acc, x.1 < x.2 ∧ x.2 ≤ s.size) → (∀ a, st = some a → a < pos) → pos ≤ s.size → acc.length ≤ pos → (∀ a, st = some a → acc.length + 1 ≤ pos) →
    ∀ r, Lib.spansFromP p s f pos st acc = r → (∀ x ∈ r.1, x.1 < x.2 ∧ x.2 ≤ s.size) ∧ (∀ a, r.2 = some a → a < s.size) ∧ r.1.length ≤ s.size ∧ (∀ a, r.2 = some a → r.1.length + 1 ≤ s.size)
  | 0, pos, st, acc, h1, h2, h3, h4, h5, r, hr => by
    rw [← hr]
    exact ⟨h1, fun a ha => by have := h2 a ha; omega, by show acc.length ≤ _; omega, fun a ha => by have := h5 a ha; show acc.length + 1 ≤ _; omega⟩
  | f + 1, pos, st, acc, h1, h2, h3, h4, h5, r, hr => by
    by_cases hlt : pos < s.size
    · have hw := Lib.width_pos s pos
      have hn : pos + (Utf8.decode s pos).2 ≤ s.size := by
        have := Lib.decodeN_le_n' (s.size - pos) (s.get! pos).toNat (s.get! (pos + 1)).toNat (s.get! (pos + 2)).toNat (s.get! (pos + 3)).toNat (by omega)
        rw [← Lib.decode_at] at this
        omega
      simp only [Lib.spansFromP, hlt, if_true] at hr
      cases hp : p (Utf8.decode s pos).1
      · simp only [hp, Bool.false_eq_true, if_false] at hr
        cases st with
        | none => exact spans_ok p s f _ _ _ h1 (fun a ha => by cases ha; omega) hn (by omega) (fun a ha => by omega) r hr
        | some a => exact spans_ok p s f _ _ _ h1 (fun b hb => by cases hb; have := h2 a rfl; omega) hn (by omega) (fun b hb => by have := h5 a rfl; omega) r hr
      · simp only [hp, if_true] at hr
        cases st with
        | none => exact spans_ok p s f _ _ _ h1 (fun a ha => by cases ha) hn (by omega) (fun a ha => by cases ha) r hr
        | some a =>
          refine spans_ok p s f _ _ _ (fun x hx => ?_) (fun a ha => by cases ha) hn (by have := h5 a rfl; simp; omega) (fun a ha => by cases ha) r hr
          rcases List.mem_append.1 hx with h | h
          · exact h1 x h
          · simp only [List.mem_singleton] at h; subst h; exact ⟨h2 a rfl, h3⟩
    · rw [Lib.spansFromP_end p s _ pos st acc hlt] at hr
      rw [← hr]
      exact ⟨h1, fun a ha => by have := h2 a ha; omega, by show acc.length ≤ _; omega, fun a ha => by have := h5 a ha; show acc.length + 1 ≤ _; omega⟩
theorem fields_ok (s : ByteArray) : (∀ x ∈ Lib.goFieldsP blankR s, 1 ≤ x.size ∧ x.size ≤ s.size) ∧ (Lib.goFieldsP blankR s).length ≤ s.size := by
  obtain ⟨h1, h2, h3, h4⟩ := spans_ok blankR s s.size 0 none [] (fun x hx => by cases hx) (fun a ha => by cases ha) (Nat.zero_le _) (Nat.le_refl _) (fun a ha => by cases ha) _ rfl
  have key : (∀ x ∈ Lib.spansOfP blankR s, x.1 < x.2 ∧ x.2 ≤ s.size) ∧ (Lib.spansOfP blankR s).length ≤ s.size := by
    unfold Lib.spansOfP
    generalize Lib.spansFromP blankR s s.size 0 none [] = r at h1 h2 h3 h4
    obtain ⟨acc, st⟩ := r
    cases st with
    | none => exact ⟨h1, h3⟩
    | some a =>
      refine ⟨fun x hx => ?_, ?_⟩
      · rcases List.mem_append.1 (show x ∈ acc ++ [(a, s.size)] from hx) with h | h
        · exact h1 x h
        · simp only [List.mem_singleton] at h; subst h; exact ⟨h2 a rfl, Nat.le_refl _⟩
      · show (acc ++ [(a, s.size)]).length ≤ _
        have := h4 a rfl
        simp only [List.length_append, List.length_singleton]; omega
  refine ⟨fun x hx => ?_, by unfold Lib.goFieldsP; rw [List.length_map]; exact key.2⟩
  obtain ⟨y, hy, rfl⟩ := List.mem_map.1 hx
  have := key.1 y hy
  rw [ByteArray.size_extract]
  omega

/-! Run. -/
theorem builder_keptC {T e B b : Nat} {bs : List Value} {w w' : World} (h : Lib.IsBuilderF T e B b bs w) (hk : ∀ (k : Nat) (c : Array Value) (t : TypeId) (fr : Nat × Nat), w.heap[k]? = some (.cells c t fr) → w'.heap[k]? = some (.cells c t fr)) : Lib.IsBuilderF T e B b bs w' := by
  have key : ∀ p, Lib.BuilderAtF T e B b p bs w → Lib.BuilderAtF T e B b p bs w' := fun p ⟨hB, v, h1, h2, h3⟩ => by
    refine ⟨hB, v, hk _ _ _ _ h1, ⟨h2.1, ?_⟩, h3⟩
    rcases h2.2 with h | ⟨g, cap, cur, fz, e1, e2, e3, e4⟩
    · exact .inl h
    · exact .inr ⟨g, cap, cur, fz, e1, e2, hk _ _ _ _ e3, e4⟩
  exact h.elim (fun x => .inl (key _ x)) (fun x => .inr (key _ x))
theorem below_keptC {w w' : World} (h : Below w.heap.size w w') (k : Nat) (o : Obj) (hk : w.heap[k]? = some o) : w'.heap[k]? = some o := by
  rw [h.block k (Array.getElem?_eq_some_iff.1 hk).1]; exact hk
theorem builder_base {T e B B' b : Nat} {bs : List Value} {w : World} (h : Lib.IsBuilderF T e B b bs w) (hB : B' ≤ B) : Lib.IsBuilderF T e B' b bs w := by
  have key : ∀ p, Lib.BuilderAtF T e B b p bs w → Lib.BuilderAtF T e B' b p bs w := fun p ⟨h0, v, h1, h2, h3⟩ => by
    refine ⟨Nat.le_trans hB h0, v, h1, ⟨h2.1, ?_⟩, h3⟩
    rcases h2.2 with h | ⟨g, cap, cur, fz, e1, e2, e3⟩
    · exact .inl h
    · exact .inr ⟨g, cap, cur, fz, e1, Nat.le_trans hB e2, e3⟩
  exact h.elim (fun x => .inl (key _ x)) (fun x => .inr (key _ x))
theorem alloc_old {w : World} {o : Obj} {k : Nat} {x : Obj} (h : w.heap[k]? = some x) : (w.alloc o).heap[k]? = some x := by
  have hk := (Array.getElem?_eq_some_iff.1 h).1
  show (w.heap.push o)[k]? = _
  rw [Array.getElem?_push, if_neg (by omega)]; exact h
theorem alloc_new (w : World) (o : Obj) : (w.alloc o).heap[w.heap.size]? = some o := by
  show (w.heap.push o)[w.heap.size]? = _
  simp
theorem alloc_size (w : World) (o : Obj) : (w.alloc o).heap.size = w.heap.size + 1 := by
  show (w.heap.push o).size = _
  simp
theorem own_row {w : World} {B e g n : Nat} {xs : List Value} (h : w.ownsRow B e 1 (.slice (some ⟨g, 0, none⟩) n n) n xs) (_hn : n ≠ 0) : w.heap[g]? = some (.cells ⟨xs⟩ e) := by
  rcases h.2 with ⟨hv, _⟩ | ⟨g', cap, cur, hv, _, hg, _, _, hc, ht⟩
  · cases hv
  · simp only [Value.slice.injEq, Option.some.injEq, Addr.mk.injEq] at hv
    obtain ⟨⟨rfl, _⟩, _, rfl⟩ := hv
    have : cur = ⟨xs⟩ := by
      apply Array.ext'
      rw [← ht, List.take_of_length_le (by simp; omega)]
    rw [hg, this]
theorem Tryz.run_len {v4 v5 : Value} {W : World} (G : Glob W v4 v5) {m : Int} (hm : W.cell? ⟨0, 0, none⟩ = some (.int .i64 m)) (s : ByteArray) (hs : s.size ≤ 65536) :
    Calls Tryz.prog 9 #[.string s] W fun e W' => e = .returned (.tuple #[.string ⟨(runOut v4 v5 (linesOf s)).toArray⟩, .int .i64 0]) ∧ (runOut v4 v5 (linesOf s)).length ≤ 8592228385 ∧ Below W.heap.size W W' := by
  have e18 : ∀ args w, (callFunc 18 args).run Tryz.prog w = .ok (.enter 18 args) w := enters_of Tryz.func18 (by kernel_rfl) rfl
  have e19 : ∀ args w, (callFunc 19 args).run Tryz.prog w = .ok (.enter 19 args) w := enters_of Tryz.func19 (by kernel_rfl) rfl
  have e20 : ∀ args w, (callFunc 20 args).run Tryz.prog w = .ok (.enter 20 args) w := enters_of Tryz.func20 (by kernel_rfl) rfl
  have e22 : ∀ args w, (callFunc 22 args).run Tryz.prog w = .ok (.enter 22 args) w := enters_of Tryz.func22 (by kernel_rfl) rfl
  have e23 : ∀ args w, (callFunc 23 args).run Tryz.prog w = .ok (.enter 23 args) w := enters_of Tryz.func23 (by kernel_rfl) rfl
  have e24 : ∀ args w, (callFunc 24 args).run Tryz.prog w = .ok (.enter 24 args) w := enters_of Tryz.func24 (by kernel_rfl) rfl
  have h8 := G.size
  go_enter Tryz.func9, Tryz.ntmps9
  go_wp2_with (go_at_fn 18; refine (commands_calls W).mono ?_)
  rintro e w1 ⟨mb, rfl, hmb, hM, hb1⟩
  have hm1 : (w1.alloc (.cells #[.pointer none, .slice none 0 0] 47)).cell? ⟨0, 0, none⟩ = some (.int .i64 m) := by
    rw [World.cell?_alloc_old _ _ _ (by have := hb1.size; show 0 ≠ w1.heap.size; omega)]
    exact (hb1.cell (p := ⟨0, 0, none⟩) (by show 0 < W.heap.size; omega)).trans hm
  go_wp2_with (go_at_fn 19; refine (Tryz.strings_Split s nl m _ (by omega) hm1 (by decide)).mono ?_)
  rintro e w2 ⟨rfl, rfl⟩
  have hlen : Lib.countB s nl + 1 = (linesOf s).length := (Lib.splitB_all nl (by decide) 0 _ s rfl).symm
  have hle : Lib.countB s nl ≤ s.size := Lib.countB_le nl (by decide) s.size s (Nat.le_refl _)
  have hLE : Lib.splitB nl 0 (Lib.countB s nl) s = linesOf s := rfl
  rw [hlen, hLE]
  obtain ⟨L, hL⟩ : ∃ L, linesOf s = L := ⟨_, rfl⟩
  have hLs : ∀ x ∈ L, x.size ≤ 65536 := fun x hx => by
    have := splitB_sizes nl 0 (Lib.countB s nl) s x (by rw [hLE, hL]; exact hx)
    omega
  rw [hL] at hlen ⊢
  have hLn : L.length ≤ 65537 := by omega
  clear hLE hm1 hm
  go_wp2
  go_loopg [16] L.length (fun gf s16 wx => ∃ i : Nat, i + gf = L.length ∧ s16 = .int .i64 i ∧ Lib.IsBuilderF 47 5 W.heap.size w1.heap.size (Lib.byteCells (runOut v4 v5 (L.take i))) wx ∧
    wx.heap[w1.heap.size + 1]? = some (.cells (L.map Value.string).toArray 9) ∧ MapOk wx mb ∧ Below W.heap.size W wx ∧ (runOut v4 v5 (L.take i)).length ≤ i * 131105)
  case atStart =>
    have hb2 := (hb1.alloc hb1.size (.cells #[.pointer none, .slice none 0 0] 47))
    refine ⟨0, by omega, rfl, (builder_base (Lib.IsBuilderF.of (Lib.fresh_isBuilder 47 5 w1)) hb1.size).alloc _, ?_, ?_, hb2.alloc hb2.size _, by simp [runOut]⟩
    · have := alloc_new (w1.alloc (.cells #[.pointer none, .slice none 0 0] 47)) (.cells (L.map Value.string).toArray 9)
      rwa [alloc_size] at this
    · exact hM.to fun o ho => alloc_old (alloc_old ho)
  case round =>
    obtain ⟨i, hig, rfl, hI, hsp, hM2, hbx, hal⟩ := hrel
    cases gk with
    | zero =>
      obtain rfl : i = L.length := by omega
      rw [List.take_length] at hI hal
      go_wp2_with (go_at_fn 24; refine (Tryz.Builder_String_any_k W.heap.size w1.heap.size _ wr hI hbx.size).mono ?_)
      rintro e w3 ⟨rfl, _, hb3, _⟩
      go_wp2
      go_ret2
      refine ⟨?_, by rw [hL]; omega, hbx.trans hb3⟩
      rw [hL]
      rfl
    | succ gf =>
      obtain ⟨l, hl⟩ : ∃ l, L[i]? = some l := ⟨_, List.getElem?_eq_getElem (by omega)⟩
      have hll := hLs l (List.mem_of_getElem? hl)
      have hc : wr.cell? ⟨w1.heap.size + 1, i, none⟩ = some (.string l) := by
        rw [Lib.cell_of_heap hsp]
        simp [hl]
      have hin : (i : Int) < (L.length : Int) := by omega
      go_wp2_with (go_at_fn 20; refine (Tryz.fieldsFunc l wr (by omega)).mono ?_)
      rintro e w2 ⟨A, rfl, hA, hown, hb2⟩
      obtain ⟨hf1, hf2⟩ := fields_ok l
      have hbw : Below W.heap.size W w2 := hbx.trans (hb2.mono hbx.size)
      have hold : ∀ (k : Nat) (o : Obj), wr.heap[k]? = some o → w2.heap[k]? = some o := fun k o => below_keptC hb2 k o
      have hI2 := builder_keptC hI (fun k c t fr => hold k _)
      have hsp2 := hold _ _ hsp
      have hM3 := hM2.to (fun o => hold mb o)
      have htake : L.take (i + 1) = L.take i ++ [l] := by rw [List.take_add_one, hl]; rfl
      have hrun : runOut v4 v5 (L.take (i + 1)) = runOut v4 v5 (L.take i) ++ ansL v4 v5 l := by rw [htake]; simp [runOut]
      unfold ansL at hrun
      generalize hws : Lib.goFieldsP blankR l = ws at *
      cases ws with
      | nil =>
        simp only [List.append_nil] at hrun
        go_wp2
        go_roundg gf
        case measure => omega
        case rel =>
          refine ⟨i + 1, by omega, rfl, ?_, hsp2, hM3, hbw, ?_⟩
          · rw [hrun]; exact hI2
          · rw [hrun]; omega
      | cons x r =>
        have hrow := own_row hown (by simp)
        have hx := hf1 x (List.mem_cons_self ..)
        have hcx : w2.cell? ⟨A, 0, none⟩ = some (.string x) := by rw [Lib.cell_of_heap hrow]; rfl
        have hg0 : ∀ h : 0 < x.size, x.get! 0 = x[0]'h := fun h => getElem!_pos x.data 0 h
        have G2 : Glob w2 v4 v5 := G.below h8 hbw
        have hw3 : ∀ y ∈ x :: r, y.size ≤ 65536 := fun y hy => by have := hf1 y hy; omega
        go_wp2_with (go_at_fn 23; refine (tells_calls G2 hM3 hrow (by simp) (by omega) hw3).mono ?_)
        · have h35 : (((x[0]'hx.1).toNat : Int) != 35) = true := by assumption
          have h35 : ¬ x.get! 0 = 35 := fun h => by
            rw [hg0 hx.1] at h
            rw [h] at h35
            exact absurd h35 (by decide)
          simp only [h35, if_false] at hrun
          rintro e w3 ⟨rfl, hTs, _, hM4, hs3, hio3, hk3⟩
          have hkc : ∀ (k : Nat) (c : Array Value) (t : TypeId) (fr : Nat × Nat), w2.heap[k]? = some (.cells c t fr) → w3.heap[k]? = some (.cells c t fr) := fun k c t fr h => by
            rw [hk3 k (Array.getElem?_eq_some_iff.1 h).1 (no_cells hM3 h)]; exact h
          have hI3 := builder_keptC hI2 hkc
          have hsp3 := hkc _ _ _ _ hsp2
          have hb3 : Below W.heap.size W w3 := hbw.trans ⟨hio3.1, hio3.2.2, hio3.2.1, hs3, fun k hk => hk3 k (by have := hbw.size; omega) (by omega)⟩
          clear hkc hk3 hio3
          have hmbb : mb ≠ w1.heap.size := by
            rcases hI3 with h | h
            · obtain ⟨_, v, h1, _⟩ := h; exact (no_cells hM4 h1).symm
            · obtain ⟨_, v, h1, _⟩ := h; exact (no_cells hM4 h1).symm
          have hsz : (tellsOut v4 v5 (x :: r) ++ nl).size = (tellsOut v4 v5 (x :: r)).size + 1 := by rw [ByteArray.size_append]; rfl
          generalize hto : tellsOut v4 v5 (x :: r) = told at *
          go_wp2_with (go_at_fn 22; refine (Tryz.writeString W.heap.size w1.heap.size _ (told ++ nl) _ hI3 (by rw [Lib.byteCells_length, hsz]; omega) hb3.size).mono ?_)
          rintro e w4 ⟨rfl, hI4, hb4, hk4⟩
          go_wp2
          go_roundg gf
          case measure => omega
          case rel =>
            refine ⟨i + 1, by omega, rfl, ?_, ?_, ?_, hb3.trans hb4, ?_⟩
            · rw [hrun, Lib.byteCells_append]
              have : Lib.strCells (told ++ nl) = Lib.byteCells (told.data.toList ++ [10]) := by
                rw [Lib.strCells_eq, ByteArray.data_append, Array.toList_append]; rfl
              rw [← this]
              exact .inr hI4
            · exact hk4 _ _ hsp3 (by simp) (fun c fz h => by cases h)
            · exact hM4.to fun o ho => by
                obtain ⟨ents, clock, h1, _⟩ := hM4
                refine hk4 _ _ ho (by simpa using hmbb) (fun c fz h => ?_)
                rw [h1] at ho; cases ho; cases h
            · rw [hrun, List.length_append]
              have : told.data.toList.length = told.size := by rw [Array.length_toList]; rfl
              simp only [List.length_append, List.length_singleton]
              omega
        · rename_i hz h35
          have h35 : x.get! 0 = 35 := by
            rw [hg0 hz]
            refine UInt8.toNat_inj.1 ?_
            have : (x[0].toNat : Int) = 35 := by simpa using h35
            show x[0].toNat = 35
            omega
          simp only [h35, if_true, List.append_nil] at hrun
          go_roundg gf
          case measure => omega
          case rel =>
            refine ⟨i + 1, by omega, rfl, ?_, hsp2, hM3, hbw, ?_⟩
            · rw [hrun]; exact hI2
            · rw [hrun]; omega
theorem Tryz.run_calls {v4 v5 : Value} {W : World} (G : Glob W v4 v5) {m : Int} (hm : W.cell? ⟨0, 0, none⟩ = some (.int .i64 m)) (s : ByteArray) (hs : s.size ≤ 65536) :
    Calls Tryz.prog 9 #[.string s] W fun e W' => e = .returned (.tuple #[.string ⟨(runOut v4 v5 (linesOf s)).toArray⟩, .int .i64 0]) ∧ Below W.heap.size W W' :=
  (Tryz.run_len G hm s hs).mono fun _ _ h => ⟨h.1, h.2.2⟩
end Go.Proofs
namespace Go.Proofs
open Go Go.Hal Go.RowKit Go.Lib Go.Shelf
set_option maxHeartbeats 4000000
set_option maxRecDepth 1000000
theorem awake_calls {W : World} {v4 v5 : Value} (G : Glob W v4 v5) : Calls Tryz.prog 8 #[] W fun e W' => e = .returned (.bool true) ∧ Go.RowKit.Below W.heap.size W W' := by
  obtain ⟨r, hrE⟩ : ∃ r : Pt, r = ⟨2, ⟨fun _ => 0, fun _ => ⟨#[]⟩, fun a => if a = 0 then [v4] else [v5], fun _ => (#[], 0)⟩⟩ := ⟨_, rfl⟩
  have rn : r.n = 2 := by rw [hrE]
  have r0 : r.η.row 0 = [v4] := by rw [hrE]; rfl
  have r1 : r.η.row 1 = [v5] := by rw [hrE]; rfl
  have e9 : (k684f8.heap : Tr ABlk) = heapG := by kernel_rfl
  have hR : RelH r sig7 k684f8.heap 64 W := by rw [e9]; exact rel_of G (r := r) (by omega) r0 r1
  have hd : r.All fun ζ => DenVs ζ sig7 k684f8.args (#[] : Array Value).toList := fun _ _ => trivial
  have hs : Sat r k684f8.ctx := ⟨rn, fun η _ => ⟨(fun a l u hb => by cases hb), (fun g e hm => by cases hm), (fun x m q hm => by cases hm)⟩⟩
  obtain ⟨post, hp, r', hr, hn, _, _, H⟩ := awake_ok.1 r hs ⟨sig7, W, #[], hd, hR⟩
  obtain ⟨_, hc⟩ := H sig7 W #[] hd hR
  obtain rfl := List.mem_singleton.1 hp
  refine hc.mono fun e W' ⟨v, he, τ', hst, hv, hR'⟩ => ⟨?_, (stays G (r := r) (by omega) r0 r1 hr (by rw [← e9]; exact hst) hR' fun _ _ _ => by rw [← e9]; rfl).2⟩
  rw [he]
  have : v = .bool true := hv.self
  rw [this]
theorem Tryz.run_long {W : World} (s : ByteArray) (hs : 65536 < s.size) : Calls Tryz.prog 9 #[.string s] W fun e W' => e = .returned (.tuple #[.string ⟨#[]⟩, .int .i64 2901]) ∧ W' = W := by
  go_enter Tryz.func9, Tryz.ntmps9
  go_wp2
  go_ret2
  exact ⟨rfl, rfl⟩
end Go.Proofs
namespace Go.Proofs
open Go Go.Hal Go.RowKit Go.Lib Go.Shelf
def linesL : List UInt8 → List (List UInt8)
  | [] => [[]]
  | c :: t => if c = 10 then [] :: linesL t else match linesL t with | h :: r => (c :: h) :: r | [] => [[c]]
theorem linesL_ne : ∀ l, linesL l ≠ []
  | [] => by simp [linesL]
  | c :: t => by
    unfold linesL
    split
    · simp
    · cases linesL t <;> simp
theorem linesL_nl : ∀ a b, linesL (a ++ 10 :: b) = linesL a ++ linesL b
  | [], b => by simp [linesL]
  | c :: t, b => by
    have ih := linesL_nl t b
    show linesL (c :: (t ++ 10 :: b)) = _
    by_cases h : c = 10
    · simp [linesL, h, ih]
    · have hne := linesL_ne t
      cases ht : linesL t with
      | nil => exact absurd ht hne
      | cons x r =>
        rw [ht] at ih
        simp [linesL, h, ih, ht]
theorem linesL_free : ∀ a : List UInt8, (∀ c ∈ a, c ≠ 10) → linesL a = [a]
  | [], _ => rfl
  | c :: t, h => by
    have h1 := h c (List.mem_cons_self ..)
    have h2 := linesL_free t fun x hx => h x (List.mem_cons_of_mem _ hx)
    simp [linesL, h1, h2]
theorem mk_toList (s : ByteArray) : (⟨s.data.toList.toArray⟩ : ByteArray) = s := by cases s; rfl
theorem nl_index (s : ByteArray) : Lib.indexB s nl = Lib.indexByte s.data.toList 10 := Lib.index_one _ _
theorem splitB_lines : ∀ (k : Nat) (s : ByteArray), Lib.countB s nl = k → Lib.splitB nl 0 k s = (linesL s.data.toList).map fun l => ⟨l.toArray⟩ := by
  intro k
  induction k with
  | zero =>
    intro s hk
    rcases Lib.indexB_cases s nl with h | ⟨i, h, hi⟩
    · have hb := h
      rw [nl_index] at hb
      have hn := Lib.indexByte_none hb
      rw [linesL_free _ fun c hc e => by
        obtain ⟨j, hj⟩ := List.mem_iff_getElem?.1 hc
        exact hn j (by rw [hj, e])]
      show [s] = [⟨s.data.toList.toArray⟩]
      rw [mk_toList]
    · rw [Lib.countB_hit s nl i (by decide) h] at hk; omega
  | succ k ih =>
    intro s hk
    rcases Lib.indexB_cases s nl with h | ⟨i, h, hi⟩
    · rw [Lib.countB_miss s nl h] at hk; omega
    · rw [Lib.countB_hit s nl i (by decide) h] at hk
      rw [Lib.splitB_hit nl 0 k s i h, ih _ (by omega)]
      have hb := h
      rw [nl_index] at hb
      obtain ⟨h1, h2⟩ := Lib.indexByte_some hb
      have hlt := (List.getElem?_eq_some_iff.1 h1).1
      have e1 : s.data.toList = s.data.toList.take i ++ 10 :: s.data.toList.drop (i + 1) := by
        have := List.drop_eq_getElem_cons hlt
        rw [(List.getElem?_eq_some_iff.1 h1).2] at this
        rw [← this, List.take_append_drop]
      have hex : ∀ a b : Nat, (s.extract a b).data.toList = (s.data.toList.drop a).take (b - a) := fun a b => by
        rw [ByteArray.data_extract, Array.toList_extract, List.extract_eq_take_drop]
      have e2 : (s.extract (i + nl.size) s.size).data.toList = s.data.toList.drop (i + 1) := by
        rw [hex]
        refine List.take_of_length_le ?_
        have hn : nl.size = 1 := rfl
        have hz : s.data.toList.length = s.size := Array.length_toList
        rw [List.length_drop, hz]
        omega
      have e3 : s.extract 0 (i + 0) = ⟨(s.data.toList.take i).toArray⟩ := by
        rw [← mk_toList (s.extract 0 (i + 0)), hex]
        simp
      rw [e2, e3]
      conv => rhs; rw [e1]
      rw [linesL_nl, linesL_free (s.data.toList.take i) fun c hc e => by
        obtain ⟨j, hj⟩ := List.mem_iff_getElem?.1 hc
        rw [List.getElem?_take] at hj
        split at hj
        · rename_i hji
          exact h2 j hji (by rw [hj, e])
        · cases hj]
      rfl
theorem linesOf_eq (s : ByteArray) : linesOf s = (linesL s.data.toList).map fun l => ⟨l.toArray⟩ := splitB_lines _ s rfl
theorem linesOf_nl (a b : ByteArray) : linesOf (a ++ nl ++ b) = linesOf a ++ linesOf b := by
  rw [linesOf_eq, linesOf_eq, linesOf_eq, ← List.map_append, ← linesL_nl]
  congr 2
  rw [ByteArray.data_append, Array.toList_append, ByteArray.data_append, Array.toList_append, List.append_assoc]
  rfl
theorem ansL_empty (v4 v5 : Value) : ansL v4 v5 ⟨#[]⟩ = [] := by
  have : Lib.goFieldsP blankR ⟨#[]⟩ = [] := rfl
  unfold ansL
  rw [this]
theorem runOut_nl (v4 v5 : Value) (a b : ByteArray) : runOut v4 v5 (linesOf (a ++ nl ++ b)) = runOut v4 v5 (linesOf a) ++ runOut v4 v5 (linesOf b) := by
  rw [linesOf_nl]; simp [runOut]
theorem runOut_empty (v4 v5 : Value) : runOut v4 v5 (linesOf ⟨#[]⟩) = [] := by
  rw [linesOf_eq]
  show runOut v4 v5 [⟨#[]⟩] = []
  simp [runOut, ansL_empty]
theorem runOut_end (v4 v5 : Value) (a : ByteArray) : runOut v4 v5 (linesOf (a ++ nl)) = runOut v4 v5 (linesOf a) := by
  have := runOut_nl v4 v5 a ⟨#[]⟩
  rw [runOut_empty, List.append_nil] at this
  rw [← this]
  congr 2
  apply ByteArray.ext
  rw [ByteArray.data_append]
  simp
end Go.Proofs
namespace Go.Hal
open Go Go.Proofs
set_option maxRecDepth 100000
theorem maxlen_of {W : World} (hs : W.ShapedOpen Tryz.prog) : ∃ m : Int, W.cell? ⟨0, 0, none⟩ = some (.int .i64 m) := by
  have hg : Nat.blt 0 Tryz.prog.globals.size = true := by kernel_rfl
  have hsh : ((((begin Tryz.prog (fun _ _ => 0) default).world.heap[0]?).bind Obj.row?).map fun x => (x.1.size, x.2)) = some (1, 3) := by kernel_rfl
  cases hx : (((begin Tryz.prog (fun _ _ => 0) default).world.heap[0]?).bind Obj.row?) with
  | none => rw [hx] at hsh; cases hsh
  | some p =>
    obtain ⟨z, u⟩ := p
    rw [hx] at hsh
    simp only [Option.map_some, Option.some.injEq, Prod.mk.injEq] at hsh
    obtain ⟨hz, rfl⟩ := hsh
    obtain ⟨cs, h1, h2, h3⟩ := hs.1 0 z 3 ((blt_iff _ _).1 hg) hx
    obtain ⟨ts, ht, _, hv⟩ := h3 (by kernel_rfl)
    have hts : Tryz.prog.cellTypes Tryz.prog.depth 3 = some [3] := by kernel_rfl
    obtain rfl := Option.some.inj (hts.symm.trans ht)
    have hlt : 0 < cs.size := by omega
    obtain ⟨t, e1, e2⟩ := hv 0 cs[0] (Array.getElem?_eq_getElem hlt)
    simp only [List.length_singleton, Nat.mod_one, List.getElem?_cons_zero, Option.some.injEq] at e1
    subst e1
    unfold Cell.ok at e2
    rw [Tryz.underlying3] at e2
    have hc : W.cell? ⟨0, 0, none⟩ = some cs[0] := by
      rw [Lib.cell_of_heap h1]; exact Array.getElem?_eq_getElem hlt
    rw [hc]
    generalize cs[0] = v at e2
    cases v with
    | int k n => obtain ⟨rfl, _⟩ := e2; exact ⟨n, rfl⟩
    | _ => exact e2.elim
end Go.Hal
