/- From a row's condition to the analyser's blocks, and back. -/
import Derived.Test.YtcjlmfdmfccmmaaGreatDoorC
import Derived.Test.YtcjlmfdmfccmmaaGreatDoorW
import Derived.Test.YtcjlmfdmfccmmaaGreatDoorA
import Derived.LaidMore
import Derived.Test.YtcjlmfdmfccmmaaGreatDoorRows
import Derived.Lib.LaidU8
import Derived.Handed
namespace Go.Hal
open Go Go.Proofs Go.Lib
noncomputable section
set_option maxRecDepth 100000

/-! Tables. -/
def intsV (k : IntKind) (l : List Nat) : List Value := l.map fun (n : Nat) => Value.int k (n : Int)
def intsS (k : IntKind) (l : List Nat) : List SV := l.map fun (n : Nat) => ki k n
theorem ints_den {η : Va} {σ : Sig} {k : IntKind} : ∀ {l : List Nat}, (l.all fun n => ile (n : Int) (kmax k)) = true → DenL η σ (intsS k l) (intsV k l)
  | [], _ => trivial
  | n :: l, h => by
    simp only [List.all_cons, Bool.and_eq_true, ile_iff] at h
    refine ⟨⟨?_, ?_, ?_⟩, ints_den h.2⟩
    · simp [Lin.ev, Lin.evTs]
    · simp [Lin.ev, Lin.evTs]; cases k <;> simp [kmin] <;> omega
    · simp [Lin.ev, Lin.evTs]; exact h.1
theorem ints_only {η : Va} {σ : Sig} {k : IntKind} : ∀ {l : List Nat} {vs : List Value}, DenL η σ (intsS k l) vs → vs = intsV k l
  | [], [], _ => rfl
  | n :: l, v :: vs, h => by
    have h1 : v = Value.int k (n : Int) := by
      have := h.1.1
      simpa [Lin.ev, Lin.evTs] using this
    rw [h1, ints_only h.2]; rfl
/-- what lies in the package-level variables -/
structure Glob (W : World) (v4 v5 : Value) : Prop where
  g1 : W.heap[1]? = some (.cells ⟨intsV .u8 tabFirst⟩ 190)
  g2 : W.heap[2]? = some (.cells ⟨intsV .u8 tabAccept⟩ 287)
  g3 : W.heap[3]? = some (.cells ⟨intsV .u64 tabPow10⟩ 319)
  g4 : W.heap[4]? = some (.cells ⟨[v4]⟩ 52) ∧ ∃ t x, v4 = .iface t x
  g5 : W.heap[5]? = some (.cells ⟨[v5]⟩ 52) ∧ ∃ t x, v5 = .iface t x
  g6 : W.heap[6]? = some (.cells ⟨intsV .u8 tabDe32⟩ 344)
  g7 : W.heap[7]? = some (.cells ⟨intsV .u8 tabDe64⟩ 245)
theorem shaped_row {W : World} (hs : W.ShapedOpen Tryz.prog) {g t : Nat} (hg : Nat.blt g Tryz.prog.globals.size = true) (ht : ((((begin Tryz.prog (fun _ _ => 0) default).world.heap[g]?).bind Obj.row?).map (·.2)) = some t) :
    ∃ cs, W.heap[g]? = some (.cells cs t) := by
  cases hx : (((begin Tryz.prog (fun _ _ => 0) default).world.heap[g]?).bind Obj.row?) with
  | none => rw [hx] at ht; cases ht
  | some p =>
    obtain ⟨z, u⟩ := p
    rw [hx] at ht
    obtain rfl : u = t := by simpa using ht
    obtain ⟨cs, h1, _⟩ := hs.1 g z u ((blt_iff _ _).1 hg) hx
    exact ⟨cs, h1⟩
theorem var_cells {W : World} {n : String} {g t : Nat} {cs cs' : Array Value} (hg : Tryz.prog.globalNamed n = some g) (h : W.heap[g]? = some (.cells cs t)) (hv : W.var? Tryz.prog n = some cs') : cs' = cs := by
  simp only [World.var?, hg, Option.bind_some, h, Option.some.injEq] at hv
  exact hv.symm
theorem glob_tab {W : World} (hs : W.ShapedOpen Tryz.prog) {n : String} {d : DataW Unit} (hr : VarReads Tryz.prog W n d) {g t e m : Nat} {k : IntKind} {l : List Nat} (hd : d = tabData k (l.map fun (n : Nat) => (n : Int))) (hg : Nat.blt g Tryz.prog.globals.size = true)
    (hsh : ((((begin Tryz.prog (fun _ _ => 0) default).world.heap[g]?).bind Obj.row?).map (·.2)) = some t) (hn : Tryz.prog.globalNamed n = some g) (hty : (Tryz.prog.globals[g]?).map (·.type) = some t)
    (ht : Tryz.prog.underlying t = some (.array m e)) (he : Tryz.prog.underlying e = some (.int k)) (hce : Tryz.prog.cellsOf e = 1) (hct : Tryz.prog.cellsOf t = m) : W.heap[g]? = some (.cells ⟨intsV k l⟩ t) := by
  obtain ⟨cs, hc⟩ := shaped_row hs hg hsh
  obtain ⟨g', t', cs', fuel, p, h1, h2, h3, h4⟩ := hr
  obtain rfl := Option.some.inj (hn.symm.trans h1)
  obtain rfl := Option.some.inj (hty.symm.trans h2)
  obtain rfl := var_cells hn hc h3
  subst hd
  have := cells_of_tab ht he hce hct h4
  rw [hc]
  have e : cs' = ⟨intsV k l⟩ := by
    apply Array.ext'
    rw [this]
    simp only [intsV, List.map_map]; rfl
  rw [e]
theorem glob_err {W : World} (hs : W.ShapedOpen Tryz.prog) {n nm : String} {d : DataW Unit} (hr : VarReads Tryz.prog W n (.iface nm d)) {g t : Nat} {ms : Array (String × TypeId)} (hg : Nat.blt g Tryz.prog.globals.size = true)
    (hsh : ((((begin Tryz.prog (fun _ _ => 0) default).world.heap[g]?).bind Obj.row?).map (·.2)) = some t) (hn : Tryz.prog.globalNamed n = some g) (hty : (Tryz.prog.globals[g]?).map (·.type) = some t)
    (ht : Tryz.prog.underlying t = some (.interface ms)) : ∃ v, W.heap[g]? = some (.cells ⟨[v]⟩ t) ∧ ∃ u x, v = .iface u x := by
  obtain ⟨cs, hc⟩ := shaped_row hs hg hsh
  obtain ⟨g', t', cs', fuel, p, h1, h2, h3, h4⟩ := hr
  obtain rfl := Option.some.inj (hn.symm.trans h1)
  obtain rfl := Option.some.inj (hty.symm.trans h2)
  obtain rfl := var_cells hn hc h3
  obtain ⟨f1, u, v, hcs, _⟩ := iface_of_trod ht h4
  refine ⟨.iface u v, ?_, u, v, rfl⟩
  rw [hc]
  have e : cs' = ⟨[.iface u v]⟩ := Array.ext' hcs
  rw [e]
/-- rows of two numbers each -/
theorem glob_pairs {W : World} (hs : W.ShapedOpen Tryz.prog) {n : String} {d : DataW Unit} (hr : VarReads Tryz.prog W n d) {g t e u m : Nat} {k : IntKind} {fs : Array Field} {l : List (Nat × Nat)} (hd : d = .agg (l.map fun x => .agg ([(x.1 : Int), (x.2 : Int)].map fun z => .lit (.int k z)))) (hg : Nat.blt g Tryz.prog.globals.size = true)
    (hsh : ((((begin Tryz.prog (fun _ _ => 0) default).world.heap[g]?).bind Obj.row?).map (·.2)) = some t) (hn : Tryz.prog.globalNamed n = some g) (hty : (Tryz.prog.globals[g]?).map (·.type) = some t)
    (ht : Tryz.prog.underlying t = some (.array m e)) (he : Tryz.prog.underlying e = some (.struct fs)) (hf : fs.toList.map (fun f => (f.type, f.offset)) = [(u, 0), (u, 1)]) (hu : Tryz.prog.underlying u = some (.int k)) (hcu : Tryz.prog.cellsOf u = 1)
    (hce : Tryz.prog.cellsOf e = 2) (hct : Tryz.prog.cellsOf t = 2 * m) (hm : l.length = m) : W.heap[g]? = some (.cells ⟨intsV k (l.flatMap fun x => [x.1, x.2])⟩ t) := by
  obtain ⟨cs, hc⟩ := shaped_row hs hg hsh
  obtain ⟨g', t', cs', fuel, p, h1, h2, h3, h4⟩ := hr
  obtain rfl := Option.some.inj (hn.symm.trans h1)
  obtain rfl := Option.some.inj (hty.symm.trans h2)
  obtain rfl := var_cells hn hc h3
  subst hd
  have hsz : fs.size = 2 := by
    have := congrArg List.length hf
    simpa using this
  have hlen : cs'.toList.length = 2 * m := by
    cases fuel with
    | zero => simp [DataW.trod] at h4
    | succ fuel =>
      simp only [DataW.trod, ht, hct] at h4
      split at h4
      · rename_i hl; simpa using hl
      · cases h4
  have key : ∀ i, i < m → ∀ x, l[i]? = some x → (cs'.toList.drop (i * 2)).take 2 = [Value.int k (x.1 : Int), Value.int k (x.2 : Int)] := fun i hi x hx => by
    obtain ⟨fuel', d, q, hdi, hel⟩ := array_elem ht h4 i hi
    rw [List.getElem?_map, hx] at hdi
    cases hdi
    rw [hce] at hel
    exact ints_of_struct he (fun j f hj => by
      have h0 : (fs.toList.map (fun f => (f.type, f.offset)))[j]? = some (f.type, f.offset) := by
        rw [List.getElem?_map, Array.getElem?_toList, hj]; rfl
      rw [hf] at h0
      match j, h0 with
      | 0, h0 => simp only [List.getElem?_cons_zero, Option.some.injEq, Prod.mk.injEq] at h0; rw [← h0.1]; exact ⟨hu, h0.2.symm, hcu⟩
      | 1, h0 => simp only [List.getElem?_cons_succ, List.getElem?_cons_zero, Option.some.injEq, Prod.mk.injEq] at h0; rw [← h0.1]; exact ⟨hu, h0.2.symm, hcu⟩
      | j + 2, h0 => simp at h0) (by rw [hce, hsz]) hel
  have all : ∀ (l : List (Nat × Nat)) (c : List Value), c.length = 2 * l.length → (∀ i, i < l.length → ∀ x, l[i]? = some x → (c.drop (i * 2)).take 2 = [Value.int k (x.1 : Int), Value.int k (x.2 : Int)]) → c = intsV k (l.flatMap fun x => [x.1, x.2]) := by
    intro l
    induction l with
    | nil => intro c hl _; simp at hl; simp [hl, intsV]
    | cons x l ih =>
      intro c hl hk
      match c, hl with
      | a :: b :: c, hl =>
        have h0 := hk 0 (by simp) x rfl
        simp only [Nat.zero_mul, List.drop_zero, List.take_succ_cons, List.take_zero, List.cons.injEq, and_true] at h0
        rw [h0.1, h0.2, ih c (by simp at hl; omega) (fun i hi y hy => by
          have := hk (i + 1) (by simpa using hi) y (by simpa using hy)
          rw [show (i + 1) * 2 = i * 2 + 2 by omega] at this
          simpa using this)]
        simp [intsV]
  rw [hc]
  have e : cs' = ⟨intsV k (l.flatMap fun x => [x.1, x.2])⟩ := by
    apply Array.ext'
    exact all l _ (by rw [hlen, hm]) fun i hi x hx => key i (by omega) x hx
  rw [e]

abbrev NS := Go.Proofs.YtcjlmfdmfccmmaaGreatDoor.Rows.consoleWrongRow
/-- the listed variables, the same in all rows -/
def laid7 : List (String × DataW Unit) := Go.Proofs.YtcjlmfdmfccmmaaGreatDoor.Rows.consoleWrongRow.laid
open Go.Proofs.YtcjlmfdmfccmmaaGreatDoor.Rows in
theorem laid7_eq : laid7 = [("math/bits.deBruijn32tab", laid_math_bits_deBruijn32tab), ("math/bits.deBruijn64tab", laid_math_bits_deBruijn64tab), ("internal/strconv.uint64pow10", laid_internal_strconv_uint64pow10), ("unicode/utf8.acceptRanges", laid_unicode_utf8_acceptRanges), ("strconv.ErrRange", laid_strconv_ErrRange), ("strconv.ErrSyntax", laid_strconv_ErrSyntax), ("unicode/utf8.first", laid_unicode_utf8_first)] := rfl
def pairs16 : List (Nat × Nat) := [(128, 191), (160, 191), (128, 159), (144, 191), (128, 143), (0, 0), (0, 0), (0, 0), (0, 0), (0, 0), (0, 0), (0, 0), (0, 0), (0, 0), (0, 0), (0, 0)]
theorem pairs_tab : (pairs16.flatMap fun x => [x.1, x.2]) = tabAccept := by kernel_rfl
open Go.Proofs.YtcjlmfdmfccmmaaGreatDoor.Rows in
theorem glob_of {W : World} (hs : W.ShapedOpen Tryz.prog) (hl : laidMetH Tryz.prog laid7 W) : ∃ v4 v5, Glob W v4 v5 := by
  rw [MakeChecks.laidMetH_plain _ _ _ (by kernel_rfl)] at hl
  have rd : ∀ n d, (n, d) ∈ laid7 → VarReads Tryz.prog W n d := fun n d hm => laidMet.reads hl hm
  rw [laid7_eq] at rd
  have r6 := rd _ _ (List.mem_cons_self)
  have r7 := rd "math/bits.deBruijn64tab" laid_math_bits_deBruijn64tab (by simp)
  have r3 := rd "internal/strconv.uint64pow10" laid_internal_strconv_uint64pow10 (by simp)
  have r2 := rd "unicode/utf8.acceptRanges" laid_unicode_utf8_acceptRanges (by simp)
  have ra := rd "strconv.ErrRange" laid_strconv_ErrRange (by simp)
  have rb := rd "strconv.ErrSyntax" laid_strconv_ErrSyntax (by simp)
  have r1 := rd "unicode/utf8.first" laid_unicode_utf8_first (by simp)
  obtain ⟨v4, h4⟩ := glob_err (g := 4) (t := 52) hs rb (by kernel_rfl) (by kernel_rfl) (by kernel_rfl) (by kernel_rfl) Tryz.underlying52
  obtain ⟨v5, h5⟩ := glob_err (g := 5) (t := 52) hs ra (by kernel_rfl) (by kernel_rfl) (by kernel_rfl) (by kernel_rfl) Tryz.underlying52
  refine ⟨v4, v5, ?_, ?_, ?_, h4, h5, ?_, ?_⟩
  · exact glob_tab (l := tabFirst) (g := 1) (t := 190) (e := 5) (m := 256) hs r1 (by kernel_rfl) (by kernel_rfl) (by kernel_rfl) (by kernel_rfl) (by kernel_rfl) (by kernel_rfl) (by kernel_rfl) (by kernel_rfl) (by kernel_rfl)
  · rw [← pairs_tab]
    exact glob_pairs (g := 2) (t := 287) (e := 286) (u := 5) (m := 16) (l := pairs16) (k := .u8) hs r2 (by kernel_rfl) (by kernel_rfl) (by kernel_rfl) (by kernel_rfl) (by kernel_rfl) Tryz.underlying287 Tryz.underlying286 (by kernel_rfl) (by kernel_rfl) (by kernel_rfl) (by kernel_rfl) (by kernel_rfl) (by kernel_rfl)
  · exact glob_tab (l := tabPow10) (g := 3) (t := 319) (e := 77) (m := 20) hs r3 (by kernel_rfl) (by kernel_rfl) (by kernel_rfl) (by kernel_rfl) (by kernel_rfl) (by kernel_rfl) (by kernel_rfl) (by kernel_rfl) (by kernel_rfl)
  · exact glob_tab (l := tabDe32) (g := 6) (t := 344) (e := 5) (m := 32) hs r6 (by kernel_rfl) (by kernel_rfl) (by kernel_rfl) (by kernel_rfl) (by kernel_rfl) (by kernel_rfl) (by kernel_rfl) (by kernel_rfl) (by kernel_rfl)
  · exact glob_tab (l := tabDe64) (g := 7) (t := 245) (e := 5) (m := 64) hs r7 (by kernel_rfl) (by kernel_rfl) (by kernel_rfl) (by kernel_rfl) (by kernel_rfl) (by kernel_rfl) (by kernel_rfl) (by kernel_rfl) (by kernel_rfl)

/-! The relation. -/
def sig7 : Sig := fun b => match b with
  | 1 => .at_ 1 256 | 2 => .at_ 2 32 | 3 => .at_ 3 20 | 4 => .at_ 4 1 | 5 => .at_ 5 1 | 6 => .at_ 6 32 | 7 => .at_ 7 64
  | _ => .no
theorem sig7_cases {b c n : Nat} (h : sig7 b = .at_ c n) : c = b ∧ 1 ≤ b ∧ b ≤ 7 := by
  unfold sig7 at h
  split at h <;> first | (cases h; done) | (cases h; exact ⟨rfl, by omega, by omega⟩)
theorem blk9_1 : blk tr9 1 = .cells 190 (intsS .u8 tabFirst) := by kernel_rfl
theorem blk9_2 : blk tr9 2 = .cells 287 (intsS .u8 tabAccept) := by kernel_rfl
theorem blk9_3 : blk tr9 3 = .cells 319 (intsS .u64 tabPow10) := by kernel_rfl
theorem blk9_4 : blk tr9 4 = .blob 52 0 (nk 1) .ifc := by kernel_rfl
theorem blk9_5 : blk tr9 5 = .blob 52 1 (nk 1) .ifc := by kernel_rfl
theorem blk9_6 : blk tr9 6 = .cells 344 (intsS .u8 tabDe32) := by kernel_rfl
theorem blk9_7 : blk tr9 7 = .cells 245 (intsS .u8 tabDe64) := by kernel_rfl
theorem keys9 : tr9.keysLt 1 0 8 = true := by kernel_rfl
theorem zero9 : tr9.get 0 = none := by kernel_rfl
theorem blk9_no {b : Nat} (h : ¬ (1 ≤ b ∧ b ≤ 7)) : blk tr9 b = .dead := by
  unfold blk
  cases hg : tr9.get b with
  | none => rfl
  | some x =>
    have := Tr.keysLt_sound keys9 hg
    have hb : b = 0 := by omega
    subst hb
    rw [zero9] at hg; cases hg
theorem sig7_no {b : Nat} (h : ¬ (1 ≤ b ∧ b ≤ 7)) : sig7 b = .no := by
  unfold sig7
  split <;> first | rfl | omega
theorem den_cells {η : Va} {σ : Sig} {w : World} {g t n : Nat} {k : IntKind} {l : List Nat} (h : w.heap[g]? = some (.cells ⟨intsV k l⟩ t)) (hk : (l.all fun n => ile (n : Int) (kmax k)) = true) (hn : l.length = n) : BlkD η σ w (.cells t (intsS k l)) (.at_ g n) :=
  ⟨intsV k l, [], ⟨t, (0, 0), by simpa using h, .inr rfl, fun o _ hh => by omega⟩, by simp [intsV, hn], ints_den hk⟩
theorem den_err {η : Va} {σ : Sig} {w : World} {g a : Nat} {v : Value} (h : w.heap[g]? = some (.cells ⟨[v]⟩ 52) ∧ ∃ t x, v = .iface t x) (hr : η.row a = [v]) : BlkD η σ w (.blob 52 a (nk 1) .ifc) (.at_ g 1) :=
  ⟨[v], [], ⟨52, (0, 0), by simpa using h.1, .inr rfl, fun o _ hh => by omega⟩, rfl, hr, by simp [nk, Lin.ev, Lin.evTs], fun x hx => by obtain rfl := List.mem_singleton.1 hx; exact h.2⟩
theorem rel_of {W : World} {v4 v5 : Value} (G : Glob W v4 v5) {r : Pt} (hn : 2 ≤ r.n) (h0 : r.η.row 0 = [v4]) (h1 : r.η.row 1 = [v5]) : RelH r sig7 tr9 64 W where
  full b hb := sig7_no (by omega)
  rel b := fun η hη => by
    have e0 : η.row 0 = [v4] := by rw [← (hη 0 (by omega)).2.2.1]; exact h0
    have e1 : η.row 1 = [v5] := by rw [← (hη 1 (by omega)).2.2.1]; exact h1
    by_cases hb : 1 ≤ b ∧ b ≤ 7
    · have : b = 1 ∨ b = 2 ∨ b = 3 ∨ b = 4 ∨ b = 5 ∨ b = 6 ∨ b = 7 := by omega
      rcases this with rfl | rfl | rfl | rfl | rfl | rfl | rfl
      · rw [blk9_1]; exact den_cells G.g1 (by kernel_rfl) (by kernel_rfl)
      · rw [blk9_2]; exact den_cells G.g2 (by kernel_rfl) (by kernel_rfl)
      · rw [blk9_3]; exact den_cells G.g3 (by kernel_rfl) (by kernel_rfl)
      · rw [blk9_4]; exact den_err G.g4 e0
      · rw [blk9_5]; exact den_err G.g5 e1
      · rw [blk9_6]; exact den_cells G.g6 (by kernel_rfl) (by kernel_rfl)
      · rw [blk9_7]; exact den_cells G.g7 (by kernel_rfl) (by kernel_rfl)
    · rw [blk9_no hb, sig7_no hb]; trivial
  inj b b' c n n' _ _ e e' := (sig7_cases e).1.symm.trans (sig7_cases e').1
  glob g hg ha := by
    by_cases hb : 1 ≤ g ∧ g ≤ 7
    · have : g = 1 ∨ g = 2 ∨ g = 3 ∨ g = 4 ∨ g = 5 ∨ g = 6 ∨ g = 7 := by omega
      rcases this with rfl | rfl | rfl | rfl | rfl | rfl | rfl <;> exact ⟨_, rfl⟩
    · exact absurd (blk9_no hb) ha

/-! What stays. -/
/-- the package's variables, behind a call -/
theorem stays {W w' : World} {v4 v5 : Value} (G : Glob W v4 v5) {r r' : Pt} {τ' : Sig} {h' : Tr ABlk} {nb' : Nat} (hn : 2 ≤ r.n) (h0 : r.η.row 0 = [v4]) (h1 : r.η.row 1 = [v5]) (hr : r.le r')
    (hst : Step 64 sig7 tr9 W nb' τ' h' w') (hR : RelH r' τ' h' nb' w') (hh : ∀ g, 1 ≤ g → g ≤ 7 → blk h' g = blk tr9 g) : Glob w' v4 v5 ∧ W.keptBut w' (fun _ => False) := by
  have hal : ∀ g, 1 ≤ g → g ≤ 7 → Alive tr9 g := fun g a b => by
    have : g = 1 ∨ g = 2 ∨ g = 3 ∨ g = 4 ∨ g = 5 ∨ g = 6 ∨ g = 7 := by omega
    unfold Alive
    rcases this with rfl | rfl | rfl | rfl | rfl | rfl | rfl
    · rw [blk9_1]; simp
    · rw [blk9_2]; simp
    · rw [blk9_3]; simp
    · rw [blk9_4]; simp
    · rw [blk9_5]; simp
    · rw [blk9_6]; simp
    · rw [blk9_7]; simp
  have own : ∀ g n, 1 ≤ g → g ≤ 7 → sig7 g = .at_ g n → Own h' τ' g := fun g n a b hs => ⟨g, n, by unfold Alive; rw [hh g a b]; exact hal g a b, by rw [hst.ext g (by omega)]; exact hs⟩
  have cell : ∀ {g n t : Nat} {vs : List Value}, 1 ≤ g → g ≤ 7 → sig7 g = .at_ g n → W.heap[g]? = some (.cells ⟨vs⟩ t) → ∀ {xs more : List Value}, CellsAt w' g t (xs ++ more) → (xs ++ more).length = n → xs.length = n → xs = vs → w'.heap[g]? = some (.cells ⟨vs⟩ t) := by
    intro g n t vs a b hs hW xs more hc hl hx hxs
    obtain ⟨u, fr, hc1, _⟩ := hc
    obtain ⟨vs', h2⟩ := hst.frz g ⟨vs⟩ t (0, 0) hW (own g n a b hs)
    rw [hc1] at h2
    cases h2
    have : more = [] := List.length_eq_zero_iff.1 (by simp at hl; omega)
    subst this
    rw [hc1, ← hxs]; simp
  have tab : ∀ {g n t : Nat} {k : IntKind} {l : List Nat}, 1 ≤ g → g ≤ 7 → sig7 g = .at_ g n → blk tr9 g = .cells t (intsS k l) → l.length = n → W.heap[g]? = some (.cells ⟨intsV k l⟩ t) → w'.heap[g]? = some (.cells ⟨intsV k l⟩ t) := by
    intro g n t k l a b hs hb hl hW
    have hB := (hR.rel g).self
    rw [hh g a b, hb, hst.ext g (by omega), hs] at hB
    obtain ⟨xs, more, h2, h3, h4⟩ := hB
    have hx := ints_only h4
    exact cell a b hs hW h2 h3 (by rw [hx]; simp [intsV, hl]) hx
  have err : ∀ {g a : Nat} {v : Value}, 1 ≤ g → g ≤ 7 → sig7 g = .at_ g 1 → blk tr9 g = .blob 52 a (nk 1) .ifc → a < 2 → r.η.row a = [v] → W.heap[g]? = some (.cells ⟨[v]⟩ 52) → w'.heap[g]? = some (.cells ⟨[v]⟩ 52) := by
    intro g a v x y hs hb ha hv hW
    have hB := (hR.rel g).self
    rw [hh g x y, hb, hst.ext g (by omega), hs] at hB
    obtain ⟨xs, more, h2, h3, h4, _, _⟩ := hB
    have : xs = [v] := by rw [← h4, ← (hr.agr a (by omega)).2.2.1]; exact hv
    exact cell x y hs hW h2 h3 (by rw [this]; rfl) this
  have G' : Glob w' v4 v5 := ⟨tab (by omega) (by omega) rfl blk9_1 (by kernel_rfl) G.g1, tab (by omega) (by omega) rfl blk9_2 (by kernel_rfl) G.g2, tab (by omega) (by omega) rfl blk9_3 (by kernel_rfl) G.g3,
    ⟨err (by omega) (by omega) rfl blk9_4 (by omega) h0 G.g4.1, G.g4.2⟩, ⟨err (by omega) (by omega) rfl blk9_5 (by omega) h1 G.g5.1, G.g5.2⟩, tab (by omega) (by omega) rfl blk9_6 (by kernel_rfl) G.g6, tab (by omega) (by omega) rfl blk9_7 (by kernel_rfl) G.g7⟩
  refine ⟨G', hst.io.1, hst.io.2, fun i hi => ?_⟩
  have same : w'.heap[i]? = W.heap[i]? := by
    by_cases ho : Own tr9 sig7 i
    · obtain ⟨b, n, _, hb⟩ := ho
      obtain ⟨rfl, a, c⟩ := sig7_cases hb
      have : i = 1 ∨ i = 2 ∨ i = 3 ∨ i = 4 ∨ i = 5 ∨ i = 6 ∨ i = 7 := by omega
      rcases this with rfl | rfl | rfl | rfl | rfl | rfl | rfl
      · rw [G.g1, G'.g1]
      · rw [G.g2, G'.g2]
      · rw [G.g3, G'.g3]
      · rw [G.g4.1, G'.g4.1]
      · rw [G.g5.1, G'.g5.1]
      · rw [G.g6, G'.g6]
      · rw [G.g7, G'.g7]
    · exact hst.fr i hi ho
  rw [same]
  cases W.heap[i]? with
  | none => rfl
  | some o => cases o <;> first | exact ⟨rfl, rfl, rfl, fun _ _ => rfl⟩ | exact .inr ⟨rfl, rfl⟩ | rfl
end
end Go.Hal
