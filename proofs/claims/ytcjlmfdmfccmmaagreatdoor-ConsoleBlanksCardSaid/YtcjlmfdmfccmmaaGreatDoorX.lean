/- Digests have their sizes; fields of lines; a line that asks for a digest, walked. -/
import Derived.Calls
import Derived.WideBlind
import Derived.Test.YtcjlmfdmfccmmaaGreatDoorBK
import Derived.Test.YtcjlmfdmfccmmaaGreatDoorR
import Derived.Test.YtcjlmfdmfccmmaaGreatDoorQ
import Derived.Test.YtcjlmfdmfccmmaaGreatDoorNE
import Derived.Test.YtcjlmfdmfccmmaaGreatDoorP
import Derived.Shelf.Strings.Search1
import Derived.Laws.BytesArg
import Derived.Deep.RegionHeld3
import Derived.Deep.AppendLies
import Derived.Laws.ResultCell
import Derived.Handy
namespace Go
theorem Calls.some_end {P : Program} {f : FuncId} {args : Array Value} {w : World} {R : Ending → World → Prop} (h : Calls P f args w R) : ∃ e w', R e w' := by
  obtain ⟨e, w', _, hR, _⟩ := h []
  exact ⟨e, w', hR⟩
theorem Calls.ret_done {P : Program} {f : FuncId} {args : Array Value} {w : World} {R : Value → World → Prop} (h : Calls P f args w fun e w' => ∃ v, e = .returned v ∧ R v w') (hi : P.inits.idxOf? f = none) :
    ∃ n v w', runN P n (lone (Frame.enter P f args .normal) [] w) = .ended (.done v) w' ∧ R v w' :=
  Calls.done (R := R) (h.mono fun e w' h => by
    obtain ⟨v, rfl, hr⟩ := h
    exact hr) hi
theorem Calls.same {P : Program} {f : FuncId} {args : Array Value} {w : World} {R R' : Value → World → Prop} (h : Calls P f args w fun e w' => ∃ v, e = .returned v ∧ R v w')
    (h' : Calls P f args w fun e w' => ∃ v, e = .returned v ∧ R' v w') (hi : P.inits.idxOf? f = none) : ∃ v w', R v w' ∧ R' v w' := by
  obtain ⟨n, v, w1, h1, h2⟩ := h.ret_done hi
  obtain ⟨n', v', w2, h3, h4⟩ := h'.ret_done hi
  obtain ⟨he, hw⟩ := WideBlind.runN_same' h1 h3
  cases he
  subst hw
  exact ⟨v, w1, h2, h4⟩
end Go
namespace Go.Hal
open Go Go.Proofs
noncomputable section
set_option maxRecDepth 100000
theorem blkD_1 : blk Bk.tr18 1 = blk heapG 1 := by kernel_rfl
theorem blkD_2 : blk Bk.tr18 2 = blk heapG 2 := by kernel_rfl
theorem blkD_3 : blk Bk.tr18 3 = blk heapG 3 := by kernel_rfl
theorem blkD_4 : blk Bk.tr18 4 = blk heapG 4 := by kernel_rfl
theorem blkD_5 : blk Bk.tr18 5 = blk heapG 5 := by kernel_rfl
theorem blkD_6 : blk Bk.tr18 6 = blk heapG 6 := by kernel_rfl
theorem blkD_7 : blk Bk.tr18 7 = blk heapG 7 := by kernel_rfl
theorem blkD_g : ∀ g, 1 ≤ g → g ≤ 7 → blk Bk.tr18 g = blk heapG g := fun g a b => by
  have : g = 1 ∨ g = 2 ∨ g = 3 ∨ g = 4 ∨ g = 5 ∨ g = 6 ∨ g = 7 := by omega
  rcases this with rfl | rfl | rfl | rfl | rfl | rfl | rfl
  · exact blkD_1
  · exact blkD_2
  · exact blkD_3
  · exact blkD_4
  · exact blkD_5
  · exact blkD_6
  · exact blkD_7
theorem blkD_64 : blk Bk.tr18 64 = .blob 9 3 (Bk.at1 2) (.str 65536) := by kernel_rfl
theorem keysD : Bk.tr18.keysLt 1 0 65 = true := by kernel_rfl
theorem noD : ((List.range 65).all fun b => (Nat.ble 1 b && Nat.ble b 7) || Nat.beq b 64 || (match Bk.tr18.get b with | none => true | some _ => false)) = true := by kernel_rfl
theorem blkD_no {b : Nat} (h : ¬ (1 ≤ b ∧ b ≤ 7)) (h4 : b ≠ 64) : blk Bk.tr18 b = .dead := by
  unfold blk
  cases hg : Bk.tr18.get b with
  | none => rfl
  | some x =>
    have hlt := Tr.keysLt_sound keysD hg
    have := List.all_eq_true.1 noD b (List.mem_range.2 (by omega))
    rw [hg] at this
    simp only [Bool.or_eq_true, Bool.and_eq_true, ble_iff, beq_iff, Bool.false_eq_true, or_false] at this
    omega
def sigD (A n : Nat) : Sig := fun b => if b = 64 then .at_ A n else sig7 b
theorem digest_of {k : Contract} {N M : Nat} (hN : N ≤ 384) (hk : k = ⟨64, 4, [(2, (.ofNat 1), (.ofNat 1))], [], [.agg [Bk.ki .i64 N, .slice 64 (Bk.nk 0) (Bk.at1 2) 1]], Bk.tr18, 65, [⟨5, [], [], .sc (.str (.atom 4 (Bk.nk M))), Bk.tr18, 65⟩]⟩)
    (hS : CSound Go.Proofs.Tryz.prog 38 k) {W : World} {v4 v5 : Value} (G : Glob W v4 v5) {A cap : Nat} {x : ByteArray} {more : List Value} (hA : W.heap[A]? = some (.cells ⟨.string x :: more⟩ 9)) (hx : x.size ≤ 65536) (hc1 : 1 ≤ cap) (hc : cap ≤ more.length + 1) :
    Calls Tryz.prog 38 #[.agg #[.int .i64 N, .slice (some ⟨A, 0, none⟩) 1 cap]] W fun e _ => ∃ s, e = .returned (.string s) ∧ s.size = M := by
  subst hk
  obtain ⟨r, hrE⟩ : ∃ r : Pt, r = ⟨4, ⟨fun a => if a = 2 then 1 else 0, fun _ => ⟨#[]⟩, fun a => if a = 0 then [v4] else if a = 1 then [v5] else [.string x], fun _ => (#[], 0)⟩⟩ := ⟨_, rfl⟩
  have rn : r.n = 4 := by rw [hrE]
  have r0 : r.η.row 0 = [v4] := by rw [hrE]; rfl
  have r1 : r.η.row 1 = [v5] := by rw [hrE]; rfl
  have r3 : r.η.row 3 = [.string x] := by rw [hrE]; rfl
  have r2 : r.η.int 2 = 1 := by rw [hrE]; rfl
  have i2 : r.All fun ζ => ζ.int 2 = 1 := fun ζ hζ => by show ζ.int 2 = _; rw [← (hζ 2 (by omega)).1]; exact r2
  obtain ⟨τ, hτE⟩ : ∃ τ, τ = sigD A (more.length + 1) := ⟨_, rfl⟩
  have t64 : τ 64 = .at_ A (more.length + 1) := by rw [hτE]; rfl
  have tg : ∀ b, b ≠ 64 → τ b = sig7 b := fun b a => by rw [hτE]; simp [sigD, a]
  have RG := rel_of G (r := r) (by omega) r0 r1
  have hext : sig7.ext τ := fun b hb => by
    have : 1 ≤ b ∧ b ≤ 7 := Classical.byContradiction fun h => hb (sig7_no h)
    exact tg b (by omega)
  have gc : ∀ g, 1 ≤ g → g ≤ 7 → ∃ c t, W.heap[g]? = some (.cells c t) ∧ t ≠ 9 := fun g a b => by
    have : g = 1 ∨ g = 2 ∨ g = 3 ∨ g = 4 ∨ g = 5 ∨ g = 6 ∨ g = 7 := by omega
    rcases this with rfl | rfl | rfl | rfl | rfl | rfl | rfl
    · exact ⟨_, _, G.g1, by decide⟩
    · exact ⟨_, _, G.g2, by decide⟩
    · exact ⟨_, _, G.g3, by decide⟩
    · exact ⟨_, _, G.g4.1, by decide⟩
    · exact ⟨_, _, G.g5.1, by decide⟩
    · exact ⟨_, _, G.g6, by decide⟩
    · exact ⟨_, _, G.g7, by decide⟩
  have gA : ∀ g, 1 ≤ g → g ≤ 7 → g ≠ A := fun g a b => by
    obtain ⟨c, t, h, ht⟩ := gc g a b
    exact fun e => by rw [e, hA] at h; cases h; exact ht rfl
  have R : RelH r τ Bk.tr18 65 W := by
    refine ⟨fun b hb => by rw [tg b (by omega)]; exact sig7_no (by omega), fun b η hη => ?_, fun b b' c n n' ha ha' hb hb' => ?_, fun g hg ha => ?_⟩
    · by_cases h64 : b = 64
      · subst h64
        rw [blkD_64, t64]
        refine ⟨[.string x], more, ⟨9, (0, 0), by simpa using hA, .inr rfl, fun o _ hh => by omega⟩, by simp, ?_, ?_, fun v hv => ?_⟩
        · rw [← (hη 3 (by omega)).2.2.1]; exact r3
        · have := i2 η hη
          simp [Bk.at1, Lin.ev, Lin.evTs, this]
        · obtain rfl := List.mem_singleton.1 hv
          exact ⟨x, rfl, by omega⟩
      · rw [tg b h64]
        by_cases hb : 1 ≤ b ∧ b ≤ 7
        · rw [blkD_g b hb.1 hb.2]; exact (RG.rel b η hη).ext hext
        · rw [blkD_no hb h64]; cases sig7 b <;> trivial
    · have key : ∀ b n, τ b = .at_ c n → (b = 64 ∧ c = A) ∨ (c = b ∧ 1 ≤ b ∧ b ≤ 7) := fun b n e => by
        by_cases h64 : b = 64
        · subst h64; rw [t64] at e; cases e; exact .inl ⟨rfl, rfl⟩
        · rw [tg b h64] at e; exact .inr (sig7_cases e)
      rcases key b n hb with ⟨rfl, h⟩ | ⟨h, x, y⟩ <;> rcases key b' n' hb' with ⟨rfl, h'⟩ | ⟨h', x', y'⟩
      · rfl
      · exact absurd (h'.symm.trans h) (gA b' x' y')
      · exact absurd (h.symm.trans h') (gA b x y)
      · exact h.symm.trans h'
    · by_cases hb : 1 ≤ g ∧ g ≤ 7
      · rw [tg g (by omega)]
        exact RG.glob g hg (aliveG g hb.1 hb.2)
      · exact absurd (blkD_no hb (by omega)) ha
  have D : r.All fun ζ => DenVs ζ τ [.agg [Bk.ki .i64 N, .slice 64 (Bk.nk 0) (Bk.at1 2) 1]] (#[.agg #[.int .i64 N, .slice (some ⟨A, 0, none⟩) 1 cap]] : Array Value).toList := fun ζ hζ => by
    refine ⟨⟨[.int .i64 N, .slice (some ⟨A, 0, none⟩) 1 cap], rfl, ⟨?_, ?_⟩, .inr ⟨A, more.length + 1, 0, 1, cap, t64, ?_, hc1, .inr ⟨?_, by omega⟩, rfl⟩, trivial⟩, trivial⟩
    · simp [Lin.ev, Lin.evTs]
    · simp [Lin.ev, Lin.evTs, inK, kmin, kmax]; omega
    · have := i2 ζ hζ
      simp [Bk.at1, Lin.ev, Lin.evTs, this]
    · simp [Bk.nk, Lin.ev, Lin.evTs]
  have hs : Sat r (⟨64, 4, [(2, (.ofNat 1), (.ofNat 1))], [], [.agg [Bk.ki .i64 N, .slice 64 (Bk.nk 0) (Bk.at1 2) 1]], Bk.tr18, 65, [⟨5, [], [], .sc (.str (.atom 4 (Bk.nk M))), Bk.tr18, 65⟩]⟩ : Contract).ctx := by
    refine ⟨rn, fun η hη => ⟨fun a l u hb => ?_, (fun g e hm => by cases hm), (fun x m q hm => by cases hm)⟩⟩
    have hb : ((Tr.nil : Tr (Int × Int)).set ((.ofNat 1), (.ofNat 1)) 2).get a = some (l, u) := hb
    rw [Tr.get_set] at hb
    split at hb
    · rename_i ha
      cases hb
      subst ha
      rw [i2 η hη]
      simp only [Int.ofNat_eq_natCast]; omega
    · cases hb
  obtain ⟨post, hp, r', hr, hn, hb, _, H⟩ := hS r hs ⟨τ, W, _, D, R⟩
  obtain rfl := List.mem_singleton.1 hp
  refine (H τ W _ D R).2.mono fun e W' ⟨v, he, τ', _, hv, _⟩ => ?_
  obtain ⟨hv1, hv2⟩ := hv.self
  have hv1 : v = .string (r'.η.str 4) := hv1
  refine ⟨r'.η.str 4, by rw [he, hv1], ?_⟩
  have e5 : (slen (.atom 4 (Bk.nk M))).ev r'.η.int = ((r'.η.str 4).size : Int) := hv2
  have e6 : (slen (.atom 4 (Bk.nk M))).ev r'.η.int = (M : Int) := by simp [slen, Bk.nk, Lin.ev, Lin.evTs]
  omega
theorem digest256 {W : World} {v4 v5 : Value} (G : Glob W v4 v5) {A cap : Nat} {x : ByteArray} {more : List Value} (hA : W.heap[A]? = some (.cells ⟨.string x :: more⟩ 9)) (hx : x.size ≤ 65536) (hc1 : 1 ≤ cap) (hc : cap ≤ more.length + 1) :
    Calls Tryz.prog 38 #[.agg #[.int .i64 256, .slice (some ⟨A, 0, none⟩) 1 cap]] W fun e _ => ∃ s, e = .returned (.string s) ∧ s.size = 64 :=
  digest_of (N := 256) (M := 64) (by omega) rfl d256_ok.1 G hA hx hc1 hc
theorem digest384 {W : World} {v4 v5 : Value} (G : Glob W v4 v5) {A cap : Nat} {x : ByteArray} {more : List Value} (hA : W.heap[A]? = some (.cells ⟨.string x :: more⟩ 9)) (hx : x.size ≤ 65536) (hc1 : 1 ≤ cap) (hc : cap ≤ more.length + 1) :
    Calls Tryz.prog 38 #[.agg #[.int .i64 384, .slice (some ⟨A, 0, none⟩) 1 cap]] W fun e _ => ∃ s, e = .returned (.string s) ∧ s.size = 96 :=
  digest_of (N := 384) (M := 96) (by omega) rfl d384_ok.1 G hA hx hc1 hc
/-! Numbers. -/
theorem tr9_eq : (Bk.tr9 : Tr ABlk) = heapG := by kernel_rfl
theorem number_of {k : Contract} {l : List Nat} {N : Nat} (hk : k = ⟨64, 2, [], [], [.sc (.str (.lit l))], Bk.tr9, 64, [⟨2, [], [], .tup [(false, [Bk.ki .i64 N]), (false, [.bool (.known true)])], Bk.tr9, 64⟩]⟩)
    (hS : CSound Go.Proofs.Tryz.prog 82 k) {W : World} {v4 v5 : Value} (G : Glob W v4 v5) :
    Calls Tryz.prog 82 #[.string (bsOf l)] W fun e W' => e = .returned (.tuple #[.int .i64 N, .bool true]) ∧ Glob W' v4 v5 ∧ Go.RowKit.Below W.heap.size W W' := by
  subst hk
  obtain ⟨r, hrE⟩ : ∃ r : Pt, r = ⟨2, ⟨fun _ => 0, fun _ => ⟨#[]⟩, fun a => if a = 0 then [v4] else [v5], fun _ => (#[], 0)⟩⟩ := ⟨_, rfl⟩
  have rn : r.n = 2 := by rw [hrE]
  have r0 : r.η.row 0 = [v4] := by rw [hrE]; rfl
  have r1 : r.η.row 1 = [v5] := by rw [hrE]; rfl
  have hR : RelH r sig7 Bk.tr9 64 W := by rw [tr9_eq]; exact rel_of G (r := r) (by omega) r0 r1
  have hd : r.All fun ζ => DenVs ζ sig7 [.sc (.str (.lit l))] (#[.string (bsOf l)] : Array Value).toList := fun _ _ => ⟨⟨rfl, by simp [slen, AStr.ev, llen_eq]⟩, trivial⟩
  have hs : Sat r (⟨64, 2, [], [], [.sc (.str (.lit l))], Bk.tr9, 64, [⟨2, [], [], .tup [(false, [Bk.ki .i64 N]), (false, [.bool (.known true)])], Bk.tr9, 64⟩]⟩ : Contract).ctx :=
    ⟨rn, fun η _ => ⟨(fun a l u hb => by cases hb), (fun g e hm => by cases hm), (fun x m q hm => by cases hm)⟩⟩
  obtain ⟨post, hp, r', hr, hn, _, _, H⟩ := hS r hs ⟨sig7, W, _, hd, hR⟩
  obtain ⟨_, hc⟩ := H sig7 W _ hd hR
  obtain rfl := List.mem_singleton.1 hp
  refine hc.mono fun e W' ⟨v, he, τ', hst, hv, hR'⟩ => ?_
  obtain ⟨G', hb⟩ := stays G (r := r) (by omega) r0 r1 hr (by rw [← tr9_eq]; exact hst) hR' fun _ _ _ => by rw [← tr9_eq]
  refine ⟨?_, G', hb⟩
  obtain ⟨vs, rfl, hvs⟩ := hv.self
  match vs, hvs with
  | [a, b], ⟨⟨s, hs1, ha⟩, ⟨t, ht1, hb⟩, _⟩ =>
    simp only [List.cons.injEq, and_true] at hs1 ht1
    subst hs1 ht1
    obtain ⟨ha, _⟩ := ha
    have hb : b = .bool true := hb
    rw [he, ha, hb]
    simp [Lin.ev, Lin.evTs]
theorem number256 {W : World} {v4 v5 : Value} (G : Glob W v4 v5) :
    Calls Tryz.prog 82 #[.string ⟨#[50, 53, 54]⟩] W fun e W' => e = .returned (.tuple #[.int .i64 256, .bool true]) ∧ Glob W' v4 v5 ∧ Go.RowKit.Below W.heap.size W W' :=
  number_of (N := 256) rfl n256_ok.1 G
theorem number384 {W : World} {v4 v5 : Value} (G : Glob W v4 v5) :
    Calls Tryz.prog 82 #[.string ⟨#[51, 56, 52]⟩] W fun e W' => e = .returned (.tuple #[.int .i64 384, .bool true]) ∧ Glob W' v4 v5 ∧ Go.RowKit.Below W.heap.size W W' :=
  number_of (N := 384) rfl n384_ok.1 G
end
end Go.Hal
namespace Go.Proofs
open Go Go.Hal Go.RowKit Go.Lib Go.Shelf
set_option maxRecDepth 100000
set_option maxHeartbeats 4000000

/-! Fields, byte by byte. -/
def blankB (c : UInt8) : Bool := c == 32 || c == 9
def flds : List UInt8 → Option (List UInt8) → List (List UInt8)
  | [], none => []
  | [], some a => [a]
  | c :: t, none => if blankB c then flds t none else flds t (some [c])
  | c :: t, some a => if blankB c then a :: flds t none else flds t (some (a ++ [c]))
def piece (s : ByteArray) (x : Nat × Nat) : List UInt8 := (s.data.toList.drop x.1).take (x.2 - x.1)
theorem blankR_byte (c : UInt8) : blankR c.toNat = blankB c := by
  unfold blankR blankB
  have e1 : (c.toNat == 32) = (c == 32) := by
    rw [Bool.eq_iff_iff, beq_iff_eq, beq_iff_eq]
    exact ⟨fun h => UInt8.toNat_inj.1 h, fun h => by rw [h]; rfl⟩
  have e2 : (c.toNat == 9) = (c == 9) := by
    rw [Bool.eq_iff_iff, beq_iff_eq, beq_iff_eq]
    exact ⟨fun h => UInt8.toNat_inj.1 h, fun h => by rw [h]; rfl⟩
  rw [e1, e2]
theorem drop_cons {s : ByteArray} {pos : Nat} (h : pos < s.size) : s.data.toList.drop pos = (s[pos]'h) :: s.data.toList.drop (pos + 1) := by
  have hl : pos < s.data.toList.length := by rw [Array.length_toList]; exact h
  rw [List.drop_eq_getElem_cons hl]
  rfl
theorem piece_snoc {s : ByteArray} {a pos : Nat} (ha : a ≤ pos) (h : pos < s.size) : piece s (a, pos + 1) = piece s (a, pos) ++ [s[pos]'h] := by
  have hl : pos < s.data.toList.length := by rw [Array.length_toList]; exact h
  unfold piece
  show (s.data.toList.drop a).take (pos + 1 - a) = (s.data.toList.drop a).take (pos - a) ++ _
  rw [show pos + 1 - a = (pos - a) + 1 by omega, List.take_add_one, List.getElem?_drop, show a + (pos - a) = pos by omega, List.getElem?_eq_getElem hl]
  rfl
theorem spans_flds (s : ByteArray) (h : ∀ c ∈ s.data.toList, c.toNat < 128) : ∀ (f pos : Nat) (st : Option Nat) (acc : List (Nat × Nat)), s.size ≤ pos + f → (∀ a, st = some a → a ≤ pos) → pos ≤ s.size →
    (Lib.closeSpans s (Lib.spansFromP blankR s f pos st acc)).map (piece s) = acc.map (piece s) ++ flds (s.data.toList.drop pos) (st.map fun a => piece s (a, pos)) := by
  have base : ∀ (st : Option Nat) (acc : List (Nat × Nat)), (Lib.closeSpans s (acc, st)).map (piece s) = acc.map (piece s) ++ flds (s.data.toList.drop s.size) (st.map fun a => piece s (a, s.size)) := fun st acc => by
    have e : s.data.toList.drop s.size = [] := List.drop_eq_nil_of_le (by rw [Array.length_toList]; exact Nat.le_refl _)
    rw [e]
    cases st with
    | none => simp [Lib.closeSpans, flds]
    | some a => simp [Lib.closeSpans, flds]
  intro f
  induction f with
  | zero =>
    intro pos st acc h1 _ h3
    obtain rfl : pos = s.size := by omega
    exact base st acc
  | succ f ih =>
    intro pos st acc h1 h2 h3
    by_cases hlt : pos < s.size
    · have hc : (s[pos]'hlt).toNat < 128 := h _ (by
        have : s[pos]'hlt = s.data.toList[pos]'(by rw [Array.length_toList]; exact hlt) := rfl
        rw [this]; exact List.getElem_mem _)
      rw [drop_cons hlt]
      simp only [Lib.spansFromP, hlt, if_true, decode_ascii s pos hlt hc, blankR_byte]
      cases hb : blankB (s[pos]'hlt)
      · cases st with
        | none =>
          simp only [Bool.false_eq_true, if_false]
          rw [ih (pos + 1) (some pos) acc (by omega) (fun a ha => by cases ha; omega) (by omega)]
          have e : piece s (pos, pos + 1) = [s[pos]'hlt] := by
            rw [piece_snoc (Nat.le_refl _) hlt]
            simp [piece]
          simp [flds, hb, e]
        | some a =>
          simp only [Bool.false_eq_true, if_false]
          have ha := h2 a rfl
          rw [ih (pos + 1) (some a) acc (by omega) (fun b hb => by cases hb; omega) (by omega)]
          simp [flds, hb, piece_snoc ha hlt]
      · cases st with
        | none =>
          simp only [if_true]
          rw [ih (pos + 1) none acc (by omega) (fun a ha => by cases ha) (by omega)]
          simp [flds, hb]
        | some a =>
          simp only [if_true]
          rw [ih (pos + 1) none (acc ++ [(a, pos)]) (by omega) (fun a ha => by cases ha) (by omega)]
          simp [flds, hb]
    · obtain rfl : pos = s.size := by omega
      rw [Lib.spansFromP_end blankR s _ _ st acc hlt]
      exact base st acc
theorem extract_piece (s : ByteArray) (x : Nat × Nat) : s.extract x.1 x.2 = ⟨(piece s x).toArray⟩ := by
  rw [← mk_toList (s.extract x.1 x.2), ByteArray.data_extract, Array.toList_extract, List.extract_eq_take_drop]
  rfl
theorem goFields_flds (s : ByteArray) (h : ∀ c ∈ s.data.toList, c.toNat < 128) : Lib.goFieldsP blankR s = (flds s.data.toList none).map fun l => ⟨l.toArray⟩ := by
  have := spans_flds s h s.size 0 none [] (by omega) (fun a ha => by cases ha) (Nat.zero_le _)
  simp only [List.map_nil, List.nil_append, List.drop_zero, Option.map_none] at this
  unfold Lib.goFieldsP Lib.spansOfP
  rw [← this, List.map_map]
  exact List.map_congr_left fun x _ => extract_piece s x
theorem flds_skip : ∀ (b t : List UInt8), (∀ c ∈ b, blankB c = true) → flds (b ++ t) none = flds t none
  | [], _, _ => rfl
  | c :: b, t, h => by
    have h1 := h c (List.mem_cons_self ..)
    show flds (c :: (b ++ t)) none = _
    simp only [flds, h1, if_true]
    exact flds_skip b t fun x hx => h x (List.mem_cons_of_mem _ hx)
theorem flds_word : ∀ (w a t : List UInt8), (∀ c ∈ w, blankB c = false) → flds (w ++ t) (some a) = flds t (some (a ++ w))
  | [], a, t, _ => by simp
  | c :: w, a, t, h => by
    have h1 := h c (List.mem_cons_self ..)
    show flds (c :: (w ++ t)) (some a) = _
    simp only [flds, h1, Bool.false_eq_true, if_false]
    rw [flds_word w (a ++ [c]) t fun x hx => h x (List.mem_cons_of_mem _ hx)]
    simp
theorem flds_begin (w t : List UInt8) (hw : w ≠ []) (h : ∀ c ∈ w, blankB c = false) : flds (w ++ t) none = flds t (some w) := by
  cases w with
  | nil => exact absurd rfl hw
  | cons c w =>
    have h1 := h c (List.mem_cons_self ..)
    show flds (c :: (w ++ t)) none = _
    simp only [flds, h1, Bool.false_eq_true, if_false]
    rw [flds_word w [c] t fun x hx => h x (List.mem_cons_of_mem _ hx)]
    rfl
theorem flds_put (w b t : List UInt8) (hw : w ≠ []) (h : ∀ c ∈ w, blankB c = false) (hb : b ≠ []) (hB : ∀ c ∈ b, blankB c = true) : flds (w ++ (b ++ t)) none = w :: flds t none := by
  rw [flds_begin w _ hw h]
  cases b with
  | nil => exact absurd rfl hb
  | cons c b =>
    have h1 := hB c (List.mem_cons_self ..)
    show flds (c :: (b ++ t)) (some w) = _
    simp only [flds, h1, if_true]
    rw [flds_skip b t fun x hx => hB x (List.mem_cons_of_mem _ hx)]
theorem flds_last (w b : List UInt8) (hw : w ≠ []) (h : ∀ c ∈ w, blankB c = false) (hB : ∀ c ∈ b, blankB c = true) : flds (w ++ b) none = [w] := by
  rw [flds_begin w _ hw h]
  cases b with
  | nil => rfl
  | cons c b =>
    have h1 := hB c (List.mem_cons_self ..)
    have h2 := flds_skip b [] fun x hx => hB x (List.mem_cons_of_mem _ hx)
    rw [List.append_nil] at h2
    show flds (c :: b) (some w) = _
    simp only [flds, h1, if_true]
    rw [h2]
    rfl
theorem flds_line (p w1 b1 w2 b2 x q : List UInt8) (hp : ∀ c ∈ p, blankB c = true) (h1 : w1 ≠ []) (g1 : ∀ c ∈ w1, blankB c = false) (e1 : b1 ≠ []) (k1 : ∀ c ∈ b1, blankB c = true)
    (h2 : w2 ≠ []) (g2 : ∀ c ∈ w2, blankB c = false) (e2 : b2 ≠ []) (k2 : ∀ c ∈ b2, blankB c = true) (hx : x ≠ []) (gx : ∀ c ∈ x, blankB c = false) (hq : ∀ c ∈ q, blankB c = true) :
    flds (p ++ (w1 ++ (b1 ++ (w2 ++ (b2 ++ (x ++ q)))))) none = [w1, w2, x] := by
  rw [flds_skip p _ hp, flds_put w1 b1 _ h1 g1 e1 k1, flds_put w2 b2 _ h2 g2 e2 k2, flds_last x q hx gx hq]

/-! The scripts. -/
/-- digits, or a dash -/
def digB (c : UInt8) : Prop := (48 ≤ c.toNat ∧ c.toNat ≤ 57) ∨ (97 ≤ c.toNat ∧ c.toNat ≤ 102)
def XOk (x : ByteArray) : Prop := x = ⟨#[45]⟩ ∨ (x.size % 2 = 0 ∧ 0 < x.size ∧ x.size ≤ 80 ∧ ∀ c ∈ x.data.toList, digB c)
theorem XOk.byte {x : ByteArray} (h : XOk x) : x.data.toList ≠ [] ∧ x.size ≤ 80 ∧ ∀ c ∈ x.data.toList, c.toNat < 128 ∧ blankB c = false ∧ c ≠ 10 := by
  have key : ∀ c : UInt8, 33 ≤ c.toNat → blankB c = false ∧ c ≠ 10 := fun c hc => by
    refine ⟨?_, fun e => by rw [e] at hc; exact absurd hc (by decide)⟩
    unfold blankB
    rw [Bool.or_eq_false_iff]
    exact ⟨beq_eq_false_iff_ne.2 fun e => by rw [e] at hc; exact absurd hc (by decide), beq_eq_false_iff_ne.2 fun e => by rw [e] at hc; exact absurd hc (by decide)⟩
  rcases h with rfl | ⟨_, h2, h3, h4⟩
  · exact ⟨by simp, by decide, fun c hc => by
      obtain rfl : c = 45 := by simpa using hc
      exact ⟨by decide, key 45 (by decide)⟩⟩
  · refine ⟨fun e => ?_, h3, fun c hc => ?_⟩
    · have : x.data.toList.length = x.size := Array.length_toList
      rw [e] at this; simp at this; omega
    · have := h4 c hc
      unfold digB at this
      exact ⟨by omega, key c (by omega)⟩
def wSha : ByteArray := ⟨#[115, 104, 97]⟩
def w256 : ByteArray := ⟨#[50, 53, 54]⟩
def w384 : ByteArray := ⟨#[51, 56, 52]⟩
def blanksW : List ByteArray := [⟨#[32]⟩, ⟨#[9]⟩, ⟨#[32, 32]⟩, ⟨#[32, 9, 32]⟩]
theorem blanksW_ok {b : ByteArray} (h : b ∈ blanksW) : b.data.toList ≠ [] ∧ (∀ c ∈ b.data.toList, blankB c = true ∧ c.toNat < 128 ∧ c ≠ 10) ∧ b.size ≤ 3 := by
  have : b = ⟨#[32]⟩ ∨ b = ⟨#[9]⟩ ∨ b = ⟨#[32, 32]⟩ ∨ b = ⟨#[32, 9, 32]⟩ := by simpa [blanksW] using h
  rcases this with rfl | rfl | rfl | rfl
  all_goals exact ⟨by simp, by decide, by decide⟩
noncomputable def ansF (v4 v5 : Value) (l : List (List UInt8)) : List UInt8 :=
  match l.map fun l => (⟨l.toArray⟩ : ByteArray) with
  | [] => []
  | x :: r => if x.get! 0 = 35 then [] else (tellsOut v4 v5 (x :: r)).data.toList ++ [10]
theorem ansL_flds (v4 v5 : Value) (l : List UInt8) (h : ∀ c ∈ l, c.toNat < 128) : ansL v4 v5 ⟨l.toArray⟩ = ansF v4 v5 (flds l none) := by
  unfold ansL ansF
  rw [goFields_flds ⟨l.toArray⟩ h]
  rfl
noncomputable def told2 (v4 v5 : Value) (x : ByteArray) : List UInt8 :=
  ((tellsOut v4 v5 [wSha, w256, x]).data.toList ++ [10]) ++ ((tellsOut v4 v5 [wSha, w384, x]).data.toList ++ [10])
theorem ansF_words (v4 v5 : Value) (n x : ByteArray) : ansF v4 v5 [wSha.data.toList, n.data.toList, x.data.toList] = (tellsOut v4 v5 [wSha, n, x]).data.toList ++ [10] := by
  unfold ansF
  simp only [List.map_cons, List.map_nil, mk_toList]
  rw [if_neg (by decide)]
theorem sha_word : ∀ c ∈ wSha.data.toList, blankB c = false ∧ c.toNat < 128 ∧ c ≠ 10 := by decide
theorem n256_word : ∀ c ∈ w256.data.toList, blankB c = false ∧ c.toNat < 128 ∧ c ≠ 10 := by decide
theorem n384_word : ∀ c ∈ w384.data.toList, blankB c = false ∧ c.toNat < 128 ∧ c ≠ 10 := by decide
/-- a line: what it tells, and that it has no LF -/
theorem line_ok (v4 v5 : Value) {p b q n x : ByteArray} (hp : ∀ c ∈ p.data.toList, blankB c = true ∧ c.toNat < 128 ∧ c ≠ 10) (hb0 : b.data.toList ≠ []) (hb : ∀ c ∈ b.data.toList, blankB c = true ∧ c.toNat < 128 ∧ c ≠ 10) (hq : ∀ c ∈ q.data.toList, blankB c = true ∧ c.toNat < 128 ∧ c ≠ 10)
    (hn0 : n.data.toList ≠ []) (hn : ∀ c ∈ n.data.toList, blankB c = false ∧ c.toNat < 128 ∧ c ≠ 10) (hx : XOk x) :
    ∀ l, l = p.data.toList ++ (wSha.data.toList ++ (b.data.toList ++ (n.data.toList ++ (b.data.toList ++ (x.data.toList ++ q.data.toList))))) →
    ansL v4 v5 ⟨l.toArray⟩ = (tellsOut v4 v5 [wSha, n, x]).data.toList ++ [10] ∧ ∀ c ∈ l, c ≠ 10 := by
  intro l hl
  obtain ⟨x0, _, hX⟩ := hx.byte
  have all : ∀ c ∈ l, c.toNat < 128 ∧ c ≠ 10 := fun c hc => by
    rw [hl] at hc
    simp only [List.mem_append] at hc
    rcases hc with h | h | h | h | h | h | h
    · exact (hp c h).2
    · exact (sha_word c h).2
    · exact (hb c h).2
    · exact (hn c h).2
    · exact (hb c h).2
    · exact ⟨(hX c h).1, (hX c h).2.2⟩
    · exact (hq c h).2
  refine ⟨?_, fun c hc => (all c hc).2⟩
  rw [ansL_flds v4 v5 l fun c hc => (all c hc).1, hl,
    flds_line _ _ _ _ _ _ _ (fun c hc => (hp c hc).1) (by decide) (fun c hc => (sha_word c hc).1) hb0 (fun c hc => (hb c hc).1) hn0 (fun c hc => (hn c hc).1) hb0 (fun c hc => (hb c hc).1) x0 (fun c hc => (hX c hc).2.1) (fun c hc => (hq c hc).1)]
  exact ansF_words v4 v5 n x
theorem linesL_free_nl (a b : List UInt8) (h : ∀ c ∈ a, c ≠ 10) : linesL (a ++ 10 :: b) = a :: linesL b := by
  rw [linesL_nl, linesL_free a h]; rfl
theorem runOut_list (v4 v5 : Value) (s : ByteArray) (l : List UInt8) (h : s.data.toList = l) : runOut v4 v5 (linesOf s) = (linesL l).flatMap fun l => ansL v4 v5 ⟨l.toArray⟩ := by
  rw [linesOf_eq, h]
  unfold runOut
  rw [List.flatMap_map]
theorem script_a (v4 v5 : Value) {b x s : ByteArray} (hb : b ∈ blanksW) (hx : XOk x)
    (hs : s = ⟨#[35, 32, 99, 10, 10]⟩ ++ b ++ wSha ++ b ++ w256 ++ b ++ x ++ b ++ nl ++ b ++ ⟨#[10, 115, 104, 97]⟩ ++ b ++ w384 ++ b ++ x ++ nl) : runOut v4 v5 (linesOf s) = told2 v4 v5 x := by
  obtain ⟨b0, hB, _⟩ := blanksW_ok hb
  have no : ∀ c ∈ (⟨#[]⟩ : ByteArray).data.toList, blankB c = true ∧ c.toNat < 128 ∧ c ≠ 10 := fun c hc => by cases hc
  obtain ⟨l1, hl1⟩ : ∃ l, l = b.data.toList ++ (wSha.data.toList ++ (b.data.toList ++ (w256.data.toList ++ (b.data.toList ++ (x.data.toList ++ b.data.toList))))) := ⟨_, rfl⟩
  obtain ⟨l2, hl2⟩ : ∃ l, l = (⟨#[]⟩ : ByteArray).data.toList ++ (wSha.data.toList ++ (b.data.toList ++ (w384.data.toList ++ (b.data.toList ++ (x.data.toList ++ (⟨#[]⟩ : ByteArray).data.toList))))) := ⟨_, rfl⟩
  obtain ⟨A1, A2⟩ := line_ok v4 v5 hB b0 hB hB (by decide) n256_word hx l1 hl1
  obtain ⟨B1, B2⟩ := line_ok v4 v5 no b0 hB no (by decide) n384_word hx l2 hl2
  have e : s.data.toList = [35, 32, 99] ++ 10 :: ([] ++ 10 :: (l1 ++ 10 :: (b.data.toList ++ 10 :: (l2 ++ 10 :: [])))) := by
    rw [hs, hl1, hl2]
    simp only [ByteArray.data_append, Array.toList_append]
    simp [wSha, nl]
  clear hl1 hl2
  rw [runOut_list v4 v5 s _ e, linesL_free_nl _ _ (by decide), linesL_free_nl _ _ (by decide), linesL_free_nl _ _ A2, linesL_free_nl _ _ (fun c hc => (hB c hc).2.2), linesL_free_nl _ _ B2]
  have h1 : ansL v4 v5 ⟨([35, 32, 99] : List UInt8).toArray⟩ = [] := by
    rw [ansL_flds v4 v5 _ (by decide)]
    rfl
  have h2 : ansL v4 v5 ⟨b.data.toList.toArray⟩ = [] := by
    rw [ansL_flds v4 v5 _ (fun c hc => (hB c hc).2.1)]
    have := flds_skip b.data.toList [] fun c hc => (hB c hc).1
    rw [List.append_nil] at this
    rw [this]
    rfl
  have h3 : ansL v4 v5 ⟨([] : List UInt8).toArray⟩ = [] := ansL_empty v4 v5
  simp only [List.flatMap_cons, h1, h2, A1, B1, h3, linesL, List.flatMap_nil]
  simp [told2]
theorem script_b (v4 v5 : Value) {x s : ByteArray} (hx : XOk x)
    (hs : s = ⟨#[115, 104, 97, 32, 50, 53, 54, 32]⟩ ++ x ++ ⟨#[10, 115, 104, 97, 32, 51, 56, 52, 32]⟩ ++ x) : runOut v4 v5 (linesOf s) = told2 v4 v5 x := by
  obtain ⟨b0, hB, _⟩ := blanksW_ok (b := ⟨#[32]⟩) (List.mem_cons_self ..)
  have no : ∀ c ∈ (⟨#[]⟩ : ByteArray).data.toList, blankB c = true ∧ c.toNat < 128 ∧ c ≠ 10 := fun c hc => by cases hc
  obtain ⟨l1, hl1⟩ : ∃ l, l = (⟨#[]⟩ : ByteArray).data.toList ++ (wSha.data.toList ++ ((⟨#[32]⟩ : ByteArray).data.toList ++ (w256.data.toList ++ ((⟨#[32]⟩ : ByteArray).data.toList ++ (x.data.toList ++ (⟨#[]⟩ : ByteArray).data.toList))))) := ⟨_, rfl⟩
  obtain ⟨l2, hl2⟩ : ∃ l, l = (⟨#[]⟩ : ByteArray).data.toList ++ (wSha.data.toList ++ ((⟨#[32]⟩ : ByteArray).data.toList ++ (w384.data.toList ++ ((⟨#[32]⟩ : ByteArray).data.toList ++ (x.data.toList ++ (⟨#[]⟩ : ByteArray).data.toList))))) := ⟨_, rfl⟩
  obtain ⟨A1, A2⟩ := line_ok v4 v5 no b0 hB no (by decide) n256_word hx l1 hl1
  obtain ⟨B1, B2⟩ := line_ok v4 v5 no b0 hB no (by decide) n384_word hx l2 hl2
  have e : s.data.toList = l1 ++ 10 :: l2 := by
    rw [hs, hl1, hl2]
    simp only [ByteArray.data_append, Array.toList_append]
    simp [wSha, w256, w384]
  clear hl1 hl2
  rw [runOut_list v4 v5 s _ e, linesL_free_nl _ _ A2, linesL_free _ B2, List.flatMap_cons, List.flatMap_cons, List.flatMap_nil, List.append_nil, A1, B1]
  rfl
/-- both scripts tell the same, and 162 bytes, if the digests have 64 and 96 -/
theorem blanks_law (v4 v5 : Value) {b x s t : ByteArray} (hb : b ∈ blanksW) (hx : XOk x)
    (hs : s = ⟨#[35, 32, 99, 10, 10]⟩ ++ b ++ wSha ++ b ++ w256 ++ b ++ x ++ b ++ nl ++ b ++ ⟨#[10, 115, 104, 97]⟩ ++ b ++ w384 ++ b ++ x ++ nl)
    (ht : t = ⟨#[115, 104, 97, 32, 50, 53, 54, 32]⟩ ++ x ++ ⟨#[10, 115, 104, 97, 32, 51, 56, 52, 32]⟩ ++ x) (h1 : (tellsOut v4 v5 [wSha, w256, x]).size = 64) (h2 : (tellsOut v4 v5 [wSha, w384, x]).size = 96) :
    runOut v4 v5 (linesOf s) = runOut v4 v5 (linesOf t) ∧ (runOut v4 v5 (linesOf t)).length = 162 := by
  rw [script_a v4 v5 hb hx hs, script_b v4 v5 hx ht]
  refine ⟨rfl, ?_⟩
  have e1 : (tellsOut v4 v5 [wSha, w256, x]).data.toList.length = 64 := by rw [Array.length_toList]; exact h1
  have e2 : (tellsOut v4 v5 [wSha, w384, x]).data.toList.length = 96 := by rw [Array.length_toList]; exact h2
  unfold told2
  simp only [List.length_append, List.length_singleton, e1, e2]
end Go.Proofs
namespace Go.Hal
open Go Go.Proofs
set_option maxRecDepth 1000000
set_option maxHeartbeats 0
noncomputable section
def digN (n : Nat) : Nat := bif Nat.blt n 10 then 48 + n else 87 + n
def hexN (c : Nat) : List Nat := [digN (Nat.div c 16), digN (Nat.mod c 16)]
def hexC (c : Nat) : Contract := ⟨64, 0, [], [], [.sc (.str (.lit [c]))], .nil, 64, [⟨0, [], [], .sc (.str (.lit (hexN c))), .nil, 64⟩]⟩
def okB : R Unit → Bool
  | .ok _ => true
  | .err _ => false
theorem okB_ok {x : R Unit} (h : okB x = true) : x = .ok () := by
  cases x with
  | ok u => rfl
  | err s => cases h
theorem hex_run : ((List.range 256).all fun c => okB (checkF (envE w0 noInv) 1000 11 (hexC c))) = true := by kernel_rfl
theorem hex_sound {c : Nat} (h : c < 256) : CSound Go.Proofs.Tryz.prog 11 (hexC c) :=
  (fast_ok none_ok (okB_ok (List.all_eq_true.1 hex_run c (List.mem_range.2 h)))).1
end
end Go.Hal
namespace Go.Proofs
open Go Go.Hal Go.RowKit
noncomputable section
set_option maxRecDepth 1000000
def hexB (c : UInt8) : ByteArray := bsOf (hexN c.toNat)
theorem hexB_ok (c : UInt8) : (hexB c).size = 2 ∧ ∀ d ∈ (hexB c).data.toList, digB d := by
  have key : ∀ n : Fin 256, (bsOf (hexN n.val)).size = 2 ∧ ∀ d ∈ (bsOf (hexN n.val)).data.toList, (48 ≤ d.toNat ∧ d.toNat ≤ 57) ∨ (97 ≤ d.toNat ∧ d.toNat ≤ 102) := by decide +kernel
  exact key ⟨c.toNat, c.toNat_lt⟩
theorem Tryz.hex_calls (c : UInt8) (W : World) : Calls Tryz.prog 11 #[.string ⟨#[c]⟩] W fun e W' => e = .returned (.string (hexB c)) ∧ Below W.heap.size W W' := by
  have hK := hex_sound (c := c.toNat) c.toNat_lt
  have hno : ∀ b, ¬ Alive (.nil : Tr ABlk) b := fun b h => h rfl
  have hR : RelH pt0 (fun _ => .no) .nil 64 W := ⟨fun _ _ => rfl, fun b η _ => trivial, fun b _ _ _ _ h => (hno b h).elim, fun b _ h => (hno b h).elim⟩
  have hs : Sat pt0 (hexC c.toNat).ctx := ⟨rfl, fun η _ => ⟨(fun a l u hb => by cases hb), (fun g e hm => by cases hm), (fun x m q hm => by cases hm)⟩⟩
  have eb : bsOf [c.toNat] = ⟨#[c]⟩ := by simp [bsOf]
  have hd : pt0.All fun ζ => DenVs ζ (fun _ => .no) (hexC c.toNat).args (#[.string ⟨#[c]⟩] : Array Value).toList := fun ζ _ => ⟨⟨by rw [← eb]; rfl, slen_lit ζ _⟩, trivial⟩
  obtain ⟨post, hp, r', hr, hn, _, _, H⟩ := hK pt0 hs ⟨_, W, _, hd, hR⟩
  obtain ⟨_, hc⟩ := H _ W _ hd hR
  obtain rfl := List.mem_singleton.1 hp
  refine hc.mono fun e W' ⟨v, he, τ', hst, hv, hR'⟩ => ?_
  have hv : v = .string (hexB c) := hv.self.1
  exact ⟨by rw [he, hv], hst.io.1, hst.io.2.2, hst.io.2.1, hst.size, fun i hi => hst.fr i hi fun ⟨b, _, hb, _⟩ => hno b hb⟩
end
end Go.Proofs
namespace Go.Proofs
open Go Go.Hal Go.RowKit Go.Lib Go.Shelf
set_option maxHeartbeats 4000000
set_option maxRecDepth 1000000
theorem Tryz.lays217 : Go.Proofs.Lays.n217 Tryz.prog Tryz.lays146_ren := {
  mixed := Tryz.lays146.mixed
  f217 := Tryz.lays146.f217
  f266 := Tryz.lays146.f266
  t3 := Tryz.lays146.t3
  a3 := Tryz.lays146.a3
  z3 := Tryz.lays146.z3
  v3 := Tryz.lays146.v3
  t5 := Tryz.lays146.t5
  a5 := Tryz.lays146.a5
  z5 := Tryz.lays146.z5
  v5 := Tryz.lays146.v5
  t9 := Tryz.lays146.t9
  a9 := Tryz.lays146.a9
  z9 := Tryz.lays146.z9
  v9 := Tryz.lays146.v9 }
theorem Tryz.slIndexByte (s : ByteArray) (c : Int) (w : World) : Calls Tryz.prog 186 #[.string s, .int .u8 c] w fun e w' => e = .returned (.int .i64 (Lib.indexByte s.data.toList c.toNat.toUInt8)) ∧ w' = w := Any.stringslite_IndexByte Tryz.lays217 s c w
theorem Tryz.indexByte (s : ByteArray) (c : Int) (w : World) : Calls Tryz.prog 135 #[.string s, .int .u8 c] w fun e w' => e = .returned (.int .i64 (Lib.indexByte s.data.toList c.toNat.toUInt8)) ∧ w' = w := by
  have e186 : ∀ args w, (callFunc 186 args).run Tryz.prog w = .ok (.enter 186 args) w := enters_of Tryz.func186 (by kernel_rfl) rfl
  go_enter Tryz.func135, Tryz.ntmps135
  go_wp2_with (go_at_fn 186; refine (Tryz.slIndexByte s c w).mono ?_)
  rintro e w1 ⟨rfl, rfl⟩
  go_wp2
  go_ret
  exact ⟨rfl, rfl⟩
def digs : ByteArray := ⟨#[48, 49, 50, 51, 52, 53, 54, 55, 56, 57, 97, 98, 99, 100, 101, 102]⟩
theorem dig_index (c : UInt8) (h : digB c) : 0 ≤ Lib.indexByte digs.data.toList ((c.toNat : Int).toNat.toUInt8) ∧ Lib.indexByte digs.data.toList ((c.toNat : Int).toNat.toUInt8) ≤ 15 := by
  have e : ((c.toNat : Int).toNat.toUInt8) = c := by simp
  rw [e]
  have key : ∀ n : Fin 256, ((48 ≤ n.val ∧ n.val ≤ 57) ∨ (97 ≤ n.val ∧ n.val ≤ 102)) → 0 ≤ Lib.indexByte digs.data.toList (UInt8.ofNat n.val) ∧ Lib.indexByte digs.data.toList (UInt8.ofNat n.val) ≤ 15 := by decide +kernel
  have := key ⟨c.toNat, c.toNat_lt⟩ h
  simpa using this
theorem Tryz.indexDig (c : UInt8) (h : digB c) (w : World) : Calls Tryz.prog 135 #[.string ⟨#[48, 49, 50, 51, 52, 53, 54, 55, 56, 57, 97, 98, 99, 100, 101, 102]⟩, .int .u8 c.toNat] w fun e w' => ∃ d, e = .returned (.int .i64 d) ∧ 0 ≤ d ∧ d ≤ 15 ∧ w' = w :=
  (Tryz.indexByte digs c.toNat w).mono fun _ _ hh => ⟨_, hh.1, (dig_index c h).1, (dig_index c h).2, hh.2⟩
theorem Tryz.bytes_dash (w : World) : Calls Tryz.prog 83 #[.string ⟨#[45]⟩] w fun e w' => e = .returned (.tuple #[.string ⟨#[]⟩, .bool true]) ∧ w' = w := by
  go_enter Tryz.func83, Tryz.ntmps83
  go_wp2
  go_ret2
  exact ⟨rfl, rfl⟩
theorem Tryz.bytes_hex (x : ByteArray) (h2 : x.size % 2 = 0) (h0 : 0 < x.size) (h80 : x.size ≤ 80) (hd : ∀ c ∈ x.data.toList, digB c) (w : World) :
    Calls Tryz.prog 83 #[.string x] w fun e w' => ∃ s, e = .returned (.tuple #[.string s, .bool true]) ∧ s.size ≤ 65536 ∧ Below w.heap.size w w' := by
  obtain ⟨i0, hi, hz0, hz1, hz2⟩ := info_parts Tryz.hi5
  obtain ⟨n, hn⟩ : ∃ n, x.size / 2 = n := ⟨_, rfl⟩
  obtain ⟨W0, hmk, hown0, hg0⟩ := run_make_full (P := Tryz.prog) w w.heap.size 30 5 i0 _ 1 Tryz.underlying30 hi hz0 hz1 .i64 .i64 n (by rw [hz2]; omega) (by unfold maxLen; omega) (Nat.le_refl _)
  have hb0 : Below w.heap.size w W0 := (Below.refl _ w).grown hg0 (Nat.le_refl _) (fun k hk => by cases hk)
  rw [show (Value.int .u8 0).cells = #[Value.int .u8 0] from rfl, Nat.mul_one, toList_madeCells_one] at hown0
  have e135 : ∀ args w, (callFunc 135 args).run Tryz.prog w = .ok (.enter 135 args) w := enters_of Tryz.func135 (by kernel_rfl) rfl
  have hq : (x.size : Int) / 2 = (n : Int) := by omega
  rw [← hq] at hmk
  clear hq
  have hne : (x.toList == [45]) = false := by
    rw [ByteArray.toList_eq, beq_eq_false_iff_ne]
    intro e
    have : x.data.toList.length = x.size := Array.length_toList
    rw [e] at this
    simp at this
    omega
  go_enter Tryz.func83, Tryz.ntmps83
  go_wp2
  go_loopg [15] x.size (fun gf s15 wx => ∃ (i : Nat) (zs : List Int), i + gf = x.size ∧ s15 = .int .i64 i ∧ zs.length = n ∧ wx.ownsRow w.heap.size 5 1 (.slice (some ⟨w.heap.size, 0, none⟩) n n) n (zs.map (Value.int .u8)) ∧ Below w.heap.size w wx)
  case atStart => exact ⟨0, List.replicate n 0, by omega, rfl, by simp, by rw [List.map_replicate]; exact hown0, hb0⟩
  case round =>
    obtain ⟨i, zs, hig, rfl, hzl, hA, hbr⟩ := hrel
    cases gk with
    | zero =>
      obtain rfl : i = x.size := by omega
      have hcell : ∀ j, j < n → wr.cell? ⟨w.heap.size, 0 + j, none⟩ = some (.int .u8 (zs.getD j 0)) := fun j hj => by
        rw [Nat.zero_add, hA.cellAt j (by omega), List.getElem?_map, List.getElem?_eq_getElem (by omega), List.getD_eq_getElem?_getD, List.getElem?_eq_getElem (by omega)]
        rfl
      have hcv := run_convert_bytes_arg (P := Tryz.prog) wr 30 5 Tryz.underlying30 Tryz.underlying5 w.heap.size 0 n n zs hzl hcell 9 Tryz.underlying9
      go_wp2
      go_ret2
      exact ⟨_, rfl, by rw [strOfNums_size]; omega, hbr⟩
    | succ gf =>
      have hin : (i : Int) < (x.size : Int) := by omega
      have hil : i < x.size := by omega
      have hdig : digB (x[i]'hil) := hd _ (by
        have : x[i]'hil = x.data.toList[i]'(by rw [Array.length_toList]; exact hil) := rfl
        rw [this]; exact List.getElem_mem _)
      obtain ⟨z, hz⟩ : ∃ z, zs[i / 2]? = some z := ⟨_, List.getElem?_eq_getElem (by omega)⟩
      have hcz : wr.cell? ⟨w.heap.size, i / 2, none⟩ = some (.int .u8 z) := by
        rw [hA.cellAt (i / 2) (by omega), List.getElem?_map, hz]
        rfl
      have hfz := hA.frozenAt (i / 2)
      have hodd : ((x.size : Int) % 2 != 0) = false := by simp; omega
      go_wp2_with (go_at_fn 135; refine (Tryz.indexDig _ hdig _).mono ?_)
      rintro e w1 ⟨d, rfl, hd0, hd1, rfl⟩
      have hd00 : ¬ d < 0 := by omega
      go_wp2
      go_roundg gf
      case measure => omega
      case rel =>
        have hst := hA.stored (i / 2) (.int .u8 (bits BinOp.or IntKind.u8 (z * 16 % 256) d))
        exact ⟨i + 1, zs.set (i / 2) (bits BinOp.or IntKind.u8 (z * 16 % 256) d), by omega, by go_num, by simp [hzl], by rw [List.map_set]; exact hst.1, hbr.setCell (p := ⟨w.heap.size, i / 2, none⟩) (Nat.le_refl _) _⟩
theorem Tryz.bytes_calls (x : ByteArray) (hx : XOk x) (w : World) : Calls Tryz.prog 83 #[.string x] w fun e w' => ∃ s, e = .returned (.tuple #[.string s, .bool true]) ∧ s.size ≤ 65536 ∧ Below w.heap.size w w' := by
  rcases hx with rfl | ⟨h2, h0, h80, hd⟩
  · refine (Tryz.bytes_dash w).mono ?_
    rintro e w' ⟨rfl, rfl⟩
    exact ⟨_, rfl, by decide, Below.refl _ _⟩
  · exact Tryz.bytes_hex x h2 h0 h80 hd w
end Go.Proofs
namespace Go.Proofs
open Go Go.Hal Go.RowKit Go.Lib Go.Shelf
set_option maxHeartbeats 4000000
set_option maxRecDepth 1000000
theorem setCell_other {w : World} {c o k : Nat} (v : Value) (h : k ≠ c) : (w.setCell ⟨c, o, none⟩ v).heap[k]? = w.heap[k]? := by
  simp [World.setCell, Array.getElem?_modify, Ne.symm h]
theorem Tryz.read_calls {v4 v5 : Value} {W : World} (G : Glob W v4 v5) {A : Nat} {sh nb x : ByteArray} {N : Int}
    (hnum : ∀ w, Glob w v4 v5 → Calls Tryz.prog 82 #[.string nb] w fun e w' => e = .returned (.tuple #[.int .i64 N, .bool true]) ∧ Glob w' v4 v5 ∧ Below w.heap.size w w')
    (hx : XOk x) (hA : W.heap[A]? = some (.cells #[.string sh, .string nb, .string x] 9)) :
    Calls Tryz.prog 49 #[.agg #[.bool true, .int .i64 1, .func (.func 38) #[] #[]], .slice (some ⟨A, 1, none⟩) 2 2] W fun e W' => ∃ B cap s more, e = .returned (.tuple #[.agg #[.int .i64 N, .slice (some ⟨B, 0, none⟩) 1 cap], .bool true]) ∧
      W'.heap[B]? = some (.cells ⟨.string s :: more⟩ 9) ∧ s.size ≤ 65536 ∧ 1 ≤ cap ∧ cap ≤ more.length + 1 ∧ Glob W' v4 v5 ∧ Below W.heap.size W W' := by
  have e82 : ∀ args w, (callFunc 82 args).run Tryz.prog w = .ok (.enter 82 args) w := enters_of Tryz.func82 (by kernel_rfl) rfl
  have e83 : ∀ args w, (callFunc 83 args).run Tryz.prog w = .ok (.enter 83 args) w := enters_of Tryz.func83 (by kernel_rfl) rfl
  have h8 := G.size
  have c1 : W.cell? ⟨A, 1, none⟩ = some (.string nb) := by rw [Lib.cell_of_heap hA]; rfl
  have c2 : W.cell? ⟨A, 2, none⟩ = some (.string x) := by rw [Lib.cell_of_heap hA]; rfl
  have hAW : A < W.heap.size := (Array.getElem?_eq_some_iff.1 hA).1
  have hbA : Below W.heap.size W (W.alloc (.cells #[.bool true, .int .i64 1, .func (.func 38) #[] #[]] 80)) := (Below.refl _ W).alloc (Nat.le_refl _) _
  have hbB := hbA.alloc hbA.size (.cells #[.int .i64 0, .slice none 0 0] 87)
  have hbC := hbB.alloc hbB.size (.cells #[.int .i64 0, .slice none 0 0] 87)
  have c1a := (hbC.cell (p := ⟨A, 1, none⟩) hAW).trans c1
  go_enter Tryz.func49, Tryz.ntmps49
  go_wp2_with (go_at_fn 82; refine (hnum _ (G.below h8 hbC)).mono ?_)
  rintro e w1 ⟨rfl, G1, hb1⟩
  have k0 : w1.heap[W.heap.size]? = some (.cells #[.bool true, .int .i64 1, .func (.func 38) #[] #[]] 80) := by
    rw [hb1.block _ (by rw [alloc_size, alloc_size, alloc_size]; omega)]
    exact alloc_old (alloc_old (alloc_new W _))
  have k1 : w1.heap[W.heap.size + 1]? = some (.cells #[.int .i64 0, .slice none 0 0] 87) := by
    rw [hb1.block _ (by rw [alloc_size, alloc_size, alloc_size]; omega)]
    have := alloc_new (W.alloc (.cells #[.bool true, .int .i64 1, .func (.func 38) #[] #[]] 80)) (.cells #[.int .i64 0, .slice none 0 0] 87)
    rw [alloc_size] at this
    exact alloc_old this
  have k2 : w1.heap[W.heap.size + 1 + 1]? = some (.cells #[.int .i64 0, .slice none 0 0] 87) := by
    rw [hb1.block _ (by rw [alloc_size, alloc_size, alloc_size]; omega)]
    have := alloc_new ((W.alloc (.cells #[.bool true, .int .i64 1, .func (.func 38) #[] #[]] 80)).alloc (.cells #[.int .i64 0, .slice none 0 0] 87)) (.cells #[.int .i64 0, .slice none 0 0] 87)
    rw [alloc_size, alloc_size] at this
    exact this
  have hbw : Below W.heap.size W w1 := hbC.trans (hb1.mono hbC.size)
  have q0 : w1.cell? ⟨W.heap.size + 1 + 1, 0, none⟩ = some (.int .i64 0) := by rw [Lib.cell_of_heap k2]; rfl
  have f0 := Lib.frozen_of_heap k2 0
  go_wp2
  have hset := setCell_of (o := 0) k2 (v := .int .i64 N)
  have k2' : (w1.setCell ⟨W.heap.size + 1 + 1, 0, none⟩ (.int .i64 N)).heap[W.heap.size + 1 + 1]? = some (.cells #[.int .i64 N, .slice none 0 0] 87) := by
    rw [hset]; exact wput_self (Array.getElem?_eq_some_iff.1 k2).1
  have k1' : (w1.setCell ⟨W.heap.size + 1 + 1, 0, none⟩ (.int .i64 N)).heap[W.heap.size + 1]? = some (.cells #[.int .i64 0, .slice none 0 0] 87) := by
    rw [hset, wput_ne (by omega)]; exact k1
  have k0' : (w1.setCell ⟨W.heap.size + 1 + 1, 0, none⟩ (.int .i64 N)).heap[W.heap.size]? = some (.cells #[.bool true, .int .i64 1, .func (.func 38) #[] #[]] 80) := by
    rw [hset, wput_ne (by omega)]; exact k0
  have hbs : Below W.heap.size W (w1.setCell ⟨W.heap.size + 1 + 1, 0, none⟩ (.int .i64 N)) := hbw.setCell (p := ⟨W.heap.size + 1 + 1, 0, none⟩) (by show W.heap.size ≤ W.heap.size + 1 + 1; omega) _
  clear hset
  go_loopg [7, 34] 1 (fun gf s7 s34 wx => s7 = .bool true ∧ wx.heap[W.heap.size]? = some (.cells #[.bool true, .int .i64 1, .func (.func 38) #[] #[]] 80) ∧ wx.heap[W.heap.size + 1]? = some (.cells #[.int .i64 0, .slice none 0 0] 87) ∧ Below W.heap.size W wx ∧
    ((gf = 1 ∧ s34 = .int .i64 0 ∧ wx.heap[W.heap.size + 1 + 1]? = some (.cells #[.int .i64 N, .slice none 0 0] 87)) ∨
     (gf = 0 ∧ s34 = .int .i64 1 ∧ ∃ B cap s more, wx.heap[W.heap.size + 1 + 1]? = some (.cells #[.int .i64 N, .slice (some ⟨B, 0, none⟩) 1 cap] 87) ∧ wx.heap[B]? = some (.cells ⟨.string s :: more⟩ 9) ∧ s.size ≤ 65536 ∧ 1 ≤ cap ∧ cap ≤ more.length + 1)))
  case atStart => exact ⟨rfl, k0', k1', hbs, .inl ⟨rfl, rfl, k2'⟩⟩
  case round =>
    clear k0 k1 k2 k0' k1' k2' hbs q0 f0 hb1 hbw
    obtain ⟨rfl, r0, r1, hbr, ⟨rfl, rfl, r2⟩ | ⟨rfl, rfl, B, cap, s, more, r2, rB, hs, hc1, hc⟩⟩ := hrel
    · have c2r := (hbr.cell (p := ⟨A, 2, none⟩) hAW).trans c2
      go_wp2_with (go_at_fn 83; refine (Tryz.bytes_calls x hx _).mono ?_)
      rintro e w3 ⟨s, rfl, hs, hb3⟩
      have p0 := below_keptC hb3 _ _ r0
      have p1 := below_keptC hb3 _ _ r1
      have p2 := below_keptC hb3 _ _ r2
      have hbz : Below W.heap.size W w3 := hbr.trans (hb3.mono hbr.size)
      have q1 : w3.cell? ⟨W.heap.size + 1 + 1, 1, none⟩ = some (.slice none 0 0) := by rw [Lib.cell_of_heap p2]; rfl
      obtain ⟨i9, hi9', hz90, hz91, hz92⟩ := info_parts Tryz.hi9
      have hnil : (w3.alloc (.cells #[.string s] 9)).ownsRow W.heap.size 9 1 (.slice none 0 0) 0 [] := ⟨rfl, .inl ⟨rfl, rfl⟩⟩
      clear r0 r1 r2 hbr
      go_wp2_with (at_builtin; go_must (refine wpList_append_lies _ rfl (.tmp 48) (.tmp 50) 31 rfl W.heap.size 9 i9 (.string ⟨#[]⟩) 1 16 Tryz.underlying31 hi9' hz90 hz91 hz92 rfl (by decide) _ _ _ rfl hnil ⟨w3.heap.size, 0, none⟩ 1 1 [.string s] rfl rfl (cell_one_new _ _ _) (by intro u hu; simp at hu; subst hu; rfl) (by decide) (by unfold maxLen; omega) (by omega) (by have := hbz.size; rw [alloc_size]; omega) _ rfl ?_; intro g cap w4 hown hgrow hat hlt; have l2 := (Array.getElem?_eq_some_iff.1 p2).1; have hgr : (w3.alloc (.cells #[.string s] 9)).grownBy w4 none := hgrow; have q2 := (hgr.block (W.heap.size + 1 + 1) (by rw [alloc_size]; omega) (fun h => by cases h)).trans (alloc_old p2); have q3 : w4.cell? ⟨W.heap.size + 1 + 1, 1, none⟩ = some (.slice none 0 0) := (by rw [Lib.cell_of_heap q2]; rfl); have q4 := Lib.frozen_of_heap q2 1))
      go_roundg 0
      case measure => omega
      case rel =>
        have hset := setCell_of (o := 1) q2 (v := .slice (some ⟨g, 0, none⟩) 1 cap)
        rcases hown.2 with ⟨hv, _⟩ | ⟨g', cap', cur, hv, hg0, hgc, hn1, hcm, hcs, ht⟩
        · cases hv
        · simp only [Value.slice.injEq, Option.some.injEq, Addr.mk.injEq] at hv
          obtain ⟨⟨rfl, _⟩, _, rfl⟩ := hv
          have hgne : g ≠ W.heap.size + 1 + 1 := fun e => by
            rw [e, q2] at hgc
            cases hgc
          have l0 := (Array.getElem?_eq_some_iff.1 p0).1
          have l1 := (Array.getElem?_eq_some_iff.1 p1).1
          have q0' := (hgr.block (W.heap.size) (by rw [alloc_size]; omega) (fun h => by cases h)).trans (alloc_old p0)
          have q1' := (hgr.block (W.heap.size + 1) (by rw [alloc_size]; omega) (fun h => by cases h)).trans (alloc_old p1)
          obtain ⟨cl⟩ := cur
          cases cl with
          | nil => simp at hcs; omega
          | cons u more =>
            obtain rfl : u = .string s := by simpa using ht
            refine ⟨rfl, ?_, ?_, ?_, .inr ⟨rfl, rfl, g, cap, s, more, ?_, ?_, hs, by omega, by simp at hcs; omega⟩⟩
            · rw [setCell_other _ (by omega)]; exact q0'
            · rw [setCell_other _ (by omega)]; exact q1'
            · exact ((hbz.alloc hbz.size _).grown hgr (by have := hbz.size; rw [alloc_size]; omega) (fun k hk => by cases hk)).setCell (p := ⟨W.heap.size + 1 + 1, 1, none⟩) (by show W.heap.size ≤ W.heap.size + 1 + 1; omega) _
            · rw [hset]; exact wput_self (Array.getElem?_eq_some_iff.1 q2).1
            · rw [setCell_other _ hgne]; exact hgc
    · have b0 : wr.cell? ⟨W.heap.size, 1, none⟩ = some (.int .i64 1) := by rw [Lib.cell_of_heap r0]; rfl
      have b1 : wr.cell? ⟨W.heap.size + 1, 0, none⟩ = some (.int .i64 0) := by rw [Lib.cell_of_heap r1]; rfl
      have b2 : wr.cell? ⟨W.heap.size + 1, 1, none⟩ = some (.slice none 0 0) := by rw [Lib.cell_of_heap r1]; rfl
      have b3 : wr.cell? ⟨W.heap.size + 1 + 1, 0, none⟩ = some (.int .i64 N) := by rw [Lib.cell_of_heap r2]; rfl
      have b4 : wr.cell? ⟨W.heap.size + 1 + 1, 1, none⟩ = some (.slice (some ⟨B, 0, none⟩) 1 cap) := by rw [Lib.cell_of_heap r2]; rfl
      have g0 := Lib.frozen_of_heap r1 0
      have g1 := Lib.frozen_of_heap r1 1
      go_wp2
      go_region
      all_goals go_wp2
      have hBne : B ≠ W.heap.size + 1 := fun e => by
        rw [e, r1] at rB
        cases rB
      have hbf : Below W.heap.size W ((wr.setCell ⟨W.heap.size + 1, 0, none⟩ (.int .i64 N)).setCell ⟨W.heap.size + 1, 1, none⟩ (.slice (some ⟨B, 0, none⟩) 1 cap)) :=
        (hbr.setCell (p := ⟨W.heap.size + 1, 0, none⟩) (by show W.heap.size ≤ W.heap.size + 1; omega) _).setCell (p := ⟨W.heap.size + 1, 1, none⟩) (by show W.heap.size ≤ W.heap.size + 1; omega) _
      have hs1 := setCell_of (o := 0) r1 (v := .int .i64 N)
      have k1 : (wr.setCell ⟨W.heap.size + 1, 0, none⟩ (.int .i64 N)).heap[W.heap.size + 1]? = some (.cells #[.int .i64 N, .slice none 0 0] 87) := by
        rw [hs1]; exact wput_self (Array.getElem?_eq_some_iff.1 r1).1
      have hs2 := setCell_of (o := 1) k1 (v := .slice (some ⟨B, 0, none⟩) 1 cap)
      have k2 : ((wr.setCell ⟨W.heap.size + 1, 0, none⟩ (.int .i64 N)).setCell ⟨W.heap.size + 1, 1, none⟩ (.slice (some ⟨B, 0, none⟩) 1 cap)).heap[W.heap.size + 1]? = some (.cells #[.int .i64 N, .slice (some ⟨B, 0, none⟩) 1 cap] 87) := by
        rw [hs2]; exact wput_self (Array.getElem?_eq_some_iff.1 k1).1
      have kB : ((wr.setCell ⟨W.heap.size + 1, 0, none⟩ (.int .i64 N)).setCell ⟨W.heap.size + 1, 1, none⟩ (.slice (some ⟨B, 0, none⟩) 1 cap)).heap[B]? = some (.cells ⟨.string s :: more⟩ 9) := by
        rw [setCell_other _ hBne, setCell_other _ hBne]; exact rB
      clear hs1 hs2 k1
      generalize (wr.setCell ⟨W.heap.size + 1, 0, none⟩ (.int .i64 N)).setCell ⟨W.heap.size + 1, 1, none⟩ (.slice (some ⟨B, 0, none⟩) 1 cap) = wz at *
      have hlv := run_loadVar_row (P := Tryz.prog) wz.drew (W.heap.size + 1) 87 87 _ _ _ k2 Tryz.underlying87 rfl (by kernel_rfl)
      (try simp only [Exit.inBlock, Exit.then])
      refine bodyPost_ret (v := .tuple #[.agg #[.int .i64 N, .slice (some ⟨B, 0, none⟩) 1 cap], .bool true]) (by rw [results_cell_tmp rfl]; simp [asAddr, hlv]) rfl ?_
      exact ⟨B, cap, s, more, rfl, kB, hs, hc1, hc, G.below h8 hbf.drew, hbf.drew⟩
end Go.Proofs
namespace Go.Proofs
open Go Go.Hal Go.RowKit Go.Lib Go.Shelf
set_option maxHeartbeats 4000000
set_option maxRecDepth 1000000
theorem lit_sha : findLit [115, 104, 97] mapEs = some [.bool (.known true), .int .i64 ⟨.ofNat 1, []⟩, .func 38 []] := by kernel_rfl
theorem look_sha {w : World} {mb : Nat} (hM : MapOk w mb) : (Instr.lookup 43 (.map (some mb)) (.string ⟨#[115, 104, 97]⟩) true).run Tryz.prog w = .ok (.tuple #[.agg #[.bool true, .int .i64 1, .func (.func 38) #[] #[]], .bool true]) w := by
  obtain ⟨ents, clock, h1, h2⟩ := hM
  have hf := findNow_str (l := [115, 104, 97]) 0 (h2 pt0.η fun _ => .no)
  rw [lit_sha] at hf
  obtain ⟨j, vs, hf, hd⟩ := hf
  match vs, hd with
  | [a, b, c], ⟨ha, ⟨hb, _⟩, hc, _⟩ =>
    obtain rfl : a = .bool true := ha
    obtain rfl : b = .int .i64 1 := hb
    obtain ⟨cs, rfl, hcs⟩ := hc
    cases cs with
    | cons _ _ => exact hcs.elim
    | nil =>
      exact run_lookup_now (P := Tryz.prog) Tryz.underlying43 Tryz.underlying9 (.inl rfl) h1 (k := .string ⟨#[115, 104, 97]⟩) (ok := true) (z := .nilFunc) hf (fun h => by cases h)
theorem wput_alloc (w : World) (o o' : Obj) : wput (w.alloc o) w.heap.size o' = w.alloc o' := by
  show ({ w with heap := (w.heap.push o).setIfInBounds w.heap.size o' } : World) = { w with heap := w.heap.push o' }
  congr 1
  apply Array.ext_getElem?
  intro i
  rw [Array.getElem?_setIfInBounds, Array.getElem?_push, Array.getElem?_push]
  simp only [Array.size_push]
  split
  · rename_i h; simp [h]
  · rename_i h
    rw [if_neg (fun e => h e.symm), if_neg (fun e => h e.symm)]
theorem store_fn (w : World) : (store ⟨w.heap.size, 2, none⟩ (.func (.func 38) #[] #[])).run Tryz.prog (w.alloc (.cells #[.bool true, .int .i64 1, .nilFunc] 80)) = .ok () (w.alloc (.cells #[.bool true, .int .i64 1, .func (.func 38) #[] #[]] 80)) := by
  have h := alloc_new w (.cells #[.bool true, .int .i64 1, .nilFunc] 80)
  rw [run_store_of h (by decide) (by decide) rfl, wput_alloc]
  rfl
theorem Tryz.look_calls {v4 v5 : Value} {W : World} (G : Glob W v4 v5) {mb A : Nat} (hM : MapOk W mb) {nb x : ByteArray} {N : Int} {M : Nat}
    (hnum : ∀ w, Glob w v4 v5 → Calls Tryz.prog 82 #[.string nb] w fun e w' => e = .returned (.tuple #[.int .i64 N, .bool true]) ∧ Glob w' v4 v5 ∧ Below w.heap.size w w')
    (hdig : ∀ w B cap s more, Glob w v4 v5 → w.heap[B]? = some (.cells ⟨.string s :: more⟩ 9) → s.size ≤ 65536 → 1 ≤ cap → cap ≤ more.length + 1 → Calls Tryz.prog 38 #[.agg #[.int .i64 N, .slice (some ⟨B, 0, none⟩) 1 cap]] w fun e _ => ∃ s, e = .returned (.string s) ∧ s.size = M)
    (hx : XOk x) (hA : W.heap[A]? = some (.cells #[.string ⟨#[115, 104, 97]⟩, .string nb, .string x] 9)) :
    Calls Tryz.prog 23 #[.map (some mb), .slice (some ⟨A, 0, none⟩) 3 3] W fun e _ => ∃ s, e = .returned (.string s) ∧ s.size = M := by
  have e38 : ∀ args w, (callFunc 38 args).run Tryz.prog w = .ok (.enter 38 args) w := enters_of Tryz.func38 (by kernel_rfl) rfl
  have e49 : ∀ args w, (callFunc 49 args).run Tryz.prog w = .ok (.enter 49 args) w := enters_of Tryz.func49 (by kernel_rfl) rfl
  have h8 := G.size
  have c0 : W.cell? ⟨A, 0, none⟩ = some (.string ⟨#[115, 104, 97]⟩) := by rw [Lib.cell_of_heap hA]; rfl
  have hAW : A < W.heap.size := (Array.getElem?_eq_some_iff.1 hA).1
  have hlk := look_sha hM
  have hst := store_fn W
  have hread : ∀ w, Below W.heap.size W w → W.heap.size < w.heap.size → w.cell? ⟨W.heap.size, 0, none⟩ = some (.bool true) → w.cell? ⟨W.heap.size, 1, none⟩ = some (.int .i64 1) → w.cell? ⟨W.heap.size, 2, none⟩ = some (.func (.func 38) #[] #[]) →
      Calls Tryz.prog 49 #[.agg #[.bool true, .int .i64 1, .func (.func 38) #[] #[]], .slice (some ⟨A, 1, none⟩) 2 2] w fun e w' => ∃ B cap s more, e = .returned (.tuple #[.agg #[.int .i64 N, .slice (some ⟨B, 0, none⟩) 1 cap], .bool true]) ∧
        w'.heap[B]? = some (.cells ⟨.string s :: more⟩ 9) ∧ s.size ≤ 65536 ∧ 1 ≤ cap ∧ cap ≤ more.length + 1 ∧ Glob w' v4 v5 ∧ Below w.heap.size w w' ∧
        w'.cell? ⟨W.heap.size, 0, none⟩ = some (.bool true) ∧ w'.cell? ⟨W.heap.size, 1, none⟩ = some (.int .i64 1) ∧ w'.cell? ⟨W.heap.size, 2, none⟩ = some (.func (.func 38) #[] #[]) := fun w hb hlt s0 s1 s2 => by
    refine (Tryz.read_calls (G.below h8 hb) hnum hx (by rw [hb.block A hAW]; exact hA)).mono ?_
    rintro e w' ⟨B, cap, s, more, he, hB, hs, hc1, hc, G', hb'⟩
    exact ⟨B, cap, s, more, he, hB, hs, hc1, hc, G', hb', (hb'.cell (p := ⟨W.heap.size, 0, none⟩) hlt).trans s0, (hb'.cell (p := ⟨W.heap.size, 1, none⟩) hlt).trans s1, (hb'.cell (p := ⟨W.heap.size, 2, none⟩) hlt).trans s2⟩
  clear hnum
  go_enter Tryz.func23, Tryz.ntmps23
  go_wp2
  go_region_held3 (fun w' => w'.cell? ⟨W.heap.size, 0, none⟩ = some (.bool true) ∧ w'.cell? ⟨W.heap.size, 1, none⟩ = some (.int .i64 1) ∧ w'.cell? ⟨W.heap.size, 2, none⟩ = some (.func (.func 38) #[] #[])) (go_keep)
    (first
      | (go_at_call 49; refine Calls.mono (hread _ (by go_grown) (by simp; omega) (by simp) (by simp) (by simp)) ?_; rintro e w3 ⟨B, cap, s, more, rfl, hB, hs, hc1, hc, G3, hb3, s0, s1, s2⟩; have l3 := hb3.size; have t0 : w3.cell? ⟨W.heap.size + 1, 0, none⟩ = some (.int .i64 0) := ((hb3.cell (p := ⟨W.heap.size + 1, 0, none⟩) (by simp)).trans (by simp)); have t1 : w3.cell? ⟨W.heap.size + 1, 1, none⟩ = some (.slice none 0 0) := ((hb3.cell (p := ⟨W.heap.size + 1, 1, none⟩) (by simp)).trans (by simp)); have t2 : w3.frozen? ⟨W.heap.size + 1, 0, none⟩ = false := ((World.frozen?_of_block (hb3.block _ (by simp))).trans (by simp)); have t3 : w3.frozen? ⟨W.heap.size + 1, 1, none⟩ = false := ((World.frozen?_of_block (hb3.block _ (by simp))).trans (by simp)))
      | (go_at_call 49; refine Calls.mono (hread _ (by go_grown) (by simp) (by simp) (by simp) (by simp)) ?_; rintro e w3 ⟨B, cap, s, more, rfl, hB, hs, hc1, hc, G3, hb3, s0, s1, s2⟩))
  all_goals first
    | (have r1 : w3.heap[W.heap.size + 1]? = some (.cells #[.int .i64 0, .slice none 0 0] 87) := (hb3.block _ (by simp)).trans (heap_alloc2_new W _ _)
       have hBne : B ≠ W.heap.size + 1 := fun e => by
         rw [e, r1] at hB
         cases hB
       have hGz : Glob ((w3.setCell ⟨W.heap.size + 1, 0, none⟩ (.int .i64 N)).setCell ⟨W.heap.size + 1, 1, none⟩ (.slice (some ⟨B, 0, none⟩) 1 cap)) v4 v5 :=
         G3.below h8 (((Below.refl W.heap.size w3).setCell (p := ⟨W.heap.size + 1, 0, none⟩) (by show W.heap.size ≤ W.heap.size + 1; omega) _).setCell (p := ⟨W.heap.size + 1, 1, none⟩) (by show W.heap.size ≤ W.heap.size + 1; omega) _)
       have hBz : ((w3.setCell ⟨W.heap.size + 1, 0, none⟩ (.int .i64 N)).setCell ⟨W.heap.size + 1, 1, none⟩ (.slice (some ⟨B, 0, none⟩) 1 cap)).heap[B]? = some (.cells ⟨.string s :: more⟩ 9) := by
         rw [setCell_other _ hBne, setCell_other _ hBne]; exact hB
       go_wp2_with (go_at_fn 38; refine (hdig _ B cap s more hGz hBz hs hc1 hc).mono ?_)
       rintro e w4 ⟨sd, rfl, hsd⟩
       go_wp2
       go_ret
       exact ⟨sd, rfl, hsd⟩)
    | (have hGz : Glob (w3.alloc (.cells #[.int .i64 N, .slice (some ⟨B, 0, none⟩) 1 cap] 87)) v4 v5 := G3.below (by have := hb3.size; simp at this; omega) ((Below.refl w3.heap.size w3).alloc (Nat.le_refl _) _)
       have hBz : (w3.alloc (.cells #[.int .i64 N, .slice (some ⟨B, 0, none⟩) 1 cap] 87)).heap[B]? = some (.cells ⟨.string s :: more⟩ 9) := alloc_old hB
       go_wp2_with (go_at_fn 38; refine (hdig _ B cap s more hGz hBz hs hc1 hc).mono ?_)
       rintro e w4 ⟨sd, rfl, hsd⟩
       go_wp2
       go_ret
       exact ⟨sd, rfl, hsd⟩)
theorem no_init23 : Tryz.prog.inits.idxOf? 23 = none := by kernel_rfl
theorem tells_size {v4 v5 : Value} {W : World} (G : Glob W v4 v5) {nb x : ByteArray} {N : Int} {M : Nat}
    (hnum : ∀ w, Glob w v4 v5 → Calls Tryz.prog 82 #[.string nb] w fun e w' => e = .returned (.tuple #[.int .i64 N, .bool true]) ∧ Glob w' v4 v5 ∧ Below w.heap.size w w')
    (hdig : ∀ w B cap s more, Glob w v4 v5 → w.heap[B]? = some (.cells ⟨.string s :: more⟩ 9) → s.size ≤ 65536 → 1 ≤ cap → cap ≤ more.length + 1 → Calls Tryz.prog 38 #[.agg #[.int .i64 N, .slice (some ⟨B, 0, none⟩) 1 cap]] w fun e _ => ∃ s, e = .returned (.string s) ∧ s.size = M)
    (hx : XOk x) (hn : nb.size ≤ 65536) : (tellsOut v4 v5 [wSha, nb, x]).size = M := by
  obtain ⟨_, W1, mb, rfl, _, hM, hb⟩ := (commands_calls W).some_end
  have h8 := G.size
  have G2 : Glob (W1.alloc (.cells ⟨[wSha, nb, x].map Value.string⟩ 9)) v4 v5 := G.below h8 (hb.alloc hb.size _)
  have hM2 : MapOk (W1.alloc (.cells ⟨[wSha, nb, x].map Value.string⟩ 9)) mb := hM.to fun o ho => alloc_old ho
  have hA := alloc_new W1 (.cells ⟨[wSha, nb, x].map Value.string⟩ 9)
  have hs : ∀ s ∈ [wSha, nb, x], s.size ≤ 65536 := fun s hs => by
    simp only [List.mem_cons, List.not_mem_nil, or_false] at hs
    rcases hs with rfl | rfl | rfl
    · decide
    · exact hn
    · have := hx.byte.2.1; omega
  have c1 := tells_calls G2 hM2 hA (by simp) (by simp) hs
  have c2 := Tryz.look_calls G2 hM2 hnum hdig hx hA
  have k1 : Calls Tryz.prog 23 #[.map (some mb), .slice (some ⟨W1.heap.size, 0, none⟩) 3 3] (W1.alloc (.cells ⟨[wSha, nb, x].map Value.string⟩ 9)) fun e _ => ∃ v, e = .returned v ∧ v = .string (tellsOut v4 v5 [wSha, nb, x]) := c1.mono fun _ _ h => ⟨_, h.1, rfl⟩
  have k2 : Calls Tryz.prog 23 #[.map (some mb), .slice (some ⟨W1.heap.size, 0, none⟩) 3 3] (W1.alloc (.cells ⟨[wSha, nb, x].map Value.string⟩ 9)) fun e _ => ∃ v, e = .returned v ∧ ∃ s, v = .string s ∧ s.size = M := c2.mono fun _ _ ⟨s, h1, h2⟩ => ⟨_, h1, s, rfl, h2⟩
  obtain ⟨v, w', rfl, s, hs, hM⟩ := k1.same k2 no_init23
  simp only [Value.string.injEq] at hs
  rw [hs]; exact hM
theorem size256 {v4 v5 : Value} {W : World} (G : Glob W v4 v5) {x : ByteArray} (hx : XOk x) : (tellsOut v4 v5 [wSha, w256, x]).size = 64 :=
  tells_size G (N := 256) (fun _ g => number256 g) (fun _ _ _ _ _ g hB hs h1 hc => digest256 g hB hs h1 hc) hx (by decide)
theorem size384 {v4 v5 : Value} {W : World} (G : Glob W v4 v5) {x : ByteArray} (hx : XOk x) : (tellsOut v4 v5 [wSha, w384, x]).size = 96 :=
  tells_size G (N := 384) (fun _ g => number384 g) (fun _ _ _ _ _ g hB hs h1 hc => digest384 g hB hs h1 hc) hx (by decide)
end Go.Proofs
